/- Part of the proof that the law RegisterOrder returns true and leaves its arguments as they were, for all arguments of bulk at most 1048576 (the Upto form). -/
import Derived.Test.YthcbieoehjhjfaaGreatQ212
import Derived.Test.YthcbieoehjhjfaaGreatRows
import Derived.WalkKit
import Derived.ProofKit
import Derived.OpenShut
import Derived.JoinedCond
import Derived.Below
import Derived.ChangeSame
import Derived.Carry
set_option linter.all false
set_option maxHeartbeats 4000000
set_option maxRecDepth 100000
section
namespace Go.Proofs.YthcbieoehjhjfaaGreat.registerOrder
open Go.ChangeShapes Go.WideShapes Go.ChangeAt Go.RowKit Go.Sx
set_option linter.unusedVariables false
theorem con_eq (x0:Tag.district.T)(x1:List Tag.deed.T)(x2:Tag.deed.T)(x3:Tag.deed.T):gc [.agg (cellsOf .district x0),.rs .deed x1,.agg (cellsOf .deed x2),.agg (cellsOf .deed x3)]=some (.det (dh x0 x1 x2 x3) (.v (.bool (dC x0 x1 x2 x3)))):=by
 unfold gc;simp only[go_sem,Nat.reduceBEq]
theorem call_true {W:World}{cs0:Array Value}(h0:RC (fun _=>False) bX W (b9 .district) cs0.toList){v1:Value}(h1:RC (fun _=>False) bX W [.r .deed] [v1]){cs2:Array Value}(h2:RC (fun _=>False) bX W (b9 .deed) cs2.toList){cs3:Array Value}(h3:RC (fun _=>False) bX W (b9 .deed) cs3.toList):
  Calls Tryz.prog 8 #[.agg cs0,v1,.agg cs2,.agg cs3] W (fun e W'=>e=.returned (.bool true)/\Below W.heap.size W W'):=by
 obtain⟨x0,r0⟩:=xn h0;obtain⟨x1,r1⟩:=KT h1;obtain⟨x2,r2⟩:=xn h2;obtain⟨x3,r3⟩:=xn h3;refine(mK.calls _ _ (con_eq x0 x1 x2 x3) (HW x0 x1 x2 x3) (fun _=>False) W _ (fun b h=>h.elim) ⟨rfl,fun j s hj=>?_⟩).mono fun e W' he=>?_
 ·match j,hj with
  |0,hj=>cases hj;exact r0
  |1,hj=>cases hj;exact r1
  |2,hj=>cases hj;exact r2
  |3,hj=>cases hj;exact r3
 ·rcases he with⟨s,u,own',hs,rfl,hh,hb⟩ | ⟨x,hx,_⟩
  ·simp only[cH]at hs;subst hs;rw[HX x0 x1 x2 x3]at hh;have:=hh.val;simp only[nv]at this;rw[bo this];exact⟨rfl,hb⟩
  ·exact hx.elim
theorem own:ownKnob Tryz.prog.godebug=none:=by kernel_rfl
theorem small (H:Type):Small (fun d:DataW H=>Rows.uptoBulk d<=1048576) where
 agg l h d hd:=by
  have h1:=bulks.part_le hd;simp only[Rows.uptoBulk]at h;omega
 slice l m h:=by
  have h1:=bulks.slice_le l m;have h2:=bulks.slice_elems l m;refine⟨by unfold bR;omega,fun d hd=>?_⟩;have:=bulks.part_le hd;omega
theorem laid:laidOutB Tryz.prog=true:=by kernel_rfl
set_option maxRecDepth 100000 in
theorem contract (H:Type)(enc:TypeId×Value->H)(W:World)(base:Nat)(args:Array Value)(ds gs:List (DataW H))(before:List MemPlace)
  (hval:∀ (j:Nat) t v,Tryz.f8.params[j]? =some t->args[j]? =some v->Value.okWide Tryz.prog W .any base t v)
  (hW:DataW.Whole enc Tryz.prog Tryz.f8.params.toList Rows.registerOrderSpec.vars false W args.toList ds gs before) (hk:Rows.uptoSmall H (ds++gs)=true):
  Calls Tryz.prog 8 args W fun e W'=>∃ v,e=.returned v/\Rows.registerOrderSpec.post enc Tryz.prog Tryz.f8 false true false false W args v W':=by
 have hW':=hW;obtain⟨p,q,hA0,hV,rfl,hfz,hnd⟩:=hW;have hA:DataW.TrodAll enc Tryz.prog W 0 (fun _=>true) true Tryz.f8.params.toList args.toList ds p:=hA0;rw[Tryz.params8]at hA hval;obtain⟨v0,vs0,d0,ds0,p0,q0,hargs,rfl,rfl,h0,r0⟩:=trodAll_cons hA;obtain⟨v1,vs1,d1,ds1,p1,q1,rfl,rfl,rfl,h1,r1⟩:=trodAll_cons r0;obtain⟨v2,vs2,d2,ds2,p2,q2,rfl,rfl,rfl,h2,r2⟩:=trodAll_cons r1;obtain⟨v3,vs3,d3,ds3,p3,q3,rfl,rfl,rfl,h3,r3⟩:=trodAll_cons r2;obtain⟨rfl,rfl,rfl⟩:=trodAll_nil r3;obtain rfl:args= #[v0,v1,v2,v3]:=by cases args;simp_all
 obtain⟨rfl,rfl⟩:=trodVars_none hV;have hb:=bulks.bound hk;simp only[Rows.uptoBulkAll,List.append_nil,List.cons_append,List.nil_append]at hb;have ho:∀ b,¬bD (fun _=>False) bX b:=fun b h=>by
  rcases h with h| ⟨_,_,h,_⟩
  ·exact h
  ·cases h
 have s0:∃ cs,v0=.agg cs:=by
  have:=hval 0 31 v0 rfl rfl;simp only[Value.okWide,Tryz.underlying31]at this;exact⟨_,this.choose_spec.1⟩
 obtain⟨cs0,rfl⟩:=s0;obtain⟨a1,l1,c1,rfl⟩:=okWide_slice Tryz.underlying32 (hval 1 32 v1 rfl rfl);have s2:∃ cs,v2=.agg cs:=by
  have:=hval 2 35 v2 rfl rfl;simp only[Value.okWide,Tryz.underlying35]at this;exact⟨_,this.choose_spec.1⟩
 obtain⟨cs2,rfl⟩:=s2;have s3:∃ cs,v3=.agg cs:=by
  have:=hval 3 35 v3 rfl rfl;simp only[Value.okWide,Tryz.underlying35]at this;exact⟨_,this.choose_spec.1⟩
 obtain⟨cs3,rfl⟩:=s3;have R0:RC (fun _=>False) bX W (b9 .district) cs0.toList:=by
  obtain⟨f,hf⟩:=h0;exact iB (n:=8) (t:=31) (small H) ho _ kr f _ _ hf (by show Rows.uptoBulk d0<=_;omega)
 have R1:RC (fun _=>False) bX W [.r .deed] [.slice a1 l1 c1]:=by
  obtain⟨f,hf⟩:=h1;exact iB (n:=8) (t:=32) (small H) ho _ kr f _ _ hf (by show Rows.uptoBulk d1<=_;omega)
 have R2:RC (fun _=>False) bX W (b9 .deed) cs2.toList:=by
  obtain⟨f,hf⟩:=h2;exact iB (n:=8) (t:=35) (small H) ho _ kr f _ _ hf (by show Rows.uptoBulk d2<=_;omega)
 have R3:RC (fun _=>False) bX W (b9 .deed) cs3.toList:=by
  obtain⟨f,hf⟩:=h3;exact iB (n:=8) (t:=35) (small H) ho _ kr f _ _ hf (by show Rows.uptoBulk d3<=_;omega)
 refine(call_true R0 R1 R2 R3).mono fun e W' ⟨he,hg⟩ =>?_;subst he;exact⟨_,rfl,Fu laid kr hW' kr Tryz.underlying4 rfl rfl rfl rfl hg⟩
def zeroV:Kd->Value
 | .n k=>.int k 0
 | .b=>.bool false
 | .s=>.string (ByteArray.mk #[])
 | .r _=>.slice none 0 0
 | .m _ _=>.map none
 | .f=>.nilFunc
def wit:Array Value:= #[.agg ((b9 .district).map zeroV).toArray,.slice none 0 0,.agg ((b9 .deed).map zeroV).toArray,.agg ((b9 .deed).map zeroV).toArray]
set_option maxRecDepth 100000 in
theorem lifted (os:Os)(started:os.Started)(H:Type)(enc:TypeId×Value->H)(F:Stop.Interp):
  ReturnsInHanded {} Tryz.checked os 8 .any ((Rows.OpenSpec.upto Rows.registerOrderSpec).pre6 enc Tryz.prog Tryz.f8 Rows.registerOrderUptoRow.domain false) (((Rows.OpenSpec.upto Rows.registerOrderSpec).at F).post enc Tryz.prog Tryz.f8 false true false false):=by
 refine returnsInHanded_of_cond (C:=Tryz.checked) (s:=Rows.OpenSpec.upto Rows.registerOrderSpec) (k:=Rows.uptoSmall) rfl own started kr Tryz.func8
  (OpenSpec.witness (enc:=enc) (C:=Tryz.checked) (s:=Rows.OpenSpec.upto Rows.registerOrderSpec) (k:=Rows.uptoSmall) rfl false ⟨#[],wit,[]⟩ 8 kr kr kr
   (x:=(DataW.whole enc Tryz.prog (World.plainHolding Tryz.prog os ⟨#[],wit,[]⟩).memory Tryz.f8.params.toList Rows.registerOrderSpec.vars false wit.toList 8).getD ([],[],[])) kr rfl kr) ?_
 intro W base args ds gs before hval hW _ hk _;exact contract H enc W base args ds gs before hval hW hk
theorem over:Rows.registerOrderUptoRow.holds Tryz.pinned (Rows.OpenSpec.upto Rows.registerOrderSpec):=
 OpenClaim.holds_of_cond 8 Tryz.f8 rfl rfl rfl rfl rfl rfl rfl ⟨rfl,rfl,rfl,rfl,rfl⟩ rfl rfl rfl rfl rfl kr Tryz.func8 kr
  (of_decide_eq_true kr) (by unfold Func.isWrapper;first|(rw[if_pos (by decide+kernel)];kernel_rfl) |(rw[if_neg (by decide+kernel)];exact⟨rfl,rfl⟩))
  (fun os started H enc _ F=>lifted os started H enc F)
theorem proved:Rows.RegisterOrderUptoSaid:=over
end Go.Proofs.YthcbieoehjhjfaaGreat.registerOrder
end
