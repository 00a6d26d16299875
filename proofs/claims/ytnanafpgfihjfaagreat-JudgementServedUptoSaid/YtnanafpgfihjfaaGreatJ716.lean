/- Part of the proof that the law JudgementServed returns true and leaves its arguments as they were, for all arguments of bulk at most 1048576 (the Upto form). -/
import Derived.Test.YtnanafpgfihjfaaGreatJ715
import Derived.Test.YtnanafpgfihjfaaGreatRows
import Derived.WalkKit
import Derived.ProofKit
import Derived.OpenShut
import Derived.JoinedCond
import Derived.Below
import Derived.ChangeSame
import Derived.Carry
set_option linter.all false
set_option maxHeartbeats 4000000
set_option maxRecDepth 100000
section
namespace Go.Proofs.YtnanafpgfihjfaaGreat.judgementServed
open Go.ChangeShapes Go.WideShapes Go.ChangeAt Go.RowKit Go.Sx
set_option linter.unusedVariables false
theorem con_eq (x0:Tag.district.T)(x1:List Tag.claim.T)(x2:List Tag.judgement.T):lM [.agg (cellsOf .district x0),.rs .claim x1,.rs .judgement x2]=some (.det (fv x0 x1 x2) (.v (.bool (f5 x0 x1 x2)))):=by
 unfold lM;simp only[go_sem,Nat.reduceBEq]
theorem call_true {W:World}{cs0:Array Value}(h0:RC (fun _=>False) cF W (eO .district) cs0.toList){v1:Value}(h1:RC (fun _=>False) cF W [.r .claim] [v1]){v2:Value}(h2:RC (fun _=>False) cF W [.r .judgement] [v2])(u2:∀ l:List Tag.judgement.T,Rel (fun _=>False) cF W (.rs .judgement l) v2->∀ y∈(show List Judgement from l),(-9223372036854775808:Int)<=y.of_/\y.of_<9223372036854775808):
  Calls Tryz.prog 9 #[.agg cs0,v1,v2] W (fun e W'=>e=.returned (.bool true)/\Below W.heap.size W W'):=by
 obtain⟨x0,r0⟩:=XV h0;obtain⟨x1,r1⟩:=Vi h1;obtain⟨x2,r2⟩:=Vi h2;refine(wy.calls _ _ (con_eq x0 x1 x2) (NS x0 x1 x2 (u2 x2 r2)) (fun _=>False) W _ (fun b h=>h.elim) ⟨rfl,fun j s hj=>?_⟩).mono fun e W' he=>?_;match j,hj with
 |0,hj=>cases hj;exact r0|1,hj=>cases hj;exact r1|2,hj=>cases hj;exact r2
 rcases he with⟨s,u,own',hs,rfl,hh,hb⟩ | ⟨x,hx,_⟩;simp only[dw]at hs;subst hs;rw[NT x0 x1 x2 (u2 x2 r2)]at hh;have:=hh.val;simp only[x4]at this;rw[bR this];exact⟨rfl,hb⟩;exact hx.elim
theorem own:ownKnob Tryz.prog.godebug=none:=by kernel_rfl
theorem small (H:Type):Small (fun d:DataW H=>Rows.uptoBulk d<=1048576) where
 agg l h d hd:=by
  have h1:=bulks.part_le hd;simp only[Rows.uptoBulk]at h;omega
 slice l m h:=by
  have h1:=bulks.slice_le l m;have h2:=bulks.slice_elems l m;refine⟨by unfold aI;omega,fun d hd=>?_⟩;have:=bulks.part_le hd;omega
theorem laid:laidOutB Tryz.prog=true:=by kernel_rfl
set_option maxRecDepth 100000 in
theorem contract (H:Type)(enc:TypeId×Value->H)(W:World)(base:Nat)(args:Array Value)(ds gs:List (DataW H))(before:List MemPlace)
  (hval:∀ (j:Nat) t v,Tryz.f9.params[j]? =some t->args[j]? =some v->Value.okWide Tryz.prog W .any base t v)
  (hW:DataW.Whole enc Tryz.prog Tryz.f9.params.toList Rows.judgementServedSpec.vars false W args.toList ds gs before) (hk:Rows.uptoSmall H (ds++gs)=true):
  Calls Tryz.prog 9 args W fun e W'=>∃ v,e=.returned v/\Rows.judgementServedSpec.post enc Tryz.prog Tryz.f9 false true false false W args v W':=by
 have hW':=hW;obtain⟨p,q,hA0,hV,rfl,hfz,hnd⟩:=hW;have hA:DataW.TrodAll enc Tryz.prog W 0 (fun _=>true) true Tryz.f9.params.toList args.toList ds p:=hA0;rw[Tryz.params9]at hA hval;obtain⟨v0,vs0,d0,ds0,p0,q0,hargs,rfl,rfl,h0,r0⟩:=trodAll_cons hA;obtain⟨v1,vs1,d1,ds1,p1,q1,rfl,rfl,rfl,h1,r1⟩:=trodAll_cons r0;obtain⟨v2,vs2,d2,ds2,p2,q2,rfl,rfl,rfl,h2,r2⟩:=trodAll_cons r1;obtain⟨rfl,rfl,rfl⟩:=trodAll_nil r2;obtain rfl:args= #[v0,v1,v2]:=by cases args;simp_all
 obtain⟨rfl,rfl⟩:=trodVars_none hV;have hb:=bulks.bound hk;simp only[Rows.uptoBulkAll,List.append_nil,List.cons_append,List.nil_append]at hb;have ho:∀ b,¬cm (fun _=>False) cF b:=fun b h=>by
  rcases h with h| ⟨_,_,h,_⟩;exact h;cases h
 have s0:∃ cs,v0=.agg cs:=by
  have:=hval 0 31 v0 rfl rfl;simp only[Value.okWide,Tryz.underlying31]at this;exact⟨_,this.choose_spec.1⟩
 obtain⟨cs0,rfl⟩:=s0;obtain⟨a1,l1,c1,rfl⟩:=okWide_slice Tryz.underlying32 (hval 1 32 v1 rfl rfl);obtain⟨a2,l2,c2,rfl⟩:=okWide_slice Tryz.underlying33 (hval 2 33 v2 rfl rfl);have R0:RC (fun _=>False) cF W (eO .district) cs0.toList:=by
  obtain⟨f,hf⟩:=h0;exact sq (n:=8) (t:=31) (small H) ho _ kr f _ _ hf (by show Rows.uptoBulk d0<=_;omega)
 have R1:RC (fun _=>False) cF W [.r .claim] [.slice a1 l1 c1]:=by
  obtain⟨f,hf⟩:=h1;exact sq (n:=8) (t:=32) (small H) ho _ kr f _ _ hf (by show Rows.uptoBulk d1<=_;omega)
 have U2:∀ l:List Tag.judgement.T,Rel (fun _=>False) cF W (.rs .judgement l) (.slice a2 l2 c2)->∀ y∈(show List Judgement from l),(-9223372036854775808:Int)<=y.of_/\y.of_<9223372036854775808:=by
  obtain⟨f,hf⟩:=h2;exact Vh Tryz.underlying33 Tryz.underlying66 rfl rfl kr kr kr hf
 have R2:RC (fun _=>False) cF W [.r .judgement] [.slice a2 l2 c2]:=by
  obtain⟨f,hf⟩:=h2;exact sq (n:=8) (t:=33) (small H) ho _ kr f _ _ hf (by show Rows.uptoBulk d2<=_;omega)
 refine(call_true R0 R1 R2 U2).mono fun e W' ⟨he,hg⟩ =>?_;subst he;exact⟨_,rfl,Vj laid kr hW' kr Tryz.underlying4 rfl rfl rfl rfl hg⟩
def zeroV:Kd->Value
 | .n k=>.int k 0| .b=>.bool false| .s=>.string (ByteArray.mk #[])| .r _=>.slice none 0 0| .m _ _=>.map none| .f=>.nilFunc
def wit:Array Value:= #[.agg ((eO .district).map zeroV).toArray,.slice none 0 0,.slice none 0 0]
set_option maxRecDepth 100000 in
theorem lifted (os:Os)(started:os.Started)(H:Type)(enc:TypeId×Value->H)(F:Stop.Interp):
  ReturnsInHanded {} Tryz.checked os 9 .any ((Rows.OpenSpec.upto Rows.judgementServedSpec).pre6 enc Tryz.prog Tryz.f9 Rows.judgementServedUptoRow.domain false) (((Rows.OpenSpec.upto Rows.judgementServedSpec).at F).post enc Tryz.prog Tryz.f9 false true false false):=by
 refine returnsInHanded_of_cond (C:=Tryz.checked) (s:=Rows.OpenSpec.upto Rows.judgementServedSpec) (k:=Rows.uptoSmall) rfl own started kr Tryz.func9
  (OpenSpec.witness (enc:=enc) (C:=Tryz.checked) (s:=Rows.OpenSpec.upto Rows.judgementServedSpec) (k:=Rows.uptoSmall) rfl false ⟨#[],wit,[]⟩ 8 kr kr kr
   (x:=(DataW.whole enc Tryz.prog (World.plainHolding Tryz.prog os ⟨#[],wit,[]⟩).memory Tryz.f9.params.toList Rows.judgementServedSpec.vars false wit.toList 8).getD ([],[],[])) kr rfl kr) ?_
 intro W base args ds gs before hval hW _ hk _;exact contract H enc W base args ds gs before hval hW hk
end Go.Proofs.YtnanafpgfihjfaaGreat.judgementServed
end
