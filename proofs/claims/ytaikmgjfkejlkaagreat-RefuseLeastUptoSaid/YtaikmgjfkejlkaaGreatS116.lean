/- Part of the proof that the law RefuseLeast returns true and leaves its arguments as they were, for all arguments of bulk at most 1048576 (the Upto form). -/
import Derived.Test.YtaikmgjfkejlkaaGreatS115
import Derived.Test.YtaikmgjfkejlkaaGreatRows
import Derived.WalkKit
import Derived.ProofKit
import Derived.OpenShut
import Derived.JoinedCond
import Derived.Below
import Derived.ChangeSame
import Derived.Carry
set_option linter.all false
set_option maxHeartbeats 4000000
set_option maxRecDepth 100000
section
namespace Go.Proofs.YtaikmgjfkejlkaaGreat.refuseLeast
open Go.ChangeShapes Go.WideShapes Go.ChangeAt Go.RowKit Go.Sx
set_option linter.unusedVariables false
theorem ard (V:Tag.al.T)(W:List Tag.u0.T)(E:Int)(O:Int)(X:Int)(U:Int)(Y:Int):mP [.agg (cellsOf .al V),.rs .u0 W,.v (.int .i64 E),.v (.int .i64 O),.v (.int .i64 X),.v (.int .u8 U),.v (.int .u16 Y)]=some (.det (jN V W E O X U Y) (.v (.bool (jy V W E O X U Y)))):=by
 unfold mP;simp only[go_sem,Nat.reduceBEq]
theorem aq3 {W:World}{cs0:Array Value}(h0:RC (λ_=>False) dv W (d_ .al) cs0.toList){v1:Value}(h1:RC (λ_=>False) dv W [.r .u0] [v1])(U:Int)(h2:(-9223372036854775808)<=U/\U<=9223372036854775807)(V:Int)(h3:(-9223372036854775808)<=V/\V<=9223372036854775807)(Y:Int)(h4:(-9223372036854775808)<=Y/\Y<=9223372036854775807)(X:Int)(h5:0<=X/\X<=255)(O:Int)(h6:0<=O/\O<=65535):
  Calls Tryz.prog 6 #[.agg cs0,v1,.int .i64 U,.int .i64 V,.int .i64 Y,.int .u8 X,.int .u16 O] W (λe W'=>e=.returned (.bool true)/\Below W.heap.size W W'):=by
 obtain⟨x0,r0⟩:=ZK h0;obtain⟨x1,r1⟩:=adE h1;refine(xF.calls _ _ (ard x0 x1 U V Y X O) (TB x0 x1 U V Y X O h2 h3 h4 h5 h6) (λ_=>False) W _ (λb h=>h.elim) ⟨rfl,λj s E=>?_⟩).mono λe W' he=>?_;match j,E with
 |0,E=>cases E;exact r0|1,E=>cases E;exact r1|2,E=>cases E;exact .v _|3,E=>cases E;exact .v _|4,E=>cases E;exact .v _|5,E=>cases E;exact .v _|6,E=>cases E;exact .v _
 rcases he with⟨s,u,bn,hs,rfl,hh,hb⟩ | ⟨x,hx,_⟩;simp only[dL]at hs;subst hs;rw[TA x0 x1 U V Y X O h2 h3 h4 h5 h6]at hh;have:=hh.val;simp only[wR]at this;rw[cG this];exact⟨rfl,hb⟩;exact hx.elim
theorem own:ownKnob Tryz.prog.godebug=none:=by kernel_rfl
theorem small (H:Type):Small (λd:DataW H=>Rows.uptoBulk d<=1048576) where
 agg l h d hd:=by
  have h1:=bulks.aqX hd;simp only[Rows.uptoBulk]at h;omega
 slice l m h:=by
  have h1:=bulks.aq7 l m;have h2:=bulks.aqH l m;refine⟨by unfold aH;omega,λd hd=>?_⟩;have:=bulks.aqX hd;omega
theorem laid:laidOutB Tryz.prog=true:=by kernel_rfl
set_option maxRecDepth 100000 in
theorem contract (H:Type)(enc:TypeId×Value->H)(W:World)(base:Nat)(args:Array Value)(ds gs:List (DataW H))(O:List MemPlace)
  (E:∀ (j:Nat) t v,Tryz.f6.params[j]? =some t->args[j]? =some v->Value.okWide Tryz.prog W .any base t v)
  (hW:DataW.Whole enc Tryz.prog Tryz.f6.params.toList Rows.refuseLeastSpec.vars false W args.toList ds gs O) (hk:Rows.uptoSmall H (ds++gs)=true):
  Calls Tryz.prog 6 args W λe W'=>∃ v,e=.returned v/\Rows.refuseLeastSpec.post enc Tryz.prog Tryz.f6 false true false false W args v W':=by
 have hW':=hW;obtain⟨p,q,hA0,hV,rfl,hfz,hnd⟩:=hW;have hA:DataW.TrodAll enc Tryz.prog W 0 (λ_=>true) true Tryz.f6.params.toList args.toList ds p:=hA0;rw[Tryz.params6]at hA E;obtain⟨V,vs0,d0,ds0,p0,q0,U,rfl,rfl,h0,r0⟩:=trodAll_cons hA;obtain⟨v1,vs1,d1,ds1,p1,q1,rfl,rfl,rfl,h1,r1⟩:=trodAll_cons r0;obtain⟨v2,vs2,d2,ds2,p2,q2,rfl,rfl,rfl,h2,r2⟩:=trodAll_cons r1;obtain⟨v3,vs3,d3,ds3,p3,q3,rfl,rfl,rfl,h3,r3⟩:=trodAll_cons r2;obtain⟨v4,vs4,d4,ds4,p4,q4,rfl,rfl,rfl,h4,r4⟩:=trodAll_cons r3;obtain⟨v5,vs5,d5,ds5,p5,q5,rfl,rfl,rfl,h5,r5⟩:=trodAll_cons r4;obtain⟨v6,vs6,d6,ds6,p6,q6,rfl,rfl,rfl,h6,r6⟩:=trodAll_cons r5;obtain⟨rfl,rfl,rfl⟩:=trodAll_nil r6;obtain rfl:args= #[V,v1,v2,v3,v4,v5,v6]:=by cases args;simp_all
 obtain⟨rfl,rfl⟩:=trodVars_none hV;have hb:=bulks.bound hk;simp only[Rows.uptoBulkAll,List.append_nil,List.cons_append,List.nil_append]at hb;have ho:∀ b,¬cH (λ_=>False) dv b:=λb h=>by
  rcases h with h| ⟨_,_,h,_⟩;exact h;cases h
 have s0:∃ cs,V=.agg cs:=by
  have:=E 0 31 V rfl rfl;simp only[Value.okWide,Tryz.underlying31]at this;exact⟨_,this.choose_spec.1⟩
 obtain⟨Y,rfl⟩:=s0;obtain⟨a1,l1,c1,rfl⟩:=okWide_slice Tryz.underlying32 (E 1 32 v1 rfl rfl);obtain⟨a2,rfl,rfl,rfl,w2⟩:=open_int Tryz.underlying3 (E 2 3 v2 rfl rfl) h2;have R2:(-9223372036854775808)<=a2/\a2<=9223372036854775807:=by simpa[Lit.wf,IntKind.min,IntKind.max,IntKind.signed,IntKind.bits]using w2
 obtain⟨a3,rfl,rfl,rfl,w3⟩:=open_int Tryz.underlying3 (E 3 3 v3 rfl rfl) h3;have R3:(-9223372036854775808)<=a3/\a3<=9223372036854775807:=by simpa[Lit.wf,IntKind.min,IntKind.max,IntKind.signed,IntKind.bits]using w3
 obtain⟨a4,rfl,rfl,rfl,w4⟩:=open_int Tryz.underlying3 (E 4 3 v4 rfl rfl) h4;have R4:(-9223372036854775808)<=a4/\a4<=9223372036854775807:=by simpa[Lit.wf,IntKind.min,IntKind.max,IntKind.signed,IntKind.bits]using w4
 obtain⟨a5,rfl,rfl,rfl,w5⟩:=open_int Tryz.underlying5 (E 5 5 v5 rfl rfl) h5;have R5:0<=a5/\a5<=255:=by simpa[Lit.wf,IntKind.min,IntKind.max,IntKind.signed,IntKind.bits]using w5
 obtain⟨a6,rfl,rfl,rfl,w6⟩:=open_int Tryz.underlying53 (E 6 53 v6 rfl rfl) h6;have R6:0<=a6/\a6<=65535:=by simpa[Lit.wf,IntKind.min,IntKind.max,IntKind.signed,IntKind.bits]using w6
 have R0:RC (λ_=>False) dv W (d_ .al) Y.toList:=by
  obtain⟨f,X⟩:=h0;exact tx (n:=8) (t:=31) (small H) ho _ kr f _ _ X (by show Rows.uptoBulk d0<=_;omega)
 have R1:RC (λ_=>False) dv W [.r .u0] [.slice a1 l1 c1]:=by
  obtain⟨f,X⟩:=h1;exact tx (n:=8) (t:=32) (small H) ho _ kr f _ _ X (by show Rows.uptoBulk d1<=_;omega)
 refine(aq3 R0 R1 _ R2 _ R3 _ R4 _ R5 _ R6).mono λe W' ⟨he,hg⟩ =>?_;subst he;exact⟨_,rfl,Xv laid kr hW' kr Tryz.underlying4 rfl rfl rfl rfl hg⟩
def zeroV:Kd->Value
 | .n k=>.int k 0| .b=>.bool false| .s=>.string (ByteArray.mk #[])| .r _=>.slice none 0 0| .m _ _=>.map none| .f=>.nilFunc
def wit:Array Value:= #[.agg ((d_ .al).map zeroV).toArray,.slice none 0 0,.int .i64 0,.int .i64 0,.int .i64 0,.int .u8 0,.int .u16 0]
set_option maxRecDepth 100000 in
theorem lifted (V:Os)(E:V.Started)(H:Type)(enc:TypeId×Value->H)(F:Stop.Interp):
  ReturnsInHanded {} Tryz.checked V 6 .any ((Rows.OpenSpec.upto Rows.refuseLeastSpec).pre6 enc Tryz.prog Tryz.f6 Rows.refuseLeastUptoRow.domain false) (((Rows.OpenSpec.upto Rows.refuseLeastSpec).at F).post enc Tryz.prog Tryz.f6 false true false false):=by
 refine returnsInHanded_of_cond (C:=Tryz.checked) (s:=Rows.OpenSpec.upto Rows.refuseLeastSpec) (k:=Rows.uptoSmall) rfl own E kr Tryz.func6
  (OpenSpec.witness (enc:=enc) (C:=Tryz.checked) (s:=Rows.OpenSpec.upto Rows.refuseLeastSpec) (k:=Rows.uptoSmall) rfl false ⟨#[],wit,[]⟩ 8 kr kr kr
   (x:=(DataW.whole enc Tryz.prog (World.plainHolding Tryz.prog V ⟨#[],wit,[]⟩).memory Tryz.f6.params.toList Rows.refuseLeastSpec.vars false wit.toList 8).getD ([],[],[])) kr rfl kr) ?_
 intro W base args ds X O U Y _ hk _;exact contract H enc W base args ds X O U Y hk
end Go.Proofs.YtaikmgjfkejlkaaGreat.refuseLeast
end
