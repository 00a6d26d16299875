/- Part of the proof that the law RefuseEither returns true and leaves its arguments as they were, for all arguments of bulk at most 1048576 (the Upto form). -/
import Derived.Test.YtaikmgjfkejlkaaGreatE115
import Derived.Test.YtaikmgjfkejlkaaGreatRows
import Derived.WalkKit
import Derived.ProofKit
import Derived.OpenShut
import Derived.JoinedCond
import Derived.Below
import Derived.ChangeSame
import Derived.Carry
set_option linter.all false
set_option maxHeartbeats 4000000
set_option maxRecDepth 100000
section
namespace Go.Proofs.YtaikmgjfkejlkaaGreat.refuseEither
open Go.ChangeShapes Go.WideShapes Go.ChangeAt Go.RowKit Go.Sx
set_option linter.unusedVariables false
theorem aqM (E:Tag.al.T)(O:List Tag.B1.T)(V:Int)(W:Int)(X:Int):Sx.mt [.agg (cellsOf .al E),.rs .B1 O,.v (.int .i64 V),.v (.int .i64 W),.v (.int .i64 X)]=some (.det (jG E O V W X) (.v (.bool (i6 E O V W X)))):=by
 unfold Sx.mt;simp only[go_sem,Nat.reduceBEq]
theorem aqp {W:World}{Y:Array Value}(h0:RC (λ_=>False) dF W (et .al) Y.toList){v1:Value}(h1:RC (λ_=>False) dF W [.r .B1] [v1])(V:Int)(h2:(-9223372036854775808)<=V/\V<=9223372036854775807)(X:Int)(h3:(-9223372036854775808)<=X/\X<=9223372036854775807)(O:Int)(h4:(-9223372036854775808)<=O/\O<=9223372036854775807):
  Calls Tryz.prog 5 #[.agg Y,v1,.int .i64 V,.int .i64 X,.int .i64 O] W (λe W'=>e=.returned (.bool true)/\Below W.heap.size W W'):=by
 obtain⟨x0,r0⟩:=Zz h0;obtain⟨x1,r1⟩:=adp h1;refine(wF.calls _ _ (aqM x0 x1 V X O) (Qm x0 x1 V X O h2 h3 h4) (λ_=>False) W _ (λb h=>h.elim) ⟨rfl,λj s E=>?_⟩).mono λe W' he=>?_;match j,E with
 |0,E=>cases E;exact r0|1,E=>cases E;exact r1|2,E=>cases E;exact .v _|3,E=>cases E;exact .v _|4,E=>cases E;exact .v _
 rcases he with⟨s,u,ee,hs,rfl,hh,hb⟩ | ⟨x,hx,_⟩;simp only[dZ]at hs;subst hs;rw[Ql x0 x1 V X O h2 h3 h4]at hh;have:=hh.val;simp only[wY]at this;rw[cT this];exact⟨rfl,hb⟩;exact hx.elim
theorem own:ownKnob Tryz.prog.godebug=none:=by kernel_rfl
theorem small (H:Type):Small (λd:DataW H=>Rows.uptoBulk d<=1048576) where
 agg l h d hd:=by
  have h1:=bulks.aqn hd;simp only[Rows.uptoBulk]at h;omega
 slice l m h:=by
  have h1:=bulks.aqu l m;have h2:=bulks.aqc l m;refine⟨by unfold aN;omega,λd hd=>?_⟩;have:=bulks.aqn hd;omega
theorem laid:laidOutB Tryz.prog=true:=by kernel_rfl
set_option maxRecDepth 100000 in
theorem contract (H:Type)(enc:TypeId×Value->H)(W:World)(base:Nat)(args:Array Value)(ds gs:List (DataW H))(O:List MemPlace)
  (E:∀ (j:Nat) t v,Tryz.f5.params[j]? =some t->args[j]? =some v->Value.okWide Tryz.prog W .any base t v)
  (hW:DataW.Whole enc Tryz.prog Tryz.f5.params.toList Rows.refuseEitherSpec.vars false W args.toList ds gs O) (hk:Rows.uptoSmall H (ds++gs)=true):
  Calls Tryz.prog 5 args W λe W'=>∃ v,e=.returned v/\Rows.refuseEitherSpec.post enc Tryz.prog Tryz.f5 false true false false W args v W':=by
 have hW':=hW;obtain⟨p,q,X,hV,rfl,hfz,hnd⟩:=hW;have hA:DataW.TrodAll enc Tryz.prog W 0 (λ_=>true) true Tryz.f5.params.toList args.toList ds p:=X;rw[Tryz.params5]at hA E;obtain⟨Y,vs0,d0,ds0,p0,q0,hargs,rfl,rfl,h0,r0⟩:=trodAll_cons hA;obtain⟨v1,vs1,d1,ds1,p1,q1,rfl,rfl,rfl,h1,r1⟩:=trodAll_cons r0;obtain⟨v2,vs2,d2,ds2,p2,q2,rfl,rfl,rfl,h2,r2⟩:=trodAll_cons r1;obtain⟨v3,vs3,d3,ds3,p3,q3,rfl,rfl,rfl,h3,r3⟩:=trodAll_cons r2;obtain⟨v4,vs4,d4,ds4,p4,q4,rfl,rfl,rfl,h4,r4⟩:=trodAll_cons r3;obtain⟨rfl,rfl,rfl⟩:=trodAll_nil r4;obtain rfl:args= #[Y,v1,v2,v3,v4]:=by cases args;simp_all
 obtain⟨rfl,rfl⟩:=trodVars_none hV;have hb:=bulks.bound hk;simp only[Rows.uptoBulkAll,List.append_nil,List.cons_append,List.nil_append]at hb;have ho:∀ b,¬dg (λ_=>False) dF b:=λb h=>by
  rcases h with h| ⟨_,_,h,_⟩;exact h;cases h
 have s0:∃ cs,Y=.agg cs:=by
  have:=E 0 31 Y rfl rfl;simp only[Value.okWide,Tryz.underlying31]at this;exact⟨_,this.choose_spec.1⟩
 obtain⟨V,rfl⟩:=s0;obtain⟨a1,l1,c1,rfl⟩:=okWide_slice Tryz.underlying32 (E 1 32 v1 rfl rfl);obtain⟨a2,rfl,rfl,rfl,w2⟩:=open_int Tryz.underlying3 (E 2 3 v2 rfl rfl) h2;have R2:(-9223372036854775808)<=a2/\a2<=9223372036854775807:=by simpa[Lit.wf,IntKind.min,IntKind.max,IntKind.signed,IntKind.bits]using w2
 obtain⟨a3,rfl,rfl,rfl,w3⟩:=open_int Tryz.underlying3 (E 3 3 v3 rfl rfl) h3;have R3:(-9223372036854775808)<=a3/\a3<=9223372036854775807:=by simpa[Lit.wf,IntKind.min,IntKind.max,IntKind.signed,IntKind.bits]using w3
 obtain⟨a4,rfl,rfl,rfl,w4⟩:=open_int Tryz.underlying3 (E 4 3 v4 rfl rfl) h4;have R4:(-9223372036854775808)<=a4/\a4<=9223372036854775807:=by simpa[Lit.wf,IntKind.min,IntKind.max,IntKind.signed,IntKind.bits]using w4
 have R0:RC (λ_=>False) dF W (et .al) V.toList:=by
  obtain⟨f,hf⟩:=h0;exact tw (n:=8) (t:=31) (small H) ho _ kr f _ _ hf (by show Rows.uptoBulk d0<=_;omega)
 have R1:RC (λ_=>False) dF W [.r .B1] [.slice a1 l1 c1]:=by
  obtain⟨f,hf⟩:=h1;exact tw (n:=8) (t:=32) (small H) ho _ kr f _ _ hf (by show Rows.uptoBulk d1<=_;omega)
 refine(aqp R0 R1 _ R2 _ R3 _ R4).mono λe W' ⟨he,hg⟩ =>?_;subst he;exact⟨_,rfl,Xn laid kr hW' kr Tryz.underlying4 rfl rfl rfl rfl hg⟩
def zeroV:Kd->Value
 | .n k=>.int k 0| .b=>.bool false| .s=>.string (ByteArray.mk #[])| .r _=>.slice none 0 0| .m _ _=>.map none| .f=>.nilFunc
def wit:Array Value:= #[.agg ((et .al).map zeroV).toArray,.slice none 0 0,.int .i64 0,.int .i64 0,.int .i64 0]
set_option maxRecDepth 100000 in
theorem lifted (X:Os)(E:X.Started)(H:Type)(enc:TypeId×Value->H)(F:Stop.Interp):
  ReturnsInHanded {} Tryz.checked X 5 .any ((Rows.OpenSpec.upto Rows.refuseEitherSpec).pre6 enc Tryz.prog Tryz.f5 Rows.refuseEitherUptoRow.domain false) (((Rows.OpenSpec.upto Rows.refuseEitherSpec).at F).post enc Tryz.prog Tryz.f5 false true false false):=by
 refine returnsInHanded_of_cond (C:=Tryz.checked) (s:=Rows.OpenSpec.upto Rows.refuseEitherSpec) (k:=Rows.uptoSmall) rfl own E kr Tryz.func5
  (OpenSpec.witness (enc:=enc) (C:=Tryz.checked) (s:=Rows.OpenSpec.upto Rows.refuseEitherSpec) (k:=Rows.uptoSmall) rfl false ⟨#[],wit,[]⟩ 8 kr kr kr
   (x:=(DataW.whole enc Tryz.prog (World.plainHolding Tryz.prog X ⟨#[],wit,[]⟩).memory Tryz.f5.params.toList Rows.refuseEitherSpec.vars false wit.toList 8).getD ([],[],[])) kr rfl kr) ?_
 intro W base args ds gs O V Y _ hk _;exact contract H enc W base args ds gs O V Y hk
end Go.Proofs.YtaikmgjfkejlkaaGreat.refuseEither
end
