/- Part of the proof that the law RefuseHolds returns true and leaves its arguments as they were, for all arguments of bulk at most 1048576 (the Upto form). -/
import Derived.Test.YtaikmgjfkejlkaaGreatH115
import Derived.Test.YtaikmgjfkejlkaaGreatRows
import Derived.WalkKit
import Derived.ProofKit
import Derived.OpenShut
import Derived.JoinedCond
import Derived.Below
import Derived.ChangeSame
import Derived.Carry
set_option linter.all false
set_option maxHeartbeats 4000000
set_option maxRecDepth 100000
section
namespace Go.Proofs.YtaikmgjfkejlkaaGreat.refuseHolds
open Go.ChangeShapes Go.WideShapes Go.ChangeAt Go.RowKit Go.Sx
set_option linter.unusedVariables false
theorem at4 (E:Tag.al.T)(X:List Tag.M1.T)(V x3 Y:Int)(W:Tag.refusal.T)(O:List Tag.order.T):oy [.agg (cellsOf .al E),.rs .M1 X,.i V,.i x3,.i Y,.agg (cellsOf .refusal W),.rs .order O]=some (.det (lg E X V x3 Y W O) (.v (.bool (kP E X V x3 Y W O)))):=by
 unfold oy;simp only[go_sem,Nat.reduceBEq]
theorem atM {W:World}{Y:Array Value}(h0:RC (λ_=>False) dP W (ez .al) Y.toList){v1:Value}(h1:RC (λ_=>False) dP W [.r .M1] [v1])(X:Int)(h2:(-9223372036854775808)<=X/\X<=9223372036854775807)(V:Int)(h3:(-9223372036854775808)<=V/\V<=9223372036854775807)(O:Int)(h4:(-9223372036854775808)<=O/\O<=9223372036854775807){cs5:Array Value}(h5:RC (λ_=>False) dP W (ez .refusal) cs5.toList){v6:Value}(h6:RC (λ_=>False) dP W [.r .order] [v6]):
  Calls Tryz.prog 8 #[.agg Y,v1,.int .i64 X,.int .i64 V,.int .i64 O,.agg cs5,v6] W (λe W'=>e=.returned (.bool true)/\Below W.heap.size W W'):=by
 obtain⟨x0,r0⟩:=Uh h0;obtain⟨x1,r1⟩:=Z5 h1;obtain⟨x5,r5⟩:=Uh h5;obtain⟨x6,r6⟩:=Z5 h6;refine(zr.calls _ _ (at4 x0 x1 X V O x5 x6) (V4 x0 x1 X V O x5 x6 h2 h3 h4) (λ_=>False) W _ (λb h=>h.elim) ⟨rfl,λj s E=>?_⟩).mono λe W' he=>?_;match j,E with
 |0,E=>cases E;exact r0|1,E=>cases E;exact r1|2,E=>cases E;exact .v _|3,E=>cases E;exact .v _|4,E=>cases E;exact .v _|5,E=>cases E;exact r5|6,E=>cases E;exact r6
 rcases he with⟨s,u,ee,hs,rfl,hh,hb⟩ | ⟨x,hx,_⟩;simp only[eA]at hs;subst hs;rw[V3 x0 x1 X V O x5 x6 h2 h3 h4]at hh;have:=hh.val;simp only[yF]at this;rw[c8 this];exact⟨rfl,hb⟩;exact hx.elim
theorem own:ownKnob Tryz.prog.godebug=none:=by kernel_rfl
theorem small (H:Type):Small (λd:DataW H=>Rows.uptoBulk d<=1048576) where
 agg l h d hd:=by
  have h1:=bulks.atJ hd;simp only[Rows.uptoBulk]at h;omega
 slice l m h:=by
  have h1:=bulks.atT l m;have h2:=bulks.atr l m;refine⟨by unfold aI;omega,λd hd=>?_⟩;have:=bulks.atJ hd;omega
theorem laid:laidOutB Tryz.prog=true:=by kernel_rfl
set_option maxRecDepth 100000 in
theorem contract (H:Type)(enc:TypeId×Value->H)(W:World)(base:Nat)(args:Array Value)(ds gs:List (DataW H))(O:List MemPlace)
  (E:∀ (j:Nat) t v,Tryz.f8.params[j]? =some t->args[j]? =some v->Value.okWide Tryz.prog W .any base t v)
  (hW:DataW.Whole enc Tryz.prog Tryz.f8.params.toList Rows.refuseHoldsSpec.vars false W args.toList ds gs O) (hk:Rows.uptoSmall H (ds++gs)=true):
  Calls Tryz.prog 8 args W λe W'=>∃ v,e=.returned v/\Rows.refuseHoldsSpec.post enc Tryz.prog Tryz.f8 false true false false W args v W':=by
 have hW':=hW;obtain⟨p,q,hA0,hV,rfl,hfz,hnd⟩:=hW;have hA:DataW.TrodAll enc Tryz.prog W 0 (λ_=>true) true Tryz.f8.params.toList args.toList ds p:=hA0;rw[Tryz.params8]at hA E;obtain⟨v0,vs0,d0,ds0,p0,q0,hargs,rfl,rfl,h0,r0⟩:=trodAll_cons hA;obtain⟨v1,vs1,d1,ds1,p1,q1,rfl,rfl,rfl,h1,r1⟩:=trodAll_cons r0;obtain⟨v2,vs2,d2,ds2,p2,q2,rfl,rfl,rfl,h2,r2⟩:=trodAll_cons r1;obtain⟨v3,vs3,d3,ds3,p3,q3,rfl,rfl,rfl,h3,r3⟩:=trodAll_cons r2;obtain⟨v4,vs4,d4,ds4,p4,q4,rfl,rfl,rfl,h4,r4⟩:=trodAll_cons r3;obtain⟨v5,vs5,d5,ds5,p5,q5,rfl,rfl,rfl,h5,r5⟩:=trodAll_cons r4;obtain⟨v6,vs6,d6,ds6,p6,q6,rfl,rfl,rfl,h6,r6⟩:=trodAll_cons r5;obtain⟨rfl,rfl,rfl⟩:=trodAll_nil r6;obtain rfl:args= #[v0,v1,v2,v3,v4,v5,v6]:=by cases args;simp_all
 obtain⟨rfl,rfl⟩:=trodVars_none hV;have hb:=bulks.bound hk;simp only[Rows.uptoBulkAll,List.append_nil,List.cons_append,List.nil_append]at hb;have X:∀ b,¬dA (λ_=>False) dP b:=λb h=>by
  rcases h with h| ⟨_,_,h,_⟩;exact h;cases h
 have s0:∃ cs,v0=.agg cs:=by
  have:=E 0 31 v0 rfl rfl;simp only[Value.okWide,Tryz.underlying31]at this;exact⟨_,this.choose_spec.1⟩
 obtain⟨Y,rfl⟩:=s0;obtain⟨a1,l1,c1,rfl⟩:=okWide_slice Tryz.underlying32 (E 1 32 v1 rfl rfl);obtain⟨a2,rfl,rfl,rfl,w2⟩:=open_int Tryz.underlying3 (E 2 3 v2 rfl rfl) h2;have R2:(-9223372036854775808)<=a2/\a2<=9223372036854775807:=by simpa[Lit.wf,IntKind.min,IntKind.max,IntKind.signed,IntKind.bits]using w2
 obtain⟨a3,rfl,rfl,rfl,w3⟩:=open_int Tryz.underlying3 (E 3 3 v3 rfl rfl) h3;have R3:(-9223372036854775808)<=a3/\a3<=9223372036854775807:=by simpa[Lit.wf,IntKind.min,IntKind.max,IntKind.signed,IntKind.bits]using w3
 obtain⟨a4,rfl,rfl,rfl,w4⟩:=open_int Tryz.underlying3 (E 4 3 v4 rfl rfl) h4;have R4:(-9223372036854775808)<=a4/\a4<=9223372036854775807:=by simpa[Lit.wf,IntKind.min,IntKind.max,IntKind.signed,IntKind.bits]using w4
 have s5:∃ cs,v5=.agg cs:=by
  have:=E 5 38 v5 rfl rfl;simp only[Value.okWide,Tryz.underlying38]at this;exact⟨_,this.choose_spec.1⟩
 obtain⟨cs5,rfl⟩:=s5;obtain⟨a6,l6,c6,rfl⟩:=okWide_slice Tryz.underlying50 (E 6 50 v6 rfl rfl);have R0:RC (λ_=>False) dP W (ez .al) Y.toList:=by
  obtain⟨f,V⟩:=h0;exact pl (n:=8) (t:=31) (small H) X _ kr f _ _ V (by show Rows.uptoBulk d0<=_;omega)
 have R1:RC (λ_=>False) dP W [.r .M1] [.slice a1 l1 c1]:=by
  obtain⟨f,V⟩:=h1;exact pl (n:=8) (t:=32) (small H) X _ kr f _ _ V (by show Rows.uptoBulk d1<=_;omega)
 have R5:RC (λ_=>False) dP W (ez .refusal) cs5.toList:=by
  obtain⟨f,V⟩:=h5;exact pl (n:=8) (t:=38) (small H) X _ kr f _ _ V (by show Rows.uptoBulk d5<=_;omega)
 have R6:RC (λ_=>False) dP W [.r .order] [.slice a6 l6 c6]:=by
  obtain⟨f,V⟩:=h6;exact pl (n:=8) (t:=50) (small H) X _ kr f _ _ V (by show Rows.uptoBulk d6<=_;omega)
 refine(atM R0 R1 _ R2 _ R3 _ R4 R5 R6).mono λe W' ⟨he,hg⟩ =>?_;subst he;exact⟨_,rfl,Z6 laid kr hW' kr Tryz.underlying4 rfl rfl rfl rfl hg⟩
def zeroV:Kd->Value
 | .n k=>.int k 0| .b=>.bool false| .s=>.string (ByteArray.mk #[])| .r _=>.slice none 0 0| .m _ _=>.map none| .f=>.nilFunc
def wit:Array Value:= #[.agg ((ez .al).map zeroV).toArray,.slice none 0 0,.int .i64 0,.int .i64 0,.int .i64 0,.agg ((ez .refusal).map zeroV).toArray,.slice none 0 0]
set_option maxRecDepth 100000 in
theorem lifted (X:Os)(E:X.Started)(H:Type)(enc:TypeId×Value->H)(F:Stop.Interp):
  ReturnsInHanded {} Tryz.checked X 8 .any ((Rows.OpenSpec.upto Rows.refuseHoldsSpec).pre6 enc Tryz.prog Tryz.f8 Rows.refuseHoldsUptoRow.domain false) (((Rows.OpenSpec.upto Rows.refuseHoldsSpec).at F).post enc Tryz.prog Tryz.f8 false true false false):=by
 refine returnsInHanded_of_cond (C:=Tryz.checked) (s:=Rows.OpenSpec.upto Rows.refuseHoldsSpec) (k:=Rows.uptoSmall) rfl own E kr Tryz.func8
  (OpenSpec.witness (enc:=enc) (C:=Tryz.checked) (s:=Rows.OpenSpec.upto Rows.refuseHoldsSpec) (k:=Rows.uptoSmall) rfl false ⟨#[],wit,[]⟩ 8 kr kr kr
   (x:=(DataW.whole enc Tryz.prog (World.plainHolding Tryz.prog X ⟨#[],wit,[]⟩).memory Tryz.f8.params.toList Rows.refuseHoldsSpec.vars false wit.toList 8).getD ([],[],[])) kr rfl kr) ?_
 intro W base args ds gs O V hW _ Y _;exact contract H enc W base args ds gs O V hW Y
end Go.Proofs.YtaikmgjfkejlkaaGreat.refuseHolds
end
