/- Part of the proof of the law RefuseHoldsSpec (the Upto form). -/
import Derived.Test.YtaikmgjfkejlkaaGreatT116
import Derived.WalkKit
import Derived.ProofKit
import Derived.JoinedCond
import Derived.Carry
set_option linter.all false
set_option maxHeartbeats 4000000
set_option maxRecDepth 100000
section
namespace Go.Proofs.YtaikmgjfkejlkaaGreat.refuseHoldsSpec
open Go.ChangeShapes Go.WideShapes Go.ChangeAt Go.RowKit Go.Sx
set_option linter.unusedVariables false
theorem avE (O:Tag.al.T)(X:List Tag.C1.T)(E Y W:Int)(V:Tag.refusal.T):lg [.agg (cellsOf .al O),.rs .C1 X,.i E,.i Y,.i W,.agg (cellsOf .refusal V)]=some (.det (iN O X E Y W V) (.v (.bool (gT O X E Y W V)))):=by
 unfold lg;simp only[go_sem,Nat.reduceBEq]
theorem avq {W:World}{Y:Array Value}(h0:RC (λ_=>False) dI W (dX .al) Y.toList){v1:Value}(h1:RC (λ_=>False) dI W [.r .C1] [v1])(X:Int)(h2:(-9223372036854775808)<=X/\X<=9223372036854775807)(V:Int)(h3:(-9223372036854775808)<=V/\V<=9223372036854775807)(O:Int)(h4:(-9223372036854775808)<=O/\O<=9223372036854775807){cs5:Array Value}(h5:RC (λ_=>False) dI W (dX .refusal) cs5.toList):
  Calls Tryz.prog 4 #[.agg Y,v1,.int .i64 X,.int .i64 V,.int .i64 O,.agg cs5] W (λe W'=>e=.returned (.bool true)/\Below W.heap.size W W'):=by
 obtain⟨x0,r0⟩:=VZ h0;obtain⟨x1,r1⟩:=aib h1;obtain⟨x5,r5⟩:=VZ h5;refine(wW.calls _ _ (avE x0 x1 X V O x5) (XG x0 x1 X V O x5 h2 h3 h4) (λ_=>False) W _ (λb h=>h.elim) ⟨rfl,λj s E=>?_⟩).mono λe W' he=>?_;match j,E with
 |0,E=>cases E;exact r0|1,E=>cases E;exact r1|2,E=>cases E;exact .v _|3,E=>cases E;exact .v _|4,E=>cases E;exact .v _|5,E=>cases E;exact r5
 rcases he with⟨s,u,l5,hs,rfl,hh,hb⟩ | ⟨x,hx,_⟩;simp only[et]at hs;subst hs;rw[XF x0 x1 X V O x5 h2 h3 h4]at hh;have:=hh.val;simp only[Bh]at this;rw[cV this];exact⟨rfl,hb⟩;exact hx.elim
theorem own:ownKnob Tryz.prog.godebug=none:=by kernel_rfl
theorem small (H:Type):Small (λd:DataW H=>Rows.uptoBulk d<=1048576) where
 agg l h d hd:=by
  have h1:=bulks.avh hd;simp only[Rows.uptoBulk]at h;omega
 slice l m h:=by
  have h1:=bulks.avt l m;have h2:=bulks.au7 l m;refine⟨by unfold aD;omega,λd hd=>?_⟩;have:=bulks.avh hd;omega
theorem laid:laidOutB Tryz.prog=true:=by kernel_rfl
set_option maxRecDepth 100000 in
theorem contract (H:Type)(enc:TypeId×Value->H)(W:World)(base:Nat)(args:Array Value)(ds gs:List (DataW H))(O:List MemPlace)
  (E:∀ (j:Nat) t v,Tryz.f4.params[j]? =some t->args[j]? =some v->Value.okWide Tryz.prog W .any base t v)
  (hW:DataW.Whole enc Tryz.prog Tryz.f4.params.toList Rows.refuseHoldsSpecSpec.vars false W args.toList ds gs O) (hk:Rows.uptoSmall H (ds++gs)=true):
  Calls Tryz.prog 4 args W λe W'=>∃ v,e=.returned v/\Rows.refuseHoldsSpecSpec.post enc Tryz.prog Tryz.f4 false true false false W args v W':=by
 have hW':=hW;obtain⟨p,q,hA0,hV,rfl,hfz,hnd⟩:=hW;have hA:DataW.TrodAll enc Tryz.prog W 0 (λ_=>true) true Tryz.f4.params.toList args.toList ds p:=hA0;rw[Tryz.params4]at hA E;obtain⟨v0,vs0,d0,ds0,p0,q0,Y,rfl,rfl,h0,r0⟩:=trodAll_cons hA;obtain⟨v1,vs1,d1,ds1,p1,q1,rfl,rfl,rfl,h1,r1⟩:=trodAll_cons r0;obtain⟨v2,vs2,d2,ds2,p2,q2,rfl,rfl,rfl,h2,r2⟩:=trodAll_cons r1;obtain⟨v3,vs3,d3,ds3,p3,q3,rfl,rfl,rfl,h3,r3⟩:=trodAll_cons r2;obtain⟨v4,vs4,d4,ds4,p4,q4,rfl,rfl,rfl,h4,r4⟩:=trodAll_cons r3;obtain⟨v5,vs5,d5,ds5,p5,q5,rfl,rfl,rfl,h5,r5⟩:=trodAll_cons r4;obtain⟨rfl,rfl,rfl⟩:=trodAll_nil r5;obtain rfl:args= #[v0,v1,v2,v3,v4,v5]:=by cases args;simp_all
 obtain⟨rfl,rfl⟩:=trodVars_none hV;have hb:=bulks.bound hk;simp only[Rows.uptoBulkAll,List.append_nil,List.cons_append,List.nil_append]at hb;have ho:∀ b,¬dn (λ_=>False) dI b:=λb h=>by
  rcases h with h| ⟨_,_,h,_⟩;exact h;cases h
 have s0:∃ cs,v0=.agg cs:=by
  have:=E 0 31 v0 rfl rfl;simp only[Value.okWide,Tryz.underlying31]at this;exact⟨_,this.choose_spec.1⟩
 obtain⟨cs0,rfl⟩:=s0;obtain⟨a1,l1,c1,rfl⟩:=okWide_slice Tryz.underlying32 (E 1 32 v1 rfl rfl);obtain⟨a2,rfl,rfl,rfl,w2⟩:=open_int Tryz.underlying3 (E 2 3 v2 rfl rfl) h2;have R2:(-9223372036854775808)<=a2/\a2<=9223372036854775807:=by simpa[Lit.wf,IntKind.min,IntKind.max,IntKind.signed,IntKind.bits]using w2
 obtain⟨a3,rfl,rfl,rfl,w3⟩:=open_int Tryz.underlying3 (E 3 3 v3 rfl rfl) h3;have R3:(-9223372036854775808)<=a3/\a3<=9223372036854775807:=by simpa[Lit.wf,IntKind.min,IntKind.max,IntKind.signed,IntKind.bits]using w3
 obtain⟨a4,rfl,rfl,rfl,w4⟩:=open_int Tryz.underlying3 (E 4 3 v4 rfl rfl) h4;have R4:(-9223372036854775808)<=a4/\a4<=9223372036854775807:=by simpa[Lit.wf,IntKind.min,IntKind.max,IntKind.signed,IntKind.bits]using w4
 have s5:∃ cs,v5=.agg cs:=by
  have:=E 5 38 v5 rfl rfl;simp only[Value.okWide,Tryz.underlying38]at this;exact⟨_,this.choose_spec.1⟩
 obtain⟨X,rfl⟩:=s5;have R0:RC (λ_=>False) dI W (dX .al) cs0.toList:=by
  obtain⟨f,V⟩:=h0;exact sH (n:=8) (t:=31) (small H) ho _ kr f _ _ V (by show Rows.uptoBulk d0<=_;omega)
 have R1:RC (λ_=>False) dI W [.r .C1] [.slice a1 l1 c1]:=by
  obtain⟨f,V⟩:=h1;exact sH (n:=8) (t:=32) (small H) ho _ kr f _ _ V (by show Rows.uptoBulk d1<=_;omega)
 have R5:RC (λ_=>False) dI W (dX .refusal) X.toList:=by
  obtain⟨f,V⟩:=h5;exact sH (n:=8) (t:=38) (small H) ho _ kr f _ _ V (by show Rows.uptoBulk d5<=_;omega)
 refine(avq R0 R1 _ R2 _ R3 _ R4 R5).mono λe W' ⟨he,hg⟩ =>?_;subst he;exact⟨_,rfl,abH laid kr hW' kr Tryz.underlying4 rfl rfl rfl rfl hg⟩
def zeroV:Kd->Value
 | .n k=>.int k 0| .b=>.bool false| .s=>.string (ByteArray.mk #[])| .r _=>.slice none 0 0| .m _ _=>.map none| .f=>.nilFunc
def wit:Array Value:= #[.agg ((dX .al).map zeroV).toArray,.slice none 0 0,.int .i64 0,.int .i64 0,.int .i64 0,.agg ((dX .refusal).map zeroV).toArray]
set_option maxRecDepth 100000 in
theorem lifted (X:Os)(E:X.Started)(H:Type)(enc:TypeId×Value->H)(F:Stop.Interp):
  ReturnsInHanded {} Tryz.checked X 4 .any ((Rows.OpenSpec.upto Rows.refuseHoldsSpecSpec).pre6 enc Tryz.prog Tryz.f4 Rows.refuseHoldsSpecUptoRow.domain false) (((Rows.OpenSpec.upto Rows.refuseHoldsSpecSpec).at F).post enc Tryz.prog Tryz.f4 false true false false):=by
 refine returnsInHanded_of_cond (C:=Tryz.checked) (s:=Rows.OpenSpec.upto Rows.refuseHoldsSpecSpec) (k:=Rows.uptoSmall) rfl own E kr Tryz.func4
  (OpenSpec.witness (enc:=enc) (C:=Tryz.checked) (s:=Rows.OpenSpec.upto Rows.refuseHoldsSpecSpec) (k:=Rows.uptoSmall) rfl false ⟨#[],wit,[]⟩ 8 kr kr kr
   (x:=(DataW.whole enc Tryz.prog (World.plainHolding Tryz.prog X ⟨#[],wit,[]⟩).memory Tryz.f4.params.toList Rows.refuseHoldsSpecSpec.vars false wit.toList 8).getD ([],[],[])) kr rfl kr) ?_
 intro W base args ds gs O V hW _ Y _;exact contract H enc W base args ds gs O V hW Y
end Go.Proofs.YtaikmgjfkejlkaaGreat.refuseHoldsSpec
end
