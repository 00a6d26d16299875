/- Part of the proof that the law JudgementDate returns true and leaves its arguments as they were, for all arguments of bulk at most 1048576 (the Upto form). -/
import Derived.Test.YtnanafpgfihjfaaGreatJ312
import Derived.Test.YtnanafpgfihjfaaGreatJ308
import Derived.Test.YtnanafpgfihjfaaGreatJ311
import Derived.Test.YtnanafpgfihjfaaGreatJ309
import Derived.Test.YtnanafpgfihjfaaGreatJ307
import Derived.Test.YtnanafpgfihjfaaGreatJ310
set_option linter.all false
set_option maxHeartbeats 4000000
set_option maxRecDepth 100000
section
namespace Go.Sx
open Go.Proofs
open IntKind (i64)
theorem On {l0 l1:List Nat}(a0:JL l0)(a1:JL l1){p:Prop}(h:JL l0→JL l1→p:=by intro ja jb;(first|done|(repeat' (first|with_reducible refine And.intro ?_ ?_|((with_reducible show _≠_);first|assumption|omega|(simp_all [dL,fD];done) |grind) |with_reducible intro _)) <;>(first|done|with_reducible exact Empty.elim ‹Empty› |with_reducible assumption|rfl|omega|assumption|decide|exact fk ja|exact fk jb|exact czl|(simp only[*,cond_true,cond_false,Bool.not_true,Bool.not_false,go_sem,Nat.reduceBEq,Nat.reduceLeDiff,Nat.reduceLT,decide_true,Nat.reduceAdd,Nat.reduceSub,Nat.reduceMul,Int.reduceLE,Int.reduceLT,Int.reduceToNat,Int.reduceNeg,reduceCtorEq];(repeat' (first|with_reducible refine And.intro ?_ ?_|((with_reducible show _≠_);first|assumption|omega|(simp_all [dL,fD];done) |grind) |with_reducible intro _)) <;>(first|done|assumption|rfl|omega|decide|exact fk ja|exact fk jb|(simp_all [dL,fD];done))) |(simp_all [okI,dL,fD];done) |(simp_all [dL,fD];(first|done|exact fk2 ja|exact fk2 jb)) |exact fk2 ja|exact fk2 jb|(simp_all only[dL,fD,cond_true,cond_false];(first|done|exact fk ja|exact fk jb|exact fk2 ja|exact fk2 jb|(simp only[go_sem,Nat.reduceBEq,Nat.reduceLeDiff,Nat.reduceLT,decide_true,Nat.reduceAdd,Nat.reduceSub,Nat.reduceMul,Int.reduceLE,Int.reduceLT,Int.reduceToNat,Int.reduceNeg,reduceCtorEq];((repeat' (first|with_reducible refine And.intro ?_ ?_|((with_reducible show _≠_);first|assumption|omega|(simp_all [dL,fD];done) |grind) |with_reducible intro _)) <;>(first|done|rfl|exact fk ja|exact fk jb|exact fk2 ja|exact fk2 jb)))))))):p:=h a0 a1
theorem Hj {l0 l1 l2:List Nat}(a0:JL l0)(a1:JL l1)(a2:JL l2){p:Prop}(h:JL l0→JL l1→JL l2→p:=by intro ja jb jc;(first|done|(repeat' (first|with_reducible refine And.intro ?_ ?_|((with_reducible show _≠_);first|assumption|omega|(simp_all [dL,fD];done) |grind) |with_reducible intro _)) <;>(first|done|with_reducible exact Empty.elim ‹Empty› |with_reducible assumption|rfl|omega|assumption|decide|exact fk ja|exact fk jb|exact fk jc|exact czl|(simp only[*,cond_true,cond_false,Bool.not_true,Bool.not_false,go_sem,Nat.reduceBEq,Nat.reduceLeDiff,Nat.reduceLT,decide_true,Nat.reduceAdd,Nat.reduceSub,Nat.reduceMul,Int.reduceLE,Int.reduceLT,Int.reduceToNat,Int.reduceNeg,reduceCtorEq];(repeat' (first|with_reducible refine And.intro ?_ ?_|((with_reducible show _≠_);first|assumption|omega|(simp_all [dL,fD];done) |grind) |with_reducible intro _)) <;>(first|done|assumption|rfl|omega|decide|exact fk ja|exact fk jb|exact fk jc|(simp_all [dL,fD];done))) |(simp_all [okI,dL,fD];done) |(simp_all [dL,fD];(first|done|exact fk2 ja|exact fk2 jb|exact fk2 jc)) |exact fk2 ja|exact fk2 jb|exact fk2 jc|(simp_all only[dL,fD,cond_true,cond_false];(first|done|exact fk ja|exact fk jb|exact fk jc|exact fk2 ja|exact fk2 jb|exact fk2 jc|(simp only[go_sem,Nat.reduceBEq,Nat.reduceLeDiff,Nat.reduceLT,decide_true,Nat.reduceAdd,Nat.reduceSub,Nat.reduceMul,Int.reduceLE,Int.reduceLT,Int.reduceToNat,Int.reduceNeg,reduceCtorEq];((repeat' (first|with_reducible refine And.intro ?_ ?_|((with_reducible show _≠_);first|assumption|omega|(simp_all [dL,fD];done) |grind) |with_reducible intro _)) <;>(first|done|rfl|exact fk ja|exact fk jb|exact fk jc|exact fk2 ja|exact fk2 jb|exact fk2 jc)))))))):p:=h a0 a1 a2
theorem CH {l0:List Nat}(a0:JL l0){p:Prop}(h:JL l0→p:=by intro ja;(first|done|(repeat' (first|with_reducible refine And.intro ?_ ?_|((with_reducible show _≠_);first|assumption|omega|(simp_all [dL,fD];done) |grind) |with_reducible intro _)) <;>(first|done|with_reducible exact Empty.elim ‹Empty› |with_reducible assumption|rfl|omega|assumption|decide|exact fk ja|exact czl|(simp only[*,cond_true,cond_false,Bool.not_true,Bool.not_false,go_sem,Nat.reduceBEq,Nat.reduceLeDiff,Nat.reduceLT,decide_true,Nat.reduceAdd,Nat.reduceSub,Nat.reduceMul,Int.reduceLE,Int.reduceLT,Int.reduceToNat,Int.reduceNeg,reduceCtorEq];(repeat' (first|with_reducible refine And.intro ?_ ?_|((with_reducible show _≠_);first|assumption|omega|(simp_all [dL,fD];done) |grind) |with_reducible intro _)) <;>(first|done|assumption|rfl|omega|decide|exact fk ja|(simp_all [dL,fD];done))) |(simp_all [okI,dL,fD];done) |(simp_all [dL,fD];(first|done|exact fk2 ja)) |exact fk2 ja|(simp_all only[dL,fD,cond_true,cond_false];(first|done|exact fk ja|exact fk2 ja|(simp only[go_sem,Nat.reduceBEq,Nat.reduceLeDiff,Nat.reduceLT,decide_true,Nat.reduceAdd,Nat.reduceSub,Nat.reduceMul,Int.reduceLE,Int.reduceLT,Int.reduceToNat,Int.reduceNeg,reduceCtorEq];((repeat' (first|with_reducible refine And.intro ?_ ?_|((with_reducible show _≠_);first|assumption|omega|(simp_all [dL,fD];done) |grind) |with_reducible intro _)) <;>(first|done|rfl|exact fk ja|exact fk2 ja)))))))):p:=h a0
theorem Oo {l0 l1:List Nat}(a0:JL l0)(a1:JL l1){p:Prop}(h:JL l0→JL l1→p:=by intro ja jb;simp only[go_sem,Nat.reduceBEq,Nat.reduceLeDiff,Nat.reduceLT,decide_true,Nat.reduceAdd,Nat.reduceSub,Nat.reduceMul,Int.reduceLE,Int.reduceLT,Int.reduceToNat,Int.reduceNeg,reduceCtorEq];all_goals exact On ja jb):p:=h a0 a1
theorem Oq {l0:List Nat}(a0:JL l0){p:Prop}(h:JL l0→p:=by intro ja;simp only[go_sem,Nat.reduceBEq,Nat.reduceLeDiff,Nat.reduceLT,decide_true,Nat.reduceAdd,Nat.reduceSub,Nat.reduceMul,Int.reduceLE,Int.reduceLT,Int.reduceToNat,Int.reduceNeg,reduceCtorEq,hc,hw];all_goals exact CH ja):p:=h a0
theorem Ot {l0:List Nat}(a0:JL l0){p:Prop}(h:JL l0→p:=by intro ja;simp only[go_sem,Nat.reduceBEq,Nat.reduceLeDiff,Nat.reduceLT,decide_true,Nat.reduceAdd,Nat.reduceSub,Nat.reduceMul,Int.reduceLE,Int.reduceLT,Int.reduceToNat,Int.reduceNeg,reduceCtorEq,hc];all_goals exact CH ja):p:=h a0
@[go_sem] def be (facts:List Int)(clauses:List Clause)(strict_:List (Int×Bool))(s_0:List (Int×Int)×List Reason)(z_1:Int)(s_1:List Reason):Empty⊕(List Reason):=letI q0:=({ plea:=({ facts:=facts,clauses:=clauses}:Plea),strict:=strict_,known:=s_0.1}:PleasCourt);(bif((du .int .int s_0.1 z_1) !=0)then .inr s_1 else(bif(du .int .bool strict_ z_1)then .inr (s_1++([({ literal:=z_1,clause:=0,proved:=true}:Reason)]))else(bif(kY q0 z_1)then .inr (s_1++([({ literal:=z_1,clause:=(kS q0 z_1),proved:=true}:Reason)]))else(bif(jM q0 z_1)then .inr (s_1++([({ literal:=z_1,clause:=0,proved:=false}:Reason)]))else .inr s_1))))
def ev (facts:List Int)(clauses:List Clause)(strict_:List (Int×Bool))(s_0:List (Int×Int)×List Reason)(z_1:Int)(s_1:List Reason):Prop:=letI q0:=({ plea:=({ facts:=facts,clauses:=clauses}:Plea),strict:=strict_,known:=s_0.1}:PleasCourt);letI q1:=du .int .bool strict_ z_1;letI q2:=kY q0 z_1;(((du .int .int s_0.1 z_1) !=0)=false→((q1=true→((s_1++([({ literal:=z_1,clause:=0,proved:=true}:Reason)])).length*24≤cU))∧(q1=false→((q2=true→((s_1++([({ literal:=z_1,clause:=(kS q0 z_1),proved:=true}:Reason)])).length*24≤cU))∧(q2=false→((jM q0 z_1)=true→((s_1++([({ literal:=z_1,clause:=0,proved:=false}:Reason)])).length*24≤cU)))))))
@[go_sem] def lL (facts:List Int)(clauses:List Clause)(strict_:List (Int×Bool))(s_1:List Reason)(k_2:Nat)(s_2:List (Int×Int)):Empty⊕(List (Int×Int)):=.inr (jt (s_1.getD k_2 default) facts clauses strict_ s_2)
@[go_sem] def iW (facts:List Int)(clauses:List Clause)(strict_:List (Int×Bool))(k_0:Nat)(s_0:List (Int×Int)×List Reason):(List (Int×Int)×List Reason)⊕(List (Int×Int)×List Reason):=(match gD (be facts clauses strict_ s_0) aP ([])with| .inl x=>x.elim| .inr s_1=>(bif((s_1.length:Int) ==0)then .inl (s_0.1,s_0.2)else(match aq (lL facts clauses strict_ s_1) s_1.length 0 s_0.1 with| .inl x=>x.elim| .inr s_2=>.inr (s_2,(s_0.2++s_1)))))
def fH (facts:List Int)(clauses:List Clause)(strict_:List (Int×Bool))(k_0:Nat)(s_0:List (Int×Int)×List Reason):Prop:=letI q0:=be facts clauses strict_ s_0;((eF ((aP).map CG))∧okL q0 (ev facts clauses strict_ s_0) aP ([])∧(∀ s_1,gD q0 aP ([])=.inr s_1→(s_1.length≤aL→(((s_1.length:Int) ==0)=false→(s_1.length≤aL→(∀ s_2,aq (lL facts clauses strict_ s_1) s_1.length 0 s_0.1=.inr s_2→((s_0.2++s_1).length*24≤cU)))))))
def eH (facts:List Int)(clauses:List Clause)(strict_:List (Int×Bool))(known_:List (Int×Int)):(List (Int×Int))×(List Reason):=(match aq (iW facts clauses strict_) 130 0 (known_,[])with| .inl x_0_0=>(x_0_0.1,x_0_0.2) | .inr s_0=>default)
def eI (facts:List Int)(clauses:List Clause)(strict_:List (Int×Bool))(known_:List (Int×Int)):Prop:=(okI (iW facts clauses strict_) (fH facts clauses strict_) 130 0 (known_,[])∧(∀ z_,aq (iW facts clauses strict_) 130 0 (known_,[])≠ .inr z_))
noncomputable def mS:List SV→List Ob→Option HCon:=pt (fun x_:(List Int)×(List Clause)×(List (Int×Bool))×(List (Int×Int)) =>[.ptr 0 0]) (fun x_=>[.cells [.rs .int x_.1,.rs .clause x_.2.1,.os 1,.os 2],.mp .int .bool x_.2.2.1 none,.mp .int .int x_.2.2.2 none]) (fun x_=>ik (eI x_.1 x_.2.1 x_.2.2.1 x_.2.2.2) (.os 3) [.cells [.rs .int x_.1,.rs .clause x_.2.1,.os 1,.os 2],.mp .int .bool x_.2.2.1 none,.mp .int .int ((eH x_.1 x_.2.1 x_.2.2.1 x_.2.2.2).1) none,.row .reason ((eH x_.1 x_.2.1 x_.2.2.1 x_.2.2.2).2)])
@[go_sem] theorem Ea (facts:List Int)(clauses:List Clause)(strict_:List (Int×Bool))(known_:List (Int×Int)){p1_:Option (Nat×Option Tag.int.T)}(hp1_:p1_=none){p2_:Option (Nat×Option Tag.int.T)}(hp2_:p2_=none):mS ([.ptr 0 0]) ([.cells [.rs .int facts,.rs .clause clauses,.os 1,.os 2],.mp .int .bool strict_ p1_,.mp .int .int known_ p2_])=some (ik (eI facts clauses strict_ known_) (.os 3) [.cells [.rs .int facts,.rs .clause clauses,.os 1,.os 2],.mp .int .bool strict_ none,.mp .int .int ((eH facts clauses strict_ known_).1) none,.row .reason ((eH facts clauses strict_ known_).2)]):=by
 subst hp1_;subst hp2_;exact lw (A:=fun x_:(List Int)×(List Clause)×(List (Int×Bool))×(List (Int×Int)) =>[.ptr 0 0]) (H:=fun x_=>[.cells [.rs .int x_.1,.rs .clause x_.2.1,.os 1,.os 2],.mp .int .bool x_.2.2.1 none,.mp .int .int x_.2.2.2 none]) (K:=fun x_=>ik (eI x_.1 x_.2.1 x_.2.2.1 x_.2.2.2) (.os 3) [.cells [.rs .int x_.1,.rs .clause x_.2.1,.os 1,.os 2],.mp .int .bool x_.2.2.1 none,.mp .int .int ((eH x_.1 x_.2.1 x_.2.2.1 x_.2.2.2).1) none,.row .reason ((eH x_.1 x_.2.1 x_.2.2.1 x_.2.2.2).2)]) (x:=(facts,clauses,strict_,known_))
theorem YG {l0 l1 l2:List Nat}(a0:JL l0)(a1:JL l1)(a2:JL l2){p:Prop}(h:JL l0→JL l1→JL l2→p:=by intro ja jb jc;simp only[go_sem,Nat.reduceBEq,Nat.reduceLeDiff,Nat.reduceLT,decide_true,Nat.reduceAdd,Nat.reduceSub,Nat.reduceMul,Int.reduceLE,Int.reduceLT,Int.reduceToNat,Int.reduceNeg,reduceCtorEq,be,psT,CG,List.cons_append,List.nil_append];all_goals exact Hj ja jb jc):p:=h a0 a1 a2
theorem Sd {l0 l1 l2:List Nat}(a0:JL l0)(a1:JL l1)(a2:JL l2){p:Prop}(h:JL l0→JL l1→JL l2→p:=by intro ja jb jc;simp only[go_sem,Nat.reduceBEq,Nat.reduceLeDiff,Nat.reduceLT,decide_true,Nat.reduceAdd,Nat.reduceSub,Nat.reduceMul,Int.reduceLE,Int.reduceLT,Int.reduceToNat,Int.reduceNeg,reduceCtorEq];all_goals exact Hj ja jb jc):p:=h a0 a1 a2
theorem YH {l0:List Nat}(a0:JL l0){p:Prop}(h:JL l0→p:=by intro ja;simp only[go_sem,Nat.reduceBEq,Nat.reduceLeDiff,Nat.reduceLT,decide_true,Nat.reduceAdd,Nat.reduceSub,Nat.reduceMul,Int.reduceLE,Int.reduceLT,Int.reduceToNat,Int.reduceNeg,reduceCtorEq];all_goals exact CH ja):p:=h a0
theorem vW:FnOkO Tryz.prog 85 (mS):=by
 have hG:ConsOk Tryz.prog (mkG [(119,fun l=>qt (bv [] l)),(132,rt),(133,rh),(134,qc)] [(135,nP)]):=ap (cgc (tM.norm []) (cgc vV (cgc vS (cgc vA cg0)))) (cgc wV cg0);refine pd mixed al hG (fn:=Tryz.f85) (c:=ae Tryz.f85) kr kr kr kr fun l o con h=>?_;obtain⟨⟨facts,clauses,strict_,known_⟩,rfl,rfl,rfl⟩:=jx h;clear h;try dsimp only
 refine⟨_,_,_,rfl,fun hp=>?_⟩;unfold eI at hp;refine⟨nbl rfl,(fun id st=>bif Nat.beq id 0 then some (LCV (ρ:=(List (Int×Int)×List Reason)) (σ:=(List (Int×Int)×List Reason)) 4 [.slot 2 (.row .reason ([]))] [0,1,2,3,4] (fun k_0 s_0=>⟨[(1,.ptr 3 0),(2,.os 4)],[.cells [.rs .int facts,.rs .clause clauses,.os 1,.os 2],.mp .int .bool strict_ none,.mp .int .int s_0.1 none,.cells [.ptr 0 0],.row .reason s_0.2]⟩) (iW facts clauses strict_) (fH facts clauses strict_) 130 (known_,[]) (fun _=>.ret) (fun x_0_0=>⟨[(2,.os 4)],[.cells [.rs .int facts,.rs .clause clauses,.os 1,.os 2],.mp .int .bool strict_ none,.mp .int .int x_0_0.1 none,.dead,.row .reason x_0_0.2]⟩) st)else none),?_,?_⟩
 ·unfold ae Tryz.f85;simp only[am,true_and,and_true,and_assoc]
  ·refine uD mixed al hG kr (fun _=>rfl) fun k_0 s_0 hq0=>⟨(fun id st=>bif Nat.beq id 2 then some (LC (ρ:=Empty) (σ:=List Reason) (lk 1 st.t=.ptr 3 0∧lk 2 st.t=.os 4∧lk 3 st.t=.ptr 5 0∧lk 7 st.t=.fn 159 [] []∧st.h=[.cells [.rs .int facts,.rs .clause clauses,.os 1,.os 2],.mp .int .bool strict_ none,.mp .int .int s_0.1 none,.cells [.ptr 0 0],.row .reason s_0.2,.cells [.v (.slice none 0 0)]]∧eF ((aP).map CG)∧okL (be facts clauses strict_ s_0) (ev facts clauses strict_ s_0) aP ([])) (gD (be facts clauses strict_ s_0) aP ([])) (fun x=>x.elim) (fun x=>x.elim) (fun s_1=>⟨[(1,.ptr 3 0),(2,.os 4),(3,.ptr 5 0)],[.cells [.rs .int facts,.rs .clause clauses,.os 1,.os 2],.mp .int .bool strict_ none,.mp .int .int s_0.1 none,.cells [.ptr 0 0],.row .reason s_0.2,.cells [.os 7],.dead,.row .reason s_1]⟩))else bif Nat.beq id 5 then some (LCR (ρ:=Empty) (σ:=(List (Int×Int))) 8 [] [0,1,2,3,4,5,6,7] (fun k_2 s_2=>⟨[(1,.ptr 3 0),(2,.os 4),(3,.ptr 5 0),(54,.os 7),(55,.v (.int .i64 ((dL (gD (be facts clauses strict_ s_0) aP ([]))).length:Int))),(56,.v (.int .i64 (k_2:Int)))],[.cells [.rs .int facts,.rs .clause clauses,.os 1,.os 2],.mp .int .bool strict_ none,.mp .int .int s_2 none,.cells [.ptr 0 0],.row .reason s_0.2,.cells [.os 7],.dead,.row .reason (dL (gD (be facts clauses strict_ s_0) aP ([])))]⟩) (lL facts clauses strict_ (dL (gD (be facts clauses strict_ s_0) aP ([])))) pT ((dL (gD (be facts clauses strict_ s_0) aP ([]))).length) s_0.1 ((dL (gD (be facts clauses strict_ s_0) aP ([]))).length≤aL) ((·.elim)) ((·.elim)) st)else none),?_,?_⟩
   ·simp only[am,true_and,and_true];refine⟨?_,?_⟩
    ·refine IW mixed al hG (by decide) (by decide) kr kr fun st lc hC hp=>?_;simp only[go_sem,Nat.reduceBEq,Option.some.injEq]at hC;subst hC;obtain⟨t,h⟩:=st;dsimp only[LC]at hp;obtain⟨e1_0,e1_1,e1_2,e1_3,rfl,hb1,hok1⟩:=hp;refine⟨⟨t,[.cells [.rs .int facts,.rs .clause clauses,.os 1,.os 2],.mp .int .bool strict_ none,.mp .int .int s_0.1 none,.cells [.ptr 0 0],.row .reason s_0.2,.cells [.os 6],.row .reason ([])]⟩,NilS.cell (h:=[.cells [.rs .int facts,.rs .clause clauses,.os 1,.os 2],.mp .int .bool strict_ none,.mp .int .int s_0.1 none,.cells [.ptr 0 0],.row .reason s_0.2,.cells [.v (.slice none 0 0)]]) (i:=5) (j:=0) (.row .reason ([])) (NilS.refl _) rfl rfl (.inl ⟨_,rfl⟩),159,[],Int,_,_,aP,CG,(be facts clauses strict_ s_0),(ev facts clauses strict_ s_0),_,([]),_,_,_,[(1,.ptr 3 0),(2,.os 4),(3,.ptr 5 0)],(fun s_1=>[.cells [.rs .int facts,.rs .clause clauses,.os 1,.os 2],.mp .int .bool strict_ none,.mp .int .int s_0.1 none,.cells [.ptr 0 0],.row .reason s_0.2,.cells [.os 7],.dead,.row .reason s_1]),(fun x=>x.elim),[0,1,2,3,4,5,6,6],?_,rfl,hok1,nbl rfl,?_,r4 _ hb1,fun z_1 s_1 hq1=>⟨rfl,L0,fun l=>?_,fun l=>?_,?_⟩,fun s_1=>?_,fun y=>?_⟩
     ·simp only[go_sem,e1_0,e1_1,e1_2,e1_3]
     ·simp only[go_sem,Nat.reduceBEq,Nat.reduceLeDiff,Nat.reduceLT,decide_true,Nat.reduceAdd,Nat.reduceSub,Nat.reduceMul,Int.reduceLE,Int.reduceLT,Int.reduceToNat,Int.reduceNeg,reduceCtorEq,wu,ox,List.flatMap_cons,List.flatMap_nil,List.nil_append,List.append_nil,List.map_nil,e1_0,e1_1,e1_2,e1_3];all_goals (first|done|decide|(repeat' (first|refine And.intro ?_ ?_|rfl|decide)))
     ·simp only[am,and_self,true_and,and_true]
     ·simp only[am,and_self,true_and,and_true]
     ·unfold ev at hq1;exact YG (jl [0,1,2,3,4,5,6,7]) (jl [0,1,2,3,4,5,6,9]) (jl [0,1,2,3,4,5,6,8])
     ·exact Sd (jl [0,1,2,3,4,5,6,7]) (jl [0,1,2,3,4,5,6,9]) (jl [0,1,2,3,4,5,6,8])
     ·exact Sd (jl [0,1,2,3,4,5,6,7]) (jl [0,1,2,3,4,5,6,9]) (jl [0,1,2,3,4,5,6,8])
    ·refine aV mixed al hG kr (fun _=>rfl) ((dL (gD (be facts clauses strict_ s_0) aP ([]))).length:Int) rfl ia (fun hb2 k_2 s_2 hlt2 _ hw hc=>⟨L0,ag _,?_⟩) (fun hb2 s_2 hc=>?_)
     ·exact Oq (jl [0,1,2,3,4,5,6,7])
     ·exact Ot (jl [0,1,2,3,4,5,6,7])
   ·unfold fH at hq0;exact Oo (jl [0,1,2,3,8]) (jl [0,1,2,3,4])
 ·unfold ae Tryz.f85;try unfold eH
  exact YH (jl [0,1,2,4])
def iu (p:Plea)(q:Int):Int×Int:=letI q0:=du .int .int ((eH p.facts p.clauses (fv p) ([])).1) q;(bif((jr p) !=0)then(0,(jr p))else(bif(!(iA q))then(0,1)else(bif(q0==0)then(3,0)else(q0,0))))
def kh (p:Plea)(q:Int):Prop:=((jC p)∧(((jr p) !=0)=false→((!(iA q))=false→((iO p)∧(eI p.facts p.clauses (fv p) ([]))))))
@[go_sem] def sW:List SV→Option Con:=(pD .plea fun p=>(pI fun q=>(pE (.det (kh p q) (.tup [.v (.int .i64 ((iu p q).1)),.v (.int .i64 ((iu p q).2))])))))
theorem vM:FnOk Tryz.prog 35 sW:=by
 have hG:ConsOk Tryz.prog (mkG [(67,fun l=>qG (bv [.st .plea] l)),(83,ol)] [(84,qu),(85,mS)]):=ap (cgc (sS.norm [.st .plea]) (cgc qr cg0)) (cgc zh (cgc vW cg0));refine av [.o,.o] mixed al hG (fn:=Tryz.f35) (c:=ae Tryz.f35) kr kr kr kr (bp fun p=>(dh fun q=>(ai (fun hp=>?_))));dsimp only[ar]at hp;unfold kh at hp;refine⟨nbl rfl,L0,ag _,?_⟩
 ·unfold ae Tryz.f35;try unfold iu
  exact zq1
@[go_sem] def nQ (a0:Cases)(a1:Suit)(k_0:Nat)(s_0:List Int):Empty⊕(List Int):=(bif((a0.sides.getD (Int.toNat (a1.facts.getD k_0 0)) 0) ==1)then .inr (s_0++([(a1.facts.getD k_0 0)]))else .inr s_0)
def lM (a0:Cases)(a1:Suit)(k_0:Nat)(s_0:List Int):Prop:=((0≤(a1.facts.getD k_0 0)∧(a1.facts.getD k_0 0) < (a0.sides.length:Int))∧(((a0.sides.getD (Int.toNat (a1.facts.getD k_0 0)) 0) ==1)=true→((s_0++([(a1.facts.getD k_0 0)])).length*8≤cU)))
@[go_sem] def nR (a0:Cases)(a1:Suit)(k_1:Nat)(s_1:List Int):Empty⊕(List Int):=(bif((a0.sides.getD (Int.toNat (a1.facts.getD k_1 0)) 0) ==0)then .inr (s_1++([(a1.facts.getD k_1 0)]))else .inr s_1)
def lN (a0:Cases)(a1:Suit)(k_1:Nat)(s_1:List Int):Prop:=((0≤(a1.facts.getD k_1 0)∧(a1.facts.getD k_1 0) < (a0.sides.length:Int))∧(((a0.sides.getD (Int.toNat (a1.facts.getD k_1 0)) 0) ==0)=true→((s_1++([(a1.facts.getD k_1 0)])).length*8≤cU)))
@[go_sem] def nS (a0:Cases)(a1:Suit)(k_2:Nat)(s_2:List Int):Empty⊕(List Int):=(bif((a0.sides.getD (Int.toNat (a1.facts.getD k_2 0)) 0) ==1)then .inr (s_2++([(a1.facts.getD k_2 0)]))else .inr s_2)
def lO (a0:Cases)(a1:Suit)(k_2:Nat)(s_2:List Int):Prop:=((0≤(a1.facts.getD k_2 0)∧(a1.facts.getD k_2 0) < (a0.sides.length:Int))∧(((a0.sides.getD (Int.toNat (a1.facts.getD k_2 0)) 0) ==1)=true→((s_2++([(a1.facts.getD k_2 0)])).length*8≤cU)))
@[go_sem] def nT (a0:Cases)(a1:Suit)(k_3:Nat)(s_3:List Int):Empty⊕(List Int):=(bif((a0.sides.getD (Int.toNat (a1.facts.getD k_3 0)) 0) ==0)then .inr (s_3++([(a1.facts.getD k_3 0)]))else .inr s_3)
def lP (a0:Cases)(a1:Suit)(k_3:Nat)(s_3:List Int):Prop:=((0≤(a1.facts.getD k_3 0)∧(a1.facts.getD k_3 0) < (a0.sides.length:Int))∧(((a0.sides.getD (Int.toNat (a1.facts.getD k_3 0)) 0) ==0)=true→((s_3++([(a1.facts.getD k_3 0)])).length*8≤cU)))
def iB (a0:Cases)(a1:Suit):Case×Int:=letI q0:=iu a1.plea a1.question;letI q1:=aN a0 a1.facts 0;letI q3:=aN a0 a1.facts 1;letI q4:=(a0.cases.length:Int);letI q2:=a0.cases.getD (Int.toNat (i64.wrap (q4 - 1))) default;letI q5:=fG a0;letI q6:=jr a1.plea;(bif(q5 !=0)then(({ no:=0,hour:=0,winner:=0,facts:=[],reason:=[]}:Case),q5)else(bif(q6 !=0)then(({ no:=0,hour:=0,winner:=0,facts:=[],reason:=[]}:Case),q6)else(bif(an (q0.2==0) (q0.2))then(bif(an (q1.2.2==0) (q1.2.2))then(bif(an ((aM a1.no 0 1048576)&&(aM a1.hour 0 4096)) 520)then(bif(decide (q4 > 0))then(bif(an ((decide (a1.no > q2.no))&&(decide (a1.hour≥q2.hour))) 520)then(bif((!q1.2.1)&&(q3.2.1||(q0.1 !=1)))then(match aq (nQ a0 a1) a1.facts.length 0 ([])with| .inl x=>x.elim| .inr s_0=>(({ no:=a1.no,hour:=a1.hour,winner:=1,facts:=a1.facts,reason:=s_0}:Case),0))else(match aq (nR a0 a1) a1.facts.length 0 ([])with| .inl x=>x.elim| .inr s_1=>(({ no:=a1.no,hour:=a1.hour,winner:=0,facts:=a1.facts,reason:=s_1}:Case),0)))else(({ no:=0,hour:=0,winner:=0,facts:=[],reason:=[]}:Case),520))else(bif((!q1.2.1)&&(q3.2.1||(q0.1 !=1)))then(match aq (nS a0 a1) a1.facts.length 0 ([])with| .inl x=>x.elim| .inr s_2=>(({ no:=a1.no,hour:=a1.hour,winner:=1,facts:=a1.facts,reason:=s_2}:Case),0))else(match aq (nT a0 a1) a1.facts.length 0 ([])with| .inl x=>x.elim| .inr s_3=>(({ no:=a1.no,hour:=a1.hour,winner:=0,facts:=a1.facts,reason:=s_3}:Case),0))))else(({ no:=0,hour:=0,winner:=0,facts:=[],reason:=[]}:Case),520))else(({ no:=0,hour:=0,winner:=0,facts:=[],reason:=[]}:Case),(q1.2.2)))else(({ no:=0,hour:=0,winner:=0,facts:=[],reason:=[]}:Case),(q0.2)))))
def sX (a0:Cases)(a1:Suit):Prop:=letI q1:=iu a1.plea a1.question;letI q2:=aN a0 a1.facts 0;letI q3:=aN a0 a1.facts 1;letI q4:=(a0.cases.length:Int);letI q0:=i64.wrap (q4 - 1);letI q5:=a0.cases.getD (Int.toNat q0) default;letI q6:=q1.1 !=1;letI q7:=decide (a1.no > q5.no);((fC a0)∧(((fG a0) !=0)=false→((jC a1.plea)∧(((jr a1.plea) !=0)=false→((kh a1.plea a1.question)∧((an (q1.2==0) (q1.2))=true→((eE a0 a1.facts 0)∧((an (q2.2.2==0) (q2.2.2))=true→((eE a0 a1.facts 1)∧((an ((aM a1.no 0 1048576)&&(aM a1.hour 0 4096)) 520)=true→(a0.cases.length≤aL→(((decide (q4 > 0))=true→((0≤q0∧q0<q4)∧((q7=true→(0≤q0∧q0<q4))∧((an (q7&&(decide (a1.hour≥q5.hour))) 520)=true→((((!q2.2.1)&&(q3.2.1||q6))=true→(a1.facts.length≤aL→okI (nQ a0 a1) (lM a0 a1) a1.facts.length 0 ([])))∧(((!q2.2.1)&&(q3.2.1||q6))=false→(a1.facts.length≤aL→okI (nR a0 a1) (lN a0 a1) a1.facts.length 0 ([]))))))))∧((decide (q4 > 0))=false→((((!q2.2.1)&&(q3.2.1||q6))=true→(a1.facts.length≤aL→okI (nS a0 a1) (lO a0 a1) a1.facts.length 0 ([])))∧(((!q2.2.1)&&(q3.2.1||q6))=false→(a1.facts.length≤aL→okI (nT a0 a1) (lP a0 a1) a1.facts.length 0 ([])))))))))))))))))
@[go_sem] def sY:List SV→Option Con:=(pD .cases fun a0=>(pD .suit fun a1=>(pE (.det (sX a0 a1) (.tup [.agg (cellsOf .case ((iB a0 a1).1)),.v (.int .i64 ((iB a0 a1).2))])))))
theorem Kj {p:Prop}(h:p:=by simp only[go_sem,Nat.reduceBEq,Nat.reduceLeDiff,Nat.reduceLT,decide_true,Nat.reduceAdd,Nat.reduceSub,Nat.reduceMul,Int.reduceLE,Int.reduceLT,Int.reduceToNat,Int.reduceNeg,reduceCtorEq,hs0,hs1,qh,oy,RCJ];all_goals exact cl):p:=h
theorem xq:FnOk Tryz.prog 24 sY:=by
 have hG:ConsOk Tryz.prog (mkG [(34,fun l=>oG (bv [.st .cases,.sl .int,.o] l)),(35,fun l=>sW (bv [.st .plea,.o] l)),(52,f_),(58,jU),(64,fun l=>kQ (bv [.st .cases] l)),(67,fun l=>qG (bv [.st .plea] l))] []):=ap (cgc (rY.norm [.st .cases,.sl .int,.o]) (cgc (vM.norm [.st .plea,.o]) (cgc ib (cgc l5 (cgc (nO.norm [.st .cases]) (cgc (sS.norm [.st .plea]) cg0)))))) cg0;refine JX E4 [.st .case,.o] mixed al hG (fn:=Tryz.f24) (c0:=qh (ae Tryz.f24)) (c1:=oy (oy (ae Tryz.f24))) (i1:=PU (qh (oy (ae Tryz.f24)))) (o1:=M_ 0 (qh (oy (ae Tryz.f24)))) (q:=5) (tys:= #[104]) kr kr kr (by refine⟨?_,?_,?_⟩ <;>kernel_rfl) kr kr (bp fun a0=>(bp fun a1=>(ai (fun hp=>?_))));dsimp only[ar]at hp;unfold sX at hp;rcases Bool.eq_false_or_eq_true (decide ((a0.cases.length:Int) > 0))with hs0|hs0 <;>rcases Bool.eq_false_or_eq_true ((!(aN a0 a1.facts 0).2.1)&&((aN a0 a1.facts 1).2.1||((iu a1.plea a1.question).1 !=1)))with hs1|hs1
 ·have hsp:True:=trivial;refine⟨nbl rfl,L0,(fun id st=>bif Nat.beq id 0 then some (LCR (ρ:=Empty) (σ:=(List Int)) 4 [.cell 2 4 (.row .int ([]))] [0,1,2,3,4] (fun k_0 s_0=>⟨[(2,.ptr 0 0),(4,.ptr 2 0),(5,.ptr 3 0),(115,.rs .int a1.facts),(116,.v (.int .i64 (a1.facts.length:Int))),(117,.v (.int .i64 (k_0:Int)))],[.cells (cellsOf .cases a0),.dead,.cells [.v (.int .i64 a1.no),.v (.int .i64 a1.hour),.v (.int .i64 1),.rs .int a1.facts,.os 4],.cells [.v (.int .i64 ((aN a0 a1.facts 0).2.2))],.row .int s_0]⟩) (nQ a0 a1) (lM a0 a1) a1.facts.length ([]) (a1.facts.length≤aL) ((·.elim)) ((·.elim)) st)else none),3,?_,?_,?_⟩
  ·unfold ae Tryz.f24;simp only[qh,am,and_self,true_and,and_true]
  ·unfold ae Tryz.f24;simp only[oy];simp only[am,true_and,and_true]
   ·refine aV mixed al hG kr (fun _=>rfl) (a1.facts.length:Int) rfl ia (fun hb0 k_0 s_0 hlt0 hq0 hw hc=>⟨L0,ag _,?_⟩) (fun hb0 s_0 hc=>?_)
    ·unfold lM at hq0;try simp only[hw,Int.toNat_natCast]at hq0
     exact lh (jl [0,1,2,3,6]) (jl [0,1,2,3,4])
    ·exact jT (jl [0,1,2,3,6]) (jl [0,1,2,3,4])
  ·unfold ae Tryz.f24;try unfold iB
   exact Kj
 ·have hsp:True:=trivial;refine⟨nbl rfl,L0,(fun id st=>bif Nat.beq id 0 then some (LCR (ρ:=Empty) (σ:=(List Int)) 4 [.cell 2 4 (.row .int ([]))] [0,1,2,3,4] (fun k_1 s_1=>⟨[(2,.ptr 0 0),(4,.ptr 2 0),(5,.ptr 3 0),(115,.rs .int a1.facts),(116,.v (.int .i64 (a1.facts.length:Int))),(117,.v (.int .i64 (k_1:Int)))],[.cells (cellsOf .cases a0),.dead,.cells [.v (.int .i64 a1.no),.v (.int .i64 a1.hour),.v (.int .i64 0),.rs .int a1.facts,.os 4],.cells [.v (.int .i64 ((aN a0 a1.facts 0).2.2))],.row .int s_1]⟩) (nR a0 a1) (lN a0 a1) a1.facts.length ([]) (a1.facts.length≤aL) ((·.elim)) ((·.elim)) st)else none),3,?_,?_,?_⟩
  ·unfold ae Tryz.f24;simp only[qh,am,and_self,true_and,and_true]
  ·unfold ae Tryz.f24;simp only[oy];simp only[am,true_and,and_true]
   ·refine aV mixed al hG kr (fun _=>rfl) (a1.facts.length:Int) rfl ia (fun hb1 k_1 s_1 hlt1 hq1 hw hc=>⟨L0,ag _,?_⟩) (fun hb1 s_1 hc=>?_)
    ·unfold lN at hq1;try simp only[hw,Int.toNat_natCast]at hq1
     exact lh (jl [0,1,2,3,6]) (jl [0,1,2,3,4])
    ·exact jT (jl [0,1,2,3,6]) (jl [0,1,2,3,4])
  ·unfold ae Tryz.f24;try unfold iB
   exact Kj
 ·have hsp:True:=trivial;refine⟨nbl rfl,L0,(fun id st=>bif Nat.beq id 0 then some (LCR (ρ:=Empty) (σ:=(List Int)) 4 [.cell 2 4 (.row .int ([]))] [0,1,2,3,4] (fun k_2 s_2=>⟨[(2,.ptr 0 0),(4,.ptr 2 0),(5,.ptr 3 0),(115,.rs .int a1.facts),(116,.v (.int .i64 (a1.facts.length:Int))),(117,.v (.int .i64 (k_2:Int)))],[.cells (cellsOf .cases a0),.dead,.cells [.v (.int .i64 a1.no),.v (.int .i64 a1.hour),.v (.int .i64 1),.rs .int a1.facts,.os 4],.cells [.v (.int .i64 ((aN a0 a1.facts 0).2.2))],.row .int s_2]⟩) (nS a0 a1) (lO a0 a1) a1.facts.length ([]) (a1.facts.length≤aL) ((·.elim)) ((·.elim)) st)else none),3,?_,?_,?_⟩
  ·unfold ae Tryz.f24;simp only[qh,am,and_self,true_and,and_true]
  ·unfold ae Tryz.f24;simp only[oy];simp only[am,true_and,and_true]
   ·refine aV mixed al hG kr (fun _=>rfl) (a1.facts.length:Int) rfl ia (fun hb2 k_2 s_2 hlt2 hq2 hw hc=>⟨L0,ag _,?_⟩) (fun hb2 s_2 hc=>?_)
    ·unfold lO at hq2;try simp only[hw,Int.toNat_natCast]at hq2
     exact lh (jl [0,1,2,3,6]) (jl [0,1,2,3,4])
    ·exact jT (jl [0,1,2,3,6]) (jl [0,1,2,3,4])
  ·unfold ae Tryz.f24;try unfold iB
   exact Kj
 ·have hsp:True:=trivial;refine⟨nbl rfl,L0,(fun id st=>bif Nat.beq id 0 then some (LCR (ρ:=Empty) (σ:=(List Int)) 4 [.cell 2 4 (.row .int ([]))] [0,1,2,3,4] (fun k_3 s_3=>⟨[(2,.ptr 0 0),(4,.ptr 2 0),(5,.ptr 3 0),(115,.rs .int a1.facts),(116,.v (.int .i64 (a1.facts.length:Int))),(117,.v (.int .i64 (k_3:Int)))],[.cells (cellsOf .cases a0),.dead,.cells [.v (.int .i64 a1.no),.v (.int .i64 a1.hour),.v (.int .i64 0),.rs .int a1.facts,.os 4],.cells [.v (.int .i64 ((aN a0 a1.facts 0).2.2))],.row .int s_3]⟩) (nT a0 a1) (lP a0 a1) a1.facts.length ([]) (a1.facts.length≤aL) ((·.elim)) ((·.elim)) st)else none),3,?_,?_,?_⟩
  ·unfold ae Tryz.f24;simp only[qh,am,and_self,true_and,and_true]
  ·unfold ae Tryz.f24;simp only[oy];simp only[am,true_and,and_true]
   ·refine aV mixed al hG kr (fun _=>rfl) (a1.facts.length:Int) rfl ia (fun hb3 k_3 s_3 hlt3 hq3 hw hc=>⟨L0,ag _,?_⟩) (fun hb3 s_3 hc=>?_)
    ·unfold lP at hq3;try simp only[hw,Int.toNat_natCast]at hq3
     exact lh (jl [0,1,2,3,6]) (jl [0,1,2,3,4])
    ·exact jT (jl [0,1,2,3,6]) (jl [0,1,2,3,4])
  ·unfold ae Tryz.f24;try unfold iB
   exact Kj
end Go.Sx
end
section
namespace Go.Sx
def pCN {α:Type 1}(k:List Int→List SV→Option α):List SV→Option α
 | .agg [.rs .int s,.v (.slice none 0 0)]::r=>k s r
 |_=>none
@[go_sem] theorem abo {α:Type 1}{k:List Int→List SV→Option α}{s:List Tag.int.T}{r:List SV}:pCN k (.agg [.rs .int s,.v (.slice none 0 0)]::r)=k s r:=(rfl)
theorem Q7 {α:Type 1}{G:List SV→α→Prop}{k:List Int→List SV→Option α}(h:∀ s l c,k s l=some c→G (.agg [.rs .int s,.v (.slice none 0 0)]::l) c):∀ l c,pCN k l=some c→G l c:=by
 intro l c hc;unfold pCN at hc;split at hc
 ·exact h _ _ _ hc
 ·cases hc
end Go.Sx
end
section
namespace Go.Sx
open Go.RowKit
def IX (n0 id:Nat):Ob→SV
 | .row k l=>bif Nat.ble n0 id then .rs k l else .any
 |_=>.any
def isV:SV→Bool
 | .v _=>true
 |_=>false
def wW (n0:Nat)(h:List Ob):SV→SV
 | .v x=>.v x
 | .rs k l=>.rs k l
 | .agg l=>bif l.all isV then .agg l else .any
 | .os id=>IX n0 id (aj h id)
 |_=>.any
def AP (n0:Nat)(h:List Ob):SV→SV
 | .tup l=>.tup (l.map (wW n0 h))
 |s=>wW n0 h s
def CI (n0:Nat)(own:Own):Own:=fun i=>if i<n0 then own i else none
section
variable {F:Nat→Prop}{own:Own}{w:World}{n0:Nat}{h:List Ob}
theorem zi {b:Nat}(hb:¬bP F own b):¬bP F (CI n0 own) b:=by
 rintro (hf| ⟨id,hd,e,hm⟩)
 ·exact hb (.inl hf)
 ·unfold CI at e;split at e
  ·exact hb (.inr ⟨id,hd,e,hm⟩)
  ·cases e
theorem zj (hp:Hp F own w h):∀ (s:SV) (v:Value),Rel F own w s v→Rel F (CI n0 own) w (wW n0 h s) v:=by
 intro s v hr;cases s with
 |v x=>exact hr.over (.v x) fun b hb=>zi hb
 |rs k l=>exact hr.over .rs fun b hb=>zi hb
 |agg l=>
  simp only[wW];cases ha:l.all isV with
  |false=>exact .any _
  |true=>
   refine hr.over (.agg fun j s hj=>?_) fun b hb=>zi hb;have:=List.all_eq_true.1 ha s (List.mem_of_getElem? hj);cases s <;>first|exact .v _|cases this
 |os id=>
  obtain⟨hd,h1,rfl,h2⟩:=iE hr;simp only[wW];cases ho:aj h id with
  |row k l=>
   simp only[IX];cases hn:Nat.ble n0 id with
   |false=>exact .any _
   |true=>
    have hn':=nbl hn;obtain⟨hd',e0,e⟩:=hp.at ho rfl;rw[h1]at e0;cases e0;have hnb:∀ b∈hd.bs,¬bP F (CI n0 own) b:=by
     rintro b hb (hf| ⟨i,hi,e1,e2⟩)
     ·exact hp.apart id hd b h1 hb hf
     ·unfold CI at e1;split at e1
      ·rename_i hlt;have:=hp.inj id i hd hi b h1 e1 hb e2;omega
      ·cases e1
    rcases e with⟨a,e1,rfl,_⟩ | ⟨b,o,cap,cs,ty,e1,e2,h3,h4,h5,h6,h7⟩
    ·rw[e1];exact .rs0
    ·rw[e1];refine .rs (fun i j=>cs.getD (o+i*aa k+j) undef) h5 h6 (fun i x hi j s hj=>?_) (fun i x hi j s hj=>?_)
     ·obtain⟨u,k1,k2⟩:=h7 i x hi j s hj;refine⟨hnb b (by simp[e2]),?_⟩;rw[dN h3,k1];simp[Array.getD_eq_getD_getElem?,k1]
     ·obtain⟨u,k1,k2⟩:=h7 i x hi j s hj;have:cs.getD (o+i*aa k+j) undef=u:=by simp[Array.getD_eq_getD_getElem?,k1]
      rw[this];exact k2.over (qS hj) fun b hb=>zi hb
  |_=>exact .any _
 |_=>exact .any _
theorem Ou (hp:Hp F own w h)(s:SV)(v:Value)(hr:Rel F own w s v):Rel F (CI n0 own) w (AP n0 h s) v:=by
 cases s with
 |tup l=>
  cases hr with
  |tup h0 h1=>
   refine .tup (by simpa using h0) fun j s hj=>?_;obtain⟨x,hx,rfl⟩:=bW hj;exact zj hp x _ (h1 j x hx)
 |_=>exact zj hp _ _ hr
theorem A6 (s:SV):PF (wW n0 h s):=by
 cases s with
 |agg l=>
  simp only[wW];cases ha:l.all isV with
  |false=>exact .any
  |true=>
   refine .agg fun j s hj=>?_;have:=List.all_eq_true.1 ha s (List.mem_of_getElem? hj);cases s <;>first|exact .v _|cases this
 |os id=>
  simp only[wW];cases aj h id with
  |row k l=>simp only[IX];cases Nat.ble n0 id <;>first|exact .any|exact .rs
  |_=>exact .any
 |v x=>exact .v x
 |rs k l=>exact .rs
 |_=>exact .any
theorem Q8 (s:SV):PF (AP n0 h s):=by
 cases s
 case tup l=>exact .tup fun j s hj=>by obtain⟨x,hx,rfl⟩:=bW hj;exact A6 x
 all_goals (unfold AP;exact A6 _)
@[go_sem] theorem YI {l:List SV}:AP n0 h (.tup l)=.tup (l.map (wW n0 h)):=(rfl)
@[go_sem] theorem aap {id:Nat}:AP n0 h (.os id)=IX n0 id (aj h id):=(rfl)
@[go_sem] theorem abp {x:Value}:AP n0 h (.v x)=.v x:=(rfl)
@[go_sem] theorem aaq {k:Tag}{l:List k.T}:AP n0 h (.rs k l)=.rs k l:=(rfl)
@[go_sem] theorem YJ {l:List SV}:AP n0 h (.agg l)=bif l.all isV then .agg l else .any:=(rfl)
@[go_sem] theorem abq {x:Value}:wW n0 h (.v x)=.v x:=(rfl)
@[go_sem] theorem aar {k:Tag}{l:List k.T}:wW n0 h (.rs k l)=.rs k l:=(rfl)
@[go_sem] theorem YK {l:List SV}:wW n0 h (.agg l)=bif l.all isV then .agg l else .any:=(rfl)
@[go_sem] theorem aas {id:Nat}:wW n0 h (.os id)=IX n0 id (aj h id):=(rfl)
@[go_sem] theorem YL {k:Tag}{l:List k.T}{id:Nat}:IX n0 id (.row k l)=bif Nat.ble n0 id then .rs k l else .any:=(rfl)
@[go_sem] theorem isV_v {x:Value}:isV (.v x)=true:=(rfl)
end
def LK (pks:List Pk)(n0:Nat)(S:SV)(H:List Ob)(h:List Ob):Option SV→Prop
 |some s=>S=tP pks (AP n0 h s)∧i9 ⟨[],H⟩ n0 ⟨[],h⟩
 |none=>False
def Ov (pks:List Pk)(n0:Nat)(rs:List ResultVar)(ts:Tis)(S:SV)(H:List Ob):Ex→St→Prop
 | .exit _,_=>False
 | .normal,st=>LK pks n0 S H st.h (ku (ju ts st rs))
 | .ret,st=>LK pks n0 S H st.h (ku (ju ts st rs))
 | .pan _,_=>False
section
variable {P:Program}{ts:Tis}{G:Cons}{n0:Nat}{S s:SV}{H h:List Ob}{rs:List ResultVar}{st:St}{pks:List Pk}
@[go_sem] theorem Wx:LK pks n0 S H h (some s)=(S=tP pks (AP n0 h s)∧i9 ⟨[],H⟩ n0 ⟨[],h⟩):=(rfl)
@[go_sem] theorem Q9:Ov pks n0 rs ts S H .normal st=LK pks n0 S H st.h (ku (ju ts st rs)):=(rfl)
@[go_sem] theorem Wy:Ov pks n0 rs ts S H .ret st=LK pks n0 S H st.h (ku (ju ts st rs)):=(rfl)
theorem Hk {js:List Nat}{own:Own}{F:Nat→Prop}{b:Nat}(hk:xT 0 js n0=true)(hl:H.length=n0)(hb:¬bP F (CI n0 own) b):¬bP F (gS js H own) b:=by
 rintro (hf| ⟨k,hd,e,hm⟩)
 ·exact hb (.inl hf)
 ·obtain⟨h1,j,hd0,e1,e2,_,e4⟩:=iw e;obtain⟨_,rfl⟩:=e4 b hm;have hj:=x6 js 0 n0 hk k j e1 (by omega);have hjk:j=k:=by omega
  subst hjk;refine hb (.inr ⟨j,hd,?_,hm⟩);unfold CI;rw[if_pos (by omega)];exact e2
theorem Ow (pks:List Pk) (hm:P.follows .mixedOrders=true) (hts:ts.ok P) (hG:ConsOk P G) {f:FuncId} {fn:Func} {c:Code} (hf:P.funcs[f]? =some fn) (hb:fn.body=some c) (hname:(fn.name== "runtime.NumGoroutine")=false)
  (hc:bO fn.ntmps c=true) {C:List SV→List Ob→Option HCon}
  (h:∀ l o con,C l o=some con→∃ p S H,con=ik p S H∧H.length=o.length∧(p→l.length≤fn.ntmps∧∃ L,am P none fn.ntmps L c∧exec ts G L c ⟨lf 0 l,o⟩ (Ov pks o.length fn.results.toList ts S H))):FnOkO P f C:=by
 refine⟨fun l o con _ args w=>?_,fun l o con hcon hpre F own w vs hp hvs=>?_⟩
 ·have hn:¬fn.name= "runtime.NumGoroutine":=by simpa using hname
  simp[callFunc,hf,hn,hb]
 ·obtain⟨p,S,H,rfl,hH,h2⟩:=h l o con hcon;obtain⟨hlen,L,hl,hx⟩:=h2 hpre;have hn0:∀ id hd,own id=some hd→id<o.length:=fun id hd e=>hp.dom id hd e;refine mt (n:=0) (callsIn_of_wp_marks hf hb trivial ?_);have hr:StRel F { w:=w,own:=own} fn.ntmps own ⟨lf 0 l,o⟩ { tmps:=vs++Array.replicate (fn.ntmps - vs.size) undef,defers:=[]} w:=
   ⟨by have:=hvs.1;simp;omega,Dfr.nil,hp,Fr.refl { w:=w,own:=own},fun t=>kz hvs _ t⟩
  refine wpIn_mono (lX hm hts hG c hc hl F _ _ hx own _ w hr) ?_;intro e a' w' hq;have key:∀ F1 own' st,(∀ b,F b→F1 b)→StRel F1 { w:=w,own:=own} fn.ntmps own' st a' w'→LK pks o.length S H st.h (ku (ju ts st fn.results.toList))→LeavesInM (rd none) 0 P fn a'.tmps (fun e w'=>∃ r own',(ik p S H).post r∧BO F w own o.length e own' w' ((ik p S H).res r)) a'.defers .returning w':=by
   intro F1 own' st hF1 hst hdone;refine iF hst (by simp) fun w2 hst2=>?_;have hst3:=hst2.less hF1 rfl;cases hs:ku (ju ts st fn.results.toList)with
   |none=>rw[hs]at hdone;exact hdone.elim
   |some s=>
    rw[hs]at hdone;obtain⟨hS,js,q3,q4⟩:=hdone;obtain⟨u,e1,e2⟩:=tw (P:=P) hts hst3 hs;obtain⟨k1,k2,_,_⟩:=zF q4 hst3.hp hst3.fr hn0 q3;refine⟨u,e1,(),gS js H own',trivial,⟨u,rfl,?_⟩,k1,k2,q3⟩;subst hS;exact wv ((Ou hst3.hp s u e2).over (Q8 s) fun b hb=>Hk q4.1.2.1 hH hb)
  cases e with
  |normal=>obtain⟨F1,own',st,h0,h1,h2⟩:=hq;exact key F1 own' st h0 h1 h2
  |ret=>obtain⟨F1,own',st,h0,h1,h2⟩:=hq;exact key F1 own' st h0 h1 h2
  |exit id=>obtain⟨F1,own',st,h0,h1,h2⟩:=hq;exact h2.elim
  |panic ch=>obtain⟨x,F1,own',st,h0,h1,h2,rfl⟩:=hq;exact h2.elim
  |_=>exact hq.elim
end
def Da (n0:Nat)(h:List Ob):SV→SV
 | .agg l=>.agg (l.map (wW n0 h))
 |s=>wW n0 h s
def Db (n0:Nat)(h:List Ob):SV→SV
 | .tup l=>.tup (l.map (Da n0 h))
 |s=>Da n0 h s
section
variable {F:Nat→Prop}{own:Own}{w:World}{n0:Nat}{h:List Ob}
theorem Hl (hp:Hp F own w h)(s:SV)(v:Value)(hr:Rel F own w s v):Rel F (CI n0 own) w (Da n0 h s) v:=by
 cases s with
 |agg l=>
  cases hr with
  |agg h0 h1=>
   refine .agg (by simpa using h0) fun j s hj=>?_;obtain⟨x,hx,rfl⟩:=bW hj;exact zj hp x _ (h1 j x hx)
 |_=>exact zj hp _ _ hr
theorem Hm (hp:Hp F own w h)(s:SV)(v:Value)(hr:Rel F own w s v):Rel F (CI n0 own) w (Db n0 h s) v:=by
 cases s with
 |tup l=>
  cases hr with
  |tup h0 h1=>
   refine .tup (by simpa using h0) fun j s hj=>?_;obtain⟨x,hx,rfl⟩:=bW hj;exact Hl hp x _ (h1 j x hx)
 |_=>exact Hl hp _ _ hr
theorem Kk (s:SV):PF (Da n0 h s):=by
 cases s
 case agg l=>exact .agg fun j s hj=>by obtain⟨x,hx,rfl⟩:=bW hj;exact A6 x
 all_goals (unfold Da;exact A6 _)
theorem Q_ (s:SV):PF (Db n0 h s):=by
 cases s
 case tup l=>exact .tup fun j s hj=>by obtain⟨x,hx,rfl⟩:=bW hj;exact Kk x
 all_goals (unfold Db;exact Kk _)
@[go_sem] theorem YM {l:List SV}:Db n0 h (.tup l)=.tup (l.map (Da n0 h)):=(rfl)
@[go_sem] theorem YN {l:List SV}:Db n0 h (.agg l)=.agg (l.map (wW n0 h)):=(rfl)
@[go_sem] theorem abr {x:Value}:Db n0 h (.v x)=.v x:=(rfl)
@[go_sem] theorem YO {l:List SV}:Da n0 h (.agg l)=.agg (l.map (wW n0 h)):=(rfl)
@[go_sem] theorem abt {x:Value}:Da n0 h (.v x)=.v x:=(rfl)
@[go_sem] theorem aat {k:Tag}{l:List k.T}:Da n0 h (.rs k l)=.rs k l:=(rfl)
@[go_sem] theorem aau {id:Nat}:Da n0 h (.os id)=IX n0 id (aj h id):=(rfl)
end
def Fu (pks:List Pk)(n0:Nat)(S:SV)(H:List Ob)(h:List Ob):Option SV→Prop
 |some s=>S=tP pks (Db n0 h s)∧i9 ⟨[],H⟩ n0 ⟨[],h⟩
 |none=>False
def Kl (pks:List Pk)(n0:Nat)(rs:List ResultVar)(ts:Tis)(S:SV)(H:List Ob)(id:Nat)(st:St):Option SV→Prop
 |some s=>C3 (aj st.h id)∧lE st.h=false∧Fu pks n0 S H (bf st.h id (.cells [s])) (ku (ju ts ⟨st.t,bf st.h id (.cells [s])⟩ rs))
 |none=>False
def Km (RC:Value→Option SV)(pks:List Pk)(n0:Nat)(rs:List ResultVar)(ts:Tis)(S:SV)(H:List Ob)(id:Nat):Ex→St→Prop
 | .exit _,_=>False
 | .normal,st=>Fu pks n0 S H st.h (ku (ju ts st rs))
 | .ret,st=>Fu pks n0 S H st.h (ku (ju ts st rs))
 | .pan x,st=>Kl pks n0 rs ts S H id st (RC x)
section
variable {RC:Value→Option SV}{pks:List Pk}{n0:Nat}{rs:List ResultVar}{ts:Tis}{S s:SV}{H h:List Ob}{id:Nat}{st:St}{x:Value}
@[go_sem] theorem Wz:Fu pks n0 S H h (some s)=(S=tP pks (Db n0 h s)∧i9 ⟨[],H⟩ n0 ⟨[],h⟩):=(rfl)
@[go_sem] theorem Ul:Kl pks n0 rs ts S H id st (some s)=(C3 (aj st.h id)∧lE st.h=false∧Fu pks n0 S H (bf st.h id (.cells [s])) (ku (ju ts ⟨st.t,bf st.h id (.cells [s])⟩ rs))):=(rfl)
@[go_sem] theorem Ra:Km RC pks n0 rs ts S H id .normal st=Fu pks n0 S H st.h (ku (ju ts st rs)):=(rfl)
@[go_sem] theorem WA:Km RC pks n0 rs ts S H id .ret st=Fu pks n0 S H st.h (ku (ju ts st rs)):=(rfl)
@[go_sem] theorem WB:Km RC pks n0 rs ts S H id (.pan x) st=Kl pks n0 rs ts S H id st (RC x):=(rfl)
end
section
variable {P:Program}{ts:Tis}{G:Cons}
theorem Ox {g:FuncId}{RC:Value→Option SV}(hrec:GI P g RC)(pks:List Pk)(hm:P.follows .mixedOrders=true)(hts:ts.ok P)(hG:ConsOk P G){f:FuncId}{fn:Func}{c0 c1:Code}{i1 q:Nat}{o1:Oper}{tys:Array TypeId}
  (hf:P.funcs[f]? =some fn) (hb:fn.body=some (.seq c0 (.seq (.region i1 #[o1] false) c1))) (hname:(fn.name== "runtime.NumGoroutine")=false)
  (ho1:o1.dst=none∧o1.op=.defer ⟨.value (.func g),#[.tmp q],tys⟩∧o1.guard=none)
  (hc0:bO fn.ntmps c0=true) (hc1:bO fn.ntmps c1=true) {C:List SV→List Ob→Option HCon}
  (h:∀ l o con,C l o=some con→∃ p S H,con=ik p S H∧H.length=o.length∧(p→l.length≤fn.ntmps∧∃ L L' id,am P none fn.ntmps L c0∧am P none fn.ntmps L' c1∧exec ts G L c0 ⟨lf 0 l,o⟩ (fun e st=>e=.normal∧lk q st.t=.ptr id 0∧C3 (aj st.h id)∧
   exec ts G L' c1 ⟨st.t,st.h⟩ (Km RC pks o.length fn.results.toList ts S H id)))):FnOkO P f C:=by
 refine⟨fun l o con _ args w=>?_,fun l o con hcon hpre F own w vs hp0 hvs=>?_⟩
 ·have hn:¬fn.name= "runtime.NumGoroutine":=by simpa using hname
  simp[callFunc,hf,hn,hb]
 ·obtain⟨p,S,H,rfl,hH,h2⟩:=h l o con hcon;obtain⟨hlen,L,L',id,hl,hl',hx⟩:=h2 hpre;have hn0:∀ id hd,own id=some hd→id<o.length:=fun id hd e=>hp0.dom id hd e;refine mt (n:=0) (callsIn_of_wp_marks hf hb trivial ?_);have hr:StRel F { w:=w,own:=own} fn.ntmps own ⟨lf 0 l,o⟩ { tmps:=vs++Array.replicate (fn.ntmps - vs.size) undef,defers:=[]} w:=
   ⟨by have:=hvs.1;simp;omega,Dfr.nil,hp0,Fr.refl { w:=w,own:=own},fun t=>kz hvs _ t⟩
  refine wpIn_seq (wpIn_mono (lX hm hts hG c0 hc0 hl F _ _ hx own _ w hr) ?_);intro e a1 w1 hq;cases e with
  |normal=>
   obtain⟨F1,own1,st1,hF1,hst1,_,hlk,_,hx1⟩:=hq;have hsq:=hst1.slots q;rw[hlk]at hsq;generalize hv:a1.tmps.getD q undef=pv at hsq;cases hsq with
   | @ptr _ _ b hd ho hp=>
   show(Code.seq (.region i1 #[o1] false) c1).wpIn (rd none) 0 P _ a1 w1;have hsz:=hst1.size;refine wpIn_seq (xJ ho1 hv ?_);show c1.wpIn (rd none) 0 P _ _ w1;obtain⟨ms,Ds,k0,k1,k2,k3⟩:=hst1.defers;have k0':a1.defers=ms:=by rw[k0];exact List.append_nil _
   let d:Deferred:= { target:=.fn (.func g) #[],args:= #[.pointer (some ⟨b,0,none⟩)]}
   let B:Bs:= { w:=w1,own:=own1,ds:=d::a1.defers}
   have hr2:StRel F1 B fn.ntmps own1 ⟨st1.t,st1.h⟩ { tmps:=a1.tmps,defers:=d::a1.defers} w1:=by
    exact⟨hsz,Dfr.nil,hst1.hp,Fr.refl B,hst1.slots⟩
   have hbd:∀ D∈Ds,¬ ∃ id hd,own1 id=some hd∧D∈hd.bs:=fun D hD ⟨i,hd,e,hm⟩ =>hst1.hp.apart i hd D e hm (k3 D hD).2.1;have fin:∀ F2 own2 st2 (a2:Act) w2,(∀ b,F1 b→F2 b)→StRel F2 B fn.ntmps own2 st2 a2 w2→Fu pks o.length S H st2.h (ku (ju ts st2 fn.results.toList))→
     LeavesInM (rd none) 0 P fn a2.tmps (fun e w'=>∃ r own',(ik p S H).post r∧BO F w own o.length e own' w' ((ik p S H).res r)) a1.defers .returning w2:=by
    intro F2 own2 st2 a2 w2 hF2 hst2 hdone;have hB:StRel F2 { w:=w,own:=own} fn.ntmps own2 st2 { a2 with defers:=[]} w2:=⟨hst2.size,Dfr.nil,hst2.hp,hst1.fr.trans ⟨hst2.fr.ids,hst2.fr.base,hst2.fr.os,hst2.fr.tape,hst2.fr.output,hst2.fr.size,hst2.fr.block⟩,hst2.slots⟩;have hkeep:∀ D∈Ds,w2.heap[D]? =some (.deferred (some [])):=fun D hD=>by
     rw[hst2.fr.block D ⟨ni (k3 D hD).2.2,hbd D hD⟩];exact(k3 D hD).2.2
    rw[k0',←List.append_nil ms];refine uA (by simp) Ds ms w2 k1 k2 hkeep fun w4 hs=>?_;have hst4:=(hB.shut (Ds:=Ds) (fun D hD=>⟨(k3 D hD).1,hF2 D (k3 D hD).2.1,hkeep D hD⟩) hs).less (fun c hc=>hF2 c (hF1 c hc)) rfl;cases hres:ku (ju ts st2 fn.results.toList)with
    |none=>rw[hres]at hdone;exact hdone.elim
    |some s=>
     obtain⟨u,e1,e2⟩:=tw (P:=P) hts hst4 hres;rw[hres]at hdone;obtain⟨hS,js,q3,q4⟩:=hdone;obtain⟨k1,k2,_,_⟩:=zF q4 hst4.hp hst4.fr hn0 q3;refine⟨u,e1,(),gS js H own2,trivial,⟨u,rfl,?_⟩,k1,k2,q3⟩;subst hS;exact wv ((Hm hst4.hp s u e2).over (Q_ s) fun b hb=>Hk q4.1.2.1 hH hb)
   have hinv:∀ w2:World,(invoke (.fn (.func g) #[]) #[.pointer (some ⟨b,0,none⟩)]).run P w2=.ok (.enter g #[.pointer (some ⟨b,0,none⟩)]) w2:=fun w2=>by simp[invoke,go_sem,hrec.1]
   refine wpIn_mono (lX hm hts hG c1 hc1 hl' F1 _ _ hx1 own1 _ w1 hr2) ?_;have idle:∀ (a':Act) (w':World) F2 own2 st2,(∀ b,F1 b→F2 b)→StRel F2 B fn.ntmps own2 st2 a' w'→Fu pks o.length S H st2.h (ku (ju ts st2 fn.results.toList))→
     LeavesInM (rd none) 0 P fn a'.tmps (fun e w'=>∃ r own',(ik p S H).post r∧BO F w own o.length e own' w' ((ik p S H).res r)) a'.defers .returning w':=by
    intro a' w' F2 own2 st2 hF2 hst2 hdone;refine iF hst2 (by simp) fun w2 hst3=>?_;refine⟨by simp,.inr ⟨fun h=>(by cases h),.func g,#[],g,#[.pointer (some ⟨b,0,none⟩)],rfl,hinv w2,fun _ _=>trivial,?_⟩⟩;refine(hrec.2.1 ⟨b,0,none⟩ w2).mono ?_;rintro e u' w3 ⟨⟨v,rfl⟩,rfl,rfl⟩;exact fin F2 own2 st2 { a' with defers:=B.ds} _ hF2 hst3 hdone
   intro e a' w' hq;cases e with
   |normal=>obtain⟨F2,own2,st2,h0,h1,h2⟩:=hq;exact idle a' w' F2 own2 st2 h0 h1 h2
   |ret=>obtain⟨F2,own2,st2,h0,h1,h2⟩:=hq;exact idle a' w' F2 own2 st2 h0 h1 h2
   |exit jd=>obtain⟨F2,own2,st2,h0,h1,h2⟩:=hq;exact h2.elim
   |panic ch=>
    obtain⟨x,F2,own2,st2,h0,h1,hm,rfl⟩:=hq;change Kl pks o.length fn.results.toList ts S H id st2 (RC x)at hm;cases m1:RC x with
    |none=>rw[m1]at hm;exact hm.elim
    |some s=>
    rw[m1]at hm;obtain⟨hm2,m4,m3⟩:=hm;obtain⟨y,m2⟩:=B_ hm2;refine iF h1 (by simp) fun w2 hst3=>?_;refine⟨by simp,.inr ⟨fun h=>(by cases h),.func g,#[],g,#[.pointer (some ⟨b,0,none⟩)],rfl,hinv w2,fun _ _=>trivial,?_⟩⟩;obtain⟨hd2,e2,l2⟩:=hst3.fr.ids id hd ho;refine(hrec.2.2 x s m1 F2 own2 w2 st2.h id hd2 b y m4 hst3.hp m2 e2 (l2.1.trans hp)).mono ?_;rintro e u' w3 ⟨⟨v,rfl⟩,rfl,own3,q1,q2⟩;exact fin F2 own3 ⟨st2.t,_⟩ { a' with defers:=B.ds} w3 h0 (hst3.moved q1 q2) m3
   |_=>exact hq.elim
  |ret=>obtain⟨F1,own,st,h0,h1,h2,_⟩:=hq;cases h2
  |exit jd=>obtain⟨F1,own,st,h0,h1,h2,_⟩:=hq;cases h2
  |panic ch=>obtain⟨x,F1,own,st,h0,h1,⟨h2,_⟩,_⟩:=hq;cases h2
  |_=>exact hq.elim
end
end Go.Sx
end
section
namespace Go.Sx
open Go.Proofs
open IntKind (i64)
@[go_sem] noncomputable def Fv:List SV→Option Con:=(pQ (.v (.slice none 0 0)) (pE (.det True (.v (.slice none 0 0)))))
theorem Oy:FnOk Tryz.prog 65 Fv:=by
 have hG:ConsOk Tryz.prog (mkG [] []):=ap cg0 cg0;refine av [.o] mixed al hG (fn:=Tryz.f65) (c:=ae Tryz.f65) kr kr kr kr (Uf (ai (fun hp=>?_)));dsimp only[ar]at hp;refine⟨nbl rfl,L0,ag _,?_⟩
 ·unfold ae Tryz.f65;exact zq1
@[go_sem] def lQ (sides:List Int)(a1:Suit)(k_0:Nat)(s_0:List Int):Empty⊕(List Int):=(bif((sides.getD (Int.toNat (a1.facts.getD k_0 0)) 0) ==1)then .inr (s_0++([(a1.facts.getD k_0 0)]))else .inr s_0)
def fI (sides:List Int)(a1:Suit)(k_0:Nat)(s_0:List Int):Prop:=((0≤(a1.facts.getD k_0 0)∧(a1.facts.getD k_0 0) < (sides.length:Int))∧(((sides.getD (Int.toNat (a1.facts.getD k_0 0)) 0) ==1)=true→((s_0++([(a1.facts.getD k_0 0)])).length*8≤cU)))
@[go_sem] def lR (sides:List Int)(a1:Suit)(k_1:Nat)(s_1:List Int):Empty⊕(List Int):=(bif((sides.getD (Int.toNat (a1.facts.getD k_1 0)) 0) ==0)then .inr (s_1++([(a1.facts.getD k_1 0)]))else .inr s_1)
def fJ (sides:List Int)(a1:Suit)(k_1:Nat)(s_1:List Int):Prop:=((0≤(a1.facts.getD k_1 0)∧(a1.facts.getD k_1 0) < (sides.length:Int))∧(((sides.getD (Int.toNat (a1.facts.getD k_1 0)) 0) ==0)=true→((s_1++([(a1.facts.getD k_1 0)])).length*8≤cU)))
@[go_sem] def lT (sides:List Int)(a1:Suit)(k_2:Nat)(s_2:List Int):Empty⊕(List Int):=(bif((sides.getD (Int.toNat (a1.facts.getD k_2 0)) 0) ==1)then .inr (s_2++([(a1.facts.getD k_2 0)]))else .inr s_2)
def fK (sides:List Int)(a1:Suit)(k_2:Nat)(s_2:List Int):Prop:=((0≤(a1.facts.getD k_2 0)∧(a1.facts.getD k_2 0) < (sides.length:Int))∧(((sides.getD (Int.toNat (a1.facts.getD k_2 0)) 0) ==1)=true→((s_2++([(a1.facts.getD k_2 0)])).length*8≤cU)))
@[go_sem] def lU (sides:List Int)(a1:Suit)(k_3:Nat)(s_3:List Int):Empty⊕(List Int):=(bif((sides.getD (Int.toNat (a1.facts.getD k_3 0)) 0) ==0)then .inr (s_3++([(a1.facts.getD k_3 0)]))else .inr s_3)
def fL (sides:List Int)(a1:Suit)(k_3:Nat)(s_3:List Int):Prop:=((0≤(a1.facts.getD k_3 0)∧(a1.facts.getD k_3 0) < (sides.length:Int))∧(((sides.getD (Int.toNat (a1.facts.getD k_3 0)) 0) ==0)=true→((s_3++([(a1.facts.getD k_3 0)])).length*8≤cU)))
def bG (sides:List Int)(a1:Suit)(cs:List Case):Case×Int:=letI q0:=({ sides:=sides,cases:=cs}:Cases);letI q1:=iu a1.plea a1.question;letI q2:=aN q0 a1.facts 0;letI q3:=cs.getD (Int.toNat (i64.wrap ((cs.length:Int) - 1))) default;letI q4:=aN q0 a1.facts 1;letI q5:=fG q0;letI q6:=jr a1.plea;(bif(q5 !=0)then(({ no:=0,hour:=0,winner:=0,facts:=[],reason:=[]}:Case),q5)else(bif(q6 !=0)then(({ no:=0,hour:=0,winner:=0,facts:=[],reason:=[]}:Case),q6)else(bif(an (q1.2==0) (q1.2))then(bif(an (q2.2.2==0) (q2.2.2))then(bif(an ((aM a1.no 0 1048576)&&(aM a1.hour 0 4096)) 520)then(bif(decide ((cs.length:Int) > 0))then(bif(an ((decide (a1.no > q3.no))&&(decide (a1.hour≥q3.hour))) 520)then(bif((!q2.2.1)&&(q4.2.1||(q1.1 !=1)))then(match aq (lQ sides a1) a1.facts.length 0 ([])with| .inl x=>x.elim| .inr s_0=>(({ no:=a1.no,hour:=a1.hour,winner:=1,facts:=a1.facts,reason:=s_0}:Case),0))else(match aq (lR sides a1) a1.facts.length 0 ([])with| .inl x=>x.elim| .inr s_1=>(({ no:=a1.no,hour:=a1.hour,winner:=0,facts:=a1.facts,reason:=s_1}:Case),0)))else(({ no:=0,hour:=0,winner:=0,facts:=[],reason:=[]}:Case),520))else(bif((!q2.2.1)&&(q4.2.1||(q1.1 !=1)))then(match aq (lT sides a1) a1.facts.length 0 ([])with| .inl x=>x.elim| .inr s_2=>(({ no:=a1.no,hour:=a1.hour,winner:=1,facts:=a1.facts,reason:=s_2}:Case),0))else(match aq (lU sides a1) a1.facts.length 0 ([])with| .inl x=>x.elim| .inr s_3=>(({ no:=a1.no,hour:=a1.hour,winner:=0,facts:=a1.facts,reason:=s_3}:Case),0))))else(({ no:=0,hour:=0,winner:=0,facts:=[],reason:=[]}:Case),520))else(({ no:=0,hour:=0,winner:=0,facts:=[],reason:=[]}:Case),(q2.2.2)))else(({ no:=0,hour:=0,winner:=0,facts:=[],reason:=[]}:Case),(q1.2)))))
def eJ (sides:List Int)(a1:Suit)(cs:List Case):Prop:=letI q0:=({ sides:=sides,cases:=cs}:Cases);letI q2:=iu a1.plea a1.question;letI q3:=aN q0 a1.facts 0;letI q4:=aN q0 a1.facts 1;letI q5:=(cs.length:Int);letI q1:=i64.wrap (q5 - 1);letI q6:=cs.getD (Int.toNat q1) default;letI q7:=q2.1 !=1;letI q8:=decide (a1.no > q6.no);((fC q0)∧(((fG q0) !=0)=false→((jC a1.plea)∧(((jr a1.plea) !=0)=false→((kh a1.plea a1.question)∧((an (q2.2==0) (q2.2))=true→((eE q0 a1.facts 0)∧((an (q3.2.2==0) (q3.2.2))=true→((eE q0 a1.facts 1)∧((an ((aM a1.no 0 1048576)&&(aM a1.hour 0 4096)) 520)=true→(cs.length≤aL→(((decide (q5 > 0))=true→((0≤q1∧q1<q5)∧((q8=true→(0≤q1∧q1<q5))∧((an (q8&&(decide (a1.hour≥q6.hour))) 520)=true→((((!q3.2.1)&&(q4.2.1||q7))=true→(a1.facts.length≤aL→okI (lQ sides a1) (fI sides a1) a1.facts.length 0 ([])))∧(((!q3.2.1)&&(q4.2.1||q7))=false→(a1.facts.length≤aL→okI (lR sides a1) (fJ sides a1) a1.facts.length 0 ([]))))))))∧((decide (q5 > 0))=false→((((!q3.2.1)&&(q4.2.1||q7))=true→(a1.facts.length≤aL→okI (lT sides a1) (fK sides a1) a1.facts.length 0 ([])))∧(((!q3.2.1)&&(q4.2.1||q7))=false→(a1.facts.length≤aL→okI (lU sides a1) (fL sides a1) a1.facts.length 0 ([])))))))))))))))))
noncomputable def mT:List SV→List Ob→Option HCon:=pt (fun x_:(List Int)×Suit×(List Case) =>[.agg [.rs .int x_.1,.os 0],.agg (cellsOf .suit x_.2.1)]) (fun x_=>[.row .case x_.2.2]) (fun x_=>ik (eJ x_.1 x_.2.1 x_.2.2) (.tup [.agg (cellsOf .case ((bG x_.1 x_.2.1 x_.2.2).1)),.v (.int .i64 ((bG x_.1 x_.2.1 x_.2.2).2))]) [.row .case x_.2.2])
@[go_sem] theorem Eb (sides:List Int)(a1:Suit)(cs:List Case):mT ([.agg [.rs .int sides,.os 0],.agg [.v (.int .i64 a1.no),.v (.int .i64 a1.hour),.v (.int .i64 a1.question),.rs .int a1.plea.facts,.rs .clause a1.plea.clauses,.rs .int a1.facts]]) ([.row .case cs])=some (ik (eJ sides a1 cs) (.tup [.agg (cellsOf .case ((bG sides a1 cs).1)),.v (.int .i64 ((bG sides a1 cs).2))]) [.row .case cs]):=lw (A:=fun x_:(List Int)×Suit×(List Case) =>[.agg [.rs .int x_.1,.os 0],.agg (cellsOf .suit x_.2.1)]) (H:=fun x_=>[.row .case x_.2.2]) (K:=fun x_=>ik (eJ x_.1 x_.2.1 x_.2.2) (.tup [.agg (cellsOf .case ((bG x_.1 x_.2.1 x_.2.2).1)),.v (.int .i64 ((bG x_.1 x_.2.1 x_.2.2).2))]) [.row .case x_.2.2]) (x:=(sides,a1,cs))
theorem Kn {l0:List Nat}(a0:JL l0){p:Prop}(h:JL l0→p:=by intro ja;simp only[go_sem,Nat.reduceBEq,Nat.reduceLeDiff,Nat.reduceLT,decide_true,Nat.reduceAdd,Nat.reduceSub,Nat.reduceMul,Int.reduceLE,Int.reduceLT,Int.reduceToNat,Int.reduceNeg,reduceCtorEq,hs0,hs1,qh,oy,RCJ];all_goals exact gT ja):p:=h a0
theorem vX:FnOkO Tryz.prog 24 mT:=by
 have hG:ConsOk Tryz.prog (mkG [(34,fun l=>oG (bv [.st .cases,.sl .int,.o] l)),(35,fun l=>sW (bv [.st .plea,.o] l)),(52,f_),(58,jU),(64,fun l=>kQ (bv [.st .cases] l)),(67,fun l=>qG (bv [.st .plea] l))] []):=ap (cgc (rY.norm [.st .cases,.sl .int,.o]) (cgc (vM.norm [.st .plea,.o]) (cgc ib (cgc l5 (cgc (nO.norm [.st .cases]) (cgc (sS.norm [.st .plea]) cg0)))))) cg0;refine Ox E4 [.st .case,.o] mixed al hG (fn:=Tryz.f24) (c0:=qh (ae Tryz.f24)) (c1:=oy (oy (ae Tryz.f24))) (i1:=PU (qh (oy (ae Tryz.f24)))) (o1:=M_ 0 (qh (oy (ae Tryz.f24)))) (q:=5) (tys:= #[104]) kr kr kr (by refine⟨?_,?_,?_⟩ <;>kernel_rfl) kr kr fun l o con h=>?_;obtain⟨⟨sides,a1,cs⟩,rfl,rfl,rfl⟩:=jx h;clear h;try dsimp only
 refine⟨_,_,_,rfl,rfl,fun hp=>?_⟩;unfold eJ at hp;rcases Bool.eq_false_or_eq_true (decide ((cs.length:Int) > 0))with hs0|hs0 <;>rcases Bool.eq_false_or_eq_true ((!(aN ({ sides:=sides,cases:=cs}:Cases) a1.facts 0).2.1)&&((aN ({ sides:=sides,cases:=cs}:Cases) a1.facts 1).2.1||((iu a1.plea a1.question).1 !=1)))with hs1|hs1
 ·have hsp:True:=trivial;refine⟨nbl rfl,L0,(fun id st=>bif Nat.beq id 0 then some (LCR (ρ:=Empty) (σ:=(List Int)) 5 [.cell 3 4 (.row .int ([]))] [0,1,2,3,4,5] (fun k_0 s_0=>⟨[(2,.ptr 1 0),(4,.ptr 3 0),(5,.ptr 4 0),(115,.rs .int a1.facts),(116,.v (.int .i64 (a1.facts.length:Int))),(117,.v (.int .i64 (k_0:Int)))],[.row .case cs,.cells [.rs .int sides,.os 0],.dead,.cells [.v (.int .i64 a1.no),.v (.int .i64 a1.hour),.v (.int .i64 1),.rs .int a1.facts,.os 5],.cells [.v (.int .i64 ((aN ({ sides:=sides,cases:=cs}:Cases) a1.facts 0).2.2))],.row .int s_0]⟩) (lQ sides a1) (fI sides a1) a1.facts.length ([]) (a1.facts.length≤aL) ((·.elim)) ((·.elim)) st)else none),4,?_,?_,?_⟩
  ·unfold ae Tryz.f24;simp only[qh,am,and_self,true_and,and_true]
  ·unfold ae Tryz.f24;simp only[oy];simp only[am,true_and,and_true]
   ·refine aV mixed al hG kr (fun _=>rfl) (a1.facts.length:Int) rfl ia (fun hb0 k_0 s_0 hlt0 hq0 hw hc=>⟨L0,ag _,?_⟩) (fun hb0 s_0 hc=>?_)
    ·unfold fI at hq0;try simp only[hw,Int.toNat_natCast]at hq0
     exact lh (jl [0,1,2,3,4,7]) (jl [0,1,2,3,4,5])
    ·exact jT (jl [0,1,2,3,4,7]) (jl [0,1,2,3,4,5])
  ·unfold ae Tryz.f24;try unfold bG
   exact Kn (jl [0])
 ·have hsp:True:=trivial;refine⟨nbl rfl,L0,(fun id st=>bif Nat.beq id 0 then some (LCR (ρ:=Empty) (σ:=(List Int)) 5 [.cell 3 4 (.row .int ([]))] [0,1,2,3,4,5] (fun k_1 s_1=>⟨[(2,.ptr 1 0),(4,.ptr 3 0),(5,.ptr 4 0),(115,.rs .int a1.facts),(116,.v (.int .i64 (a1.facts.length:Int))),(117,.v (.int .i64 (k_1:Int)))],[.row .case cs,.cells [.rs .int sides,.os 0],.dead,.cells [.v (.int .i64 a1.no),.v (.int .i64 a1.hour),.v (.int .i64 0),.rs .int a1.facts,.os 5],.cells [.v (.int .i64 ((aN ({ sides:=sides,cases:=cs}:Cases) a1.facts 0).2.2))],.row .int s_1]⟩) (lR sides a1) (fJ sides a1) a1.facts.length ([]) (a1.facts.length≤aL) ((·.elim)) ((·.elim)) st)else none),4,?_,?_,?_⟩
  ·unfold ae Tryz.f24;simp only[qh,am,and_self,true_and,and_true]
  ·unfold ae Tryz.f24;simp only[oy];simp only[am,true_and,and_true]
   ·refine aV mixed al hG kr (fun _=>rfl) (a1.facts.length:Int) rfl ia (fun hb1 k_1 s_1 hlt1 hq1 hw hc=>⟨L0,ag _,?_⟩) (fun hb1 s_1 hc=>?_)
    ·unfold fJ at hq1;try simp only[hw,Int.toNat_natCast]at hq1
     exact lh (jl [0,1,2,3,4,7]) (jl [0,1,2,3,4,5])
    ·exact jT (jl [0,1,2,3,4,7]) (jl [0,1,2,3,4,5])
  ·unfold ae Tryz.f24;try unfold bG
   exact Kn (jl [0])
 ·have hsp:True:=trivial;refine⟨nbl rfl,L0,(fun id st=>bif Nat.beq id 0 then some (LCR (ρ:=Empty) (σ:=(List Int)) 5 [.cell 3 4 (.row .int ([]))] [0,1,2,3,4,5] (fun k_2 s_2=>⟨[(2,.ptr 1 0),(4,.ptr 3 0),(5,.ptr 4 0),(115,.rs .int a1.facts),(116,.v (.int .i64 (a1.facts.length:Int))),(117,.v (.int .i64 (k_2:Int)))],[.row .case cs,.cells [.rs .int sides,.os 0],.dead,.cells [.v (.int .i64 a1.no),.v (.int .i64 a1.hour),.v (.int .i64 1),.rs .int a1.facts,.os 5],.cells [.v (.int .i64 ((aN ({ sides:=sides,cases:=cs}:Cases) a1.facts 0).2.2))],.row .int s_2]⟩) (lT sides a1) (fK sides a1) a1.facts.length ([]) (a1.facts.length≤aL) ((·.elim)) ((·.elim)) st)else none),4,?_,?_,?_⟩
  ·unfold ae Tryz.f24;simp only[qh,am,and_self,true_and,and_true]
  ·unfold ae Tryz.f24;simp only[oy];simp only[am,true_and,and_true]
   ·refine aV mixed al hG kr (fun _=>rfl) (a1.facts.length:Int) rfl ia (fun hb2 k_2 s_2 hlt2 hq2 hw hc=>⟨L0,ag _,?_⟩) (fun hb2 s_2 hc=>?_)
    ·unfold fK at hq2;try simp only[hw,Int.toNat_natCast]at hq2
     exact lh (jl [0,1,2,3,4,7]) (jl [0,1,2,3,4,5])
    ·exact jT (jl [0,1,2,3,4,7]) (jl [0,1,2,3,4,5])
  ·unfold ae Tryz.f24;try unfold bG
   exact Kn (jl [0])
 ·have hsp:True:=trivial;refine⟨nbl rfl,L0,(fun id st=>bif Nat.beq id 0 then some (LCR (ρ:=Empty) (σ:=(List Int)) 5 [.cell 3 4 (.row .int ([]))] [0,1,2,3,4,5] (fun k_3 s_3=>⟨[(2,.ptr 1 0),(4,.ptr 3 0),(5,.ptr 4 0),(115,.rs .int a1.facts),(116,.v (.int .i64 (a1.facts.length:Int))),(117,.v (.int .i64 (k_3:Int)))],[.row .case cs,.cells [.rs .int sides,.os 0],.dead,.cells [.v (.int .i64 a1.no),.v (.int .i64 a1.hour),.v (.int .i64 0),.rs .int a1.facts,.os 5],.cells [.v (.int .i64 ((aN ({ sides:=sides,cases:=cs}:Cases) a1.facts 0).2.2))],.row .int s_3]⟩) (lU sides a1) (fL sides a1) a1.facts.length ([]) (a1.facts.length≤aL) ((·.elim)) ((·.elim)) st)else none),4,?_,?_,?_⟩
  ·unfold ae Tryz.f24;simp only[qh,am,and_self,true_and,and_true]
  ·unfold ae Tryz.f24;simp only[oy];simp only[am,true_and,and_true]
   ·refine aV mixed al hG kr (fun _=>rfl) (a1.facts.length:Int) rfl ia (fun hb3 k_3 s_3 hlt3 hq3 hw hc=>⟨L0,ag _,?_⟩) (fun hb3 s_3 hc=>?_)
    ·unfold fL at hq3;try simp only[hw,Int.toNat_natCast]at hq3
     exact lh (jl [0,1,2,3,4,7]) (jl [0,1,2,3,4,5])
    ·exact jT (jl [0,1,2,3,4,7]) (jl [0,1,2,3,4,5])
  ·unfold ae Tryz.f24;try unfold bG
   exact Kn (jl [0])
@[go_sem] def qv (sides:List Int)(l_:List Suit)(k_0:Nat)(s_0:List Case):Int⊕(List Case):=letI q0:=bG sides (l_.getD k_0 default) s_0;letI q1:=s_0++([(q0.1)]);(bif(q0.2 !=0)then .inl (q0.2)else(bif(decide ((q1.length:Int) > 64))then .inl 2 else .inr q1))
def iP (sides:List Int)(l_:List Suit)(k_0:Nat)(s_0:List Case):Prop:=((eJ sides (l_.getD k_0 default) s_0)∧(((bG sides (l_.getD k_0 default) s_0).2 !=0)=false→((s_0++([((bG sides (l_.getD k_0 default) s_0).1)])).length*72≤cU)))
def qH (sides:List Int)(l_:List Suit):Cases×Int:=letI q0:=fG ({ sides:=sides,cases:=[]}:Cases);letI q1:=({ sides:=[],cases:=[]}:Cases);(bif(q0 !=0)then(q1,q0)else(match aq (qv sides l_) l_.length 0 ([])with| .inl x_0_0=>(q1,x_0_0) | .inr s_0=>(({ sides:=sides,cases:=s_0}:Cases),0)))
def i5 (sides:List Int)(l_:List Suit):Prop:=((fC ({ sides:=sides,cases:=[]}:Cases))∧(((fG ({ sides:=sides,cases:=[]}:Cases)) !=0)=false→(l_.length≤aL→okI (qv sides l_) (iP sides l_) l_.length 0 ([]))))
@[go_sem] def vN:List SV→Option Con:=(pCN fun sides=>(pR .suit fun l_=>(pE (.det (i5 sides l_) (.tup [.agg (cellsOf .cases ((qH sides l_).1)),.v (.int .i64 ((qH sides l_).2))])))))
theorem YP {p:Prop}(h:p:=by simp only[go_sem,Nat.reduceBEq,Nat.reduceLeDiff,Nat.reduceLT,decide_true,Nat.reduceAdd,Nat.reduceSub,Nat.reduceMul,Int.reduceLE,Int.reduceLT,Int.reduceToNat,Int.reduceNeg,reduceCtorEq,Fv];all_goals exact cl):p:=h
theorem Aa:FnOk Tryz.prog 21 vN:=by
 have hG:ConsOk Tryz.prog (mkG [(24,fun l=>sY (bv [.st .cases,.st .suit] l)),(64,fun l=>kQ (bv [.st .cases] l)),(65,Fv)] [(24,mT)]):=ap (cgc (xq.norm [.st .cases,.st .suit]) (cgc (nO.norm [.st .cases]) (cgc Oy cg0))) (cgc vX cg0);refine av [.st .cases,.o] mixed al hG (fn:=Tryz.f21) (c:=ae Tryz.f21) kr kr kr kr (Q7 fun sides=>(bK fun l_=>(ai (fun hp=>?_))));dsimp only[ar]at hp;unfold i5 at hp;refine⟨nbl rfl,(fun id st=>bif Nat.beq id 0 then some (LCR (ρ:=Int) (σ:=(List Case)) 2 [.cell 0 1 (.row .case ([]))] [0,1,2] (fun k_0 s_0=>⟨[(2,.ptr 0 0),(4,.ptr 1 0),(20,.rs .suit l_),(21,.v (.int .i64 (l_.length:Int))),(22,.v (.int .i64 (k_0:Int)))],[.cells [.rs .int sides,.os 2],.cells [.v (.slice none 0 0),.v (.slice none 0 0)],.row .case s_0]⟩) (qv sides l_) (iP sides l_) l_.length ([]) (l_.length≤aL) (fun _=>.ret) (fun x_0_0=>⟨[(4,.ptr 1 0),(5,.v (.int .i64 x_0_0))],[.dead,.cells [.v (.slice none 0 0),.v (.slice none 0 0)],.dead]⟩) st)else none),?_,?_⟩
 ·unfold ae Tryz.f21;simp only[am,true_and,and_true]
  ·refine aV mixed al hG kr (fun _=>rfl) (l_.length:Int) rfl ia (fun hb0 k_0 s_0 hlt0 hq0 hw hc=>⟨L0,ag _,?_⟩) (fun hb0 s_0 hc=>?_)
   ·unfold iP at hq0;try simp only[hw,Int.toNat_natCast]at hq0
    exact lh (jl [0,1,6]) (jl [0,1,2])
   ·exact jT (jl [0,1,6]) (jl [0,1,2])
 ·unfold ae Tryz.f21;try unfold qH
  exact YP

end Go.Sx
end
section
namespace Go.Sx
open Go.RowKit
def Um (h:List Ob):Option Con→Option HCon
 |some (.det p s) =>some (ik p (AP 0 (aF 3 s) (ii 3 0 s)) (h.map fun _=>.dead))
 |_=>none
def eatC (C:List SV→Option Con)(l:List SV)(h:List Ob):Option HCon:=Um h (C (l.map (eY h 6)))
@[go_sem] theorem aav {C:List SV→Option Con}{l:List SV}{h:List Ob}:eatC C l h=Um h (C (l.map (eY h 6))):=(rfl)
@[go_sem] theorem YQ {h:List Ob}{p:Prop}{s:SV}:Um h (some (.det p s))=some (ik p (AP 0 (aF 3 s) (ii 3 0 s)) (h.map fun _=>.dead)):=(rfl)
section
variable {P:Program}{F:Nat→Prop}{own:Own}{w w':World}
def Oz (own:Own):Own:=fun i=>(own i).map fun hd=>{ hd with bs:=[]}
theorem Rb {b:Nat}(hb:¬F b):¬bP F (Oz own) b:=by
 rintro (hf| ⟨id,hd,e,hm⟩)
 ·exact hb hf
 ·unfold Oz at e;cases h:own id with
  |none=>rw[h]at e;cases e
  |some x=>rw[h]at e;cases e;cases hm
end
def Ko (h:List Ob):Option Con→Option HCon
 |some (.det p s) =>some (ik p (Db 0 (aF 3 s) (ii 3 0 s)) (h.map fun _=>.dead))
 |_=>none
def Hn (C:List SV→Option Con)(l:List SV)(h:List Ob):Option HCon:=Ko h (C (l.map (eY h 6)))
@[go_sem] theorem YR {C:List SV→Option Con}{l:List SV}{h:List Ob}:Hn C l h=Ko h (C (l.map (eY h 6))):=(rfl)
@[go_sem] theorem WC {h:List Ob}{p:Prop}{s:SV}:Ko h (some (.det p s))=some (ik p (Db 0 (aF 3 s) (ii 3 0 s)) (h.map fun _=>.dead)):=(rfl)
section
variable {P:Program}{F:Nat→Prop}{own:Own}{w w':World}
theorem FnOk.eat2 {f:FuncId}{C:List SV→Option Con}(hf:FnOk P f C):FnOkO P f (Hn C) where
 enter:=fun l h c e=>by
  unfold Hn at e;cases hc:C (l.map (eY h 6))with
  |none=>rw[hc]at e;cases e
  |some c'=>exact hf.enter _ c' hc
 calls:=fun l h c e hp F own w vs hH hr=>by
  unfold Hn at e;cases hc:C (l.map (eY h 6))with
  |none=>rw[hc]at e;cases e
  |some c'=>
   rw[hc]at e;cases c' with
   |det p s=>
    simp only[Ko,Option.some.injEq]at e;subst e;have n0:∀ {F':Nat→Prop} {w1:World},(∀ b,F' b→b<w1.heap.size)→Hp F' b_ w1 []:=fun hf=>⟨(fun id hd h=>by cases h),hf,(fun id hd b h=>by cases h),(fun i j hi hj b h=>by cases h),(fun id hd b h=>by cases h),(fun id h=>by cases h)⟩;have hE:∀ {id:Nat} {hd:Hd},Oz own id=some hd→hd.bs=[]∧id<h.length:=fun {id hd} h=>by
     unfold Oz at h;cases ho:own id with
     |none=>rw[ho]at h;cases h
     |some x=>rw[ho]at h;cases h;exact⟨rfl,hH.dom id x ho⟩
    refine(hf.calls _ _ hc hp F w vs hH.foreign ⟨by simpa using hr.1,fun j s hj=>?_⟩).mono ?_
    ·obtain⟨x,hx,rfl⟩:=bW hj;exact u9 hH 6 x _ (hr.2 j x hx)
    ·rintro e w' (⟨s',u,own',h1,h2,h3,h4⟩ | ⟨x,hx,_⟩)
     ·cases h1;obtain⟨own2,q1,q2,q3,q4⟩:=zC (n0 hH.foreign) (.inl fun b=>⟨fun h=>.inl h,fun h=>h.elim id fun⟨_,_,h,_⟩ =>by cases h⟩) h4 h3;have q5:=Hm (n0:=0) q1 _ _ q3;refine⟨(),Oz own,trivial,⟨u,h2,?_⟩,?_,?_,by simp⟩
      ·refine q5.carry ⟨fun id hd h=>by simp[CI]at h,fun b _ hb=>⟨Rb fun hf=>hb (.inl hf),rfl⟩⟩
      ·refine⟨fun id hd h=>by rw[List.length_map];exact(hE h).2,fun b hb=>Nat.lt_of_lt_of_le (hH.foreign b hb) h4.size,fun id hd b h hm=>?_,fun i j hi hj b h _ hm=>?_,fun id hd b h hm=>?_,fun id hd=>?_⟩
       ·rw[(hE h).1]at hm;cases hm
       ·rw[(hE h).1]at hm;cases hm
       ·rw[(hE h).1]at hm;cases hm
       ·rw[qA,List.getElem?_map]at hd;cases ho:h[id]? <;>rw[ho]at hd <;>simp[cF]at hd
      ·refine⟨fun id hd h=>?_,fun id hd b h hm=>?_,h4.os,h4.tape,h4.output,h4.size,fun k hk=>h4.block k hk.1⟩
       ·exact⟨{ hd with bs:=[]},by show(own id).map _=_;rw[show own id=some hd from h];rfl,rfl,rfl,rfl⟩
       ·rw[(hE h).1]at hm;cases hm
     ·cases hx
   |_=>cases e
end
end Go.Sx
end
section
namespace Go.Sx
open Go.Proofs
open IntKind (i64)
def mU:=([(ez 0 0 3 4),(ez 1 1 3 4),(ez 2 0 3 1),(ez 0 0 5 4)])
def pJ:=([({ no:=0,hour:=0,kind:=1,farm:=0,other:=0,since:=0,to:=0,n:=1,of_:=0}:Judgement)])
def km:=([({ no:=1,hour:=0,kind:=3,farm:=0,other:=2,since:=0,to:=7,n:=5,of_:=0}:Judgement)])
def mV:=([(ez 0 0 3 3),(ez 0 2 3 1),(ez 1 1 3 4),(ez 2 2 3 4),(ez 0 2 5 4)])
def mW:=(aT cC pJ)
def iQ:=(ax cC ix km)
def mX:=(iQ.1)
def gk:=([({ no:=1,hour:=3,kind:=2,farm:=0,other:=0,since:=0,to:=4,n:=5,of_:=0}:Judgement),({ no:=2,hour:=4,kind:=4,farm:=1,other:=2,since:=0,to:=0,n:=9,of_:=0}:Judgement)])
def mY:=([({ no:=4,hour:=0,question:=1,plea:=({ facts:=[1],clauses:=[]}:Plea),facts:=[0,1]}:Suit),({ no:=5,hour:=0,question:=2,plea:=({ facts:=[],clauses:=[]}:Plea),facts:=[0]}:Suit)])
def iR:=(qH ([0,1]) mY)
def g7:=(ft cC gk 4)
def gl:=(g7.1)
def iS:=((iR.1).cases)
def iT:=(ax cC ix gk)
def mZ:=(iT.1)
def dW:=(gl.length:Int)
def na:=(gl.getD 2 (0:Int))
def lz:=(gl.getD 1 (0:Int))
def jD:=(gl.getD 0 (0:Int))
def eK:=(iS.length:Int)
def jE:=(iS.getD 1 (default:Case))
def fZ:=(iS.getD 0 (default:Case))
def oc:=(iG mX mV)
def lA:=(fZ.reason)
def jF:=(lA.length:Int)
def lB:=(lA.getD 0 (0:Int))
def od:=(iG mZ mU)
def qw:Bool:=(bif(((((iT.2 !=0) ||(iQ.2 !=0)) ||(g7.2 !=0)) ||((ft cC ([]) 9).2 !=1)) ||(mW !=530))then false else(bif(!od)then false else(bif(!oc)then false else(bif((((dW !=3) ||(jD !=0)) ||(lz !=9)) ||(na !=(-9)))then false else(bif(((iR.2 !=0) ||(eK !=2)) ||(jF !=1))then false else((((fZ.winner==0)&&(lB==0))&&(jE.winner==0))&&(jE.no==5)))))))
def pK:Prop:=((qE)∧((b9 cC ix gk)∧((b9 cC ix km)∧((jk cC gk 4)∧((jk cC ([]) 9)∧((((((iT.2 !=0) ||(iQ.2 !=0)) ||(g7.2 !=0)) ||((ft cC ([]) 9).2 !=1))=false→(g9 cC pJ))∧((((((iT.2 !=0) ||(iQ.2 !=0)) ||(g7.2 !=0)) ||((ft cC ([]) 9).2 !=1)) ||(mW !=530))=false→((jg mZ mU)∧((!od)=false→((jg mX mV)∧((!oc)=false→(gl.length≤aL→(((dW !=3)=false→(0≤0∧0<dW))∧((((dW !=3) ||(jD !=0))=false→(0≤1∧1<dW))∧(((((dW !=3) ||(jD !=0)) ||(lz !=9))=false→(0≤2∧2<dW))∧(((((dW !=3) ||(jD !=0)) ||(lz !=9)) ||(na !=(-9)))=false→((i5 ([0,1]) mY)∧((((iR.2 !=0) ||(eK !=2))=false→(0≤0∧0<eK))∧((((iR.2 !=0) ||(eK !=2)) ||(jF !=1))=false→((0≤0∧0<eK)∧(((fZ.winner==0)=true→(0≤0∧0<eK))∧(((fZ.winner==0)=true→(0≤0∧0<jF))∧((((fZ.winner==0)&&(lB==0))=true→(0≤1∧1<eK))∧((((fZ.winner==0)&&(lB==0))&&(jE.winner==0))=true→(0≤1∧1<eK)))))))))))))))))))))))))
@[go_sem] def zk:List SV→Option Con:=(pE (.det (pK) (.v (.bool (qw)))))
theorem Dc:FnOk Tryz.prog 10 zk:=by
 have hG:ConsOk Tryz.prog (mkG [(12,fun l=>nK (bv [.st .district,.sl .claim,.sl .judgement] l)),(14,fun l=>tF (bv [.st .district,.sl .judgement,.o] l)),(16,fun l=>l8 (bv [.st .district,.sl .judgement] l)),(18,fun l=>vj (bv [.sl .claim,.sl .claim] l)),(38,xL),(39,xM),(40,tU)] [(21,Hn (fun l=>vN (bv [.o,.sl .suit] l)))]):=ap (cgc (qY.norm [.st .district,.sl .claim,.sl .judgement]) (cgc (yg.norm [.st .district,.sl .judgement,.o]) (cgc (oD.norm [.st .district,.sl .judgement]) (cgc (xH.norm [.sl .claim,.sl .claim]) (cgc Cj (cgc Ck (cgc wH cg0))))))) (cgc (FnOk.eat2 (Aa.norm [.o,.sl .suit])) cg0);refine av [.o] mixed al hG (fn:=Tryz.f10) (c:=ae Tryz.f10) kr kr kr kr (ai (fun hp=>?_));dsimp only[ar]at hp;unfold pK at hp;try simp only[mU,pJ,km,mV,mW,iQ,mX,gk,mY,iR,g7,gl,iS,iT,mZ,dW,na,lz,jD,eK,jE,fZ,oc,lA,jF,lB,od]at hp
 refine⟨nbl rfl,L0,ag _,?_⟩
 ·unfold ae Tryz.f10;try unfold qw
  simp (maxSteps:=1000000) only[go_sem,Nat.reduceBEq,Nat.reduceLeDiff,Nat.reduceLT,decide_true,Nat.reduceAdd,Nat.reduceSub,Nat.reduceMul,Int.reduceLE,Int.reduceLT,Int.reduceToNat,Int.reduceNeg,reduceCtorEq,mU,pJ,km,mV,mW,iQ,mX,gk,mY,iR,g7,gl,iS,iT,mZ,dW,na,lz,jD,eK,jE,fZ,oc,lA,jF,lB,od];all_goals exact cl
instance decR {ρ σ:Type}{P:σ→Prop}[∀ s,Decidable (P s)]:(x:ρ⊕σ)→Decidable (∀ s,x=.inr s→P s)
 | .inl _=>.isTrue fun _ e=>nomatch e
 | .inr s=>match (inferInstance:Decidable (P s))with
  | .isTrue h=>.isTrue fun _ e=>by cases e;exact h
  | .isFalse h=>.isFalse fun g=>h (g s rfl)
instance decX {ρ σ:Type}{P:ρ→Prop}[∀ s,Decidable (P s)]:(x:ρ⊕σ)→Decidable (∀ s,x=.inl s→P s)
 | .inr _=>.isTrue fun _ e=>nomatch e
 | .inl s=>match (inferInstance:Decidable (P s))with
  | .isTrue h=>.isTrue fun _ e=>by cases e;exact h
  | .isFalse h=>.isFalse fun g=>h (g s rfl)
instance decN {ρ σ:Type}:(x:ρ⊕σ)→Decidable (∀ s,x≠ .inr s)
 | .inl _=>.isTrue fun _ e=>nomatch e
 | .inr s=>.isFalse fun g=>g s rfl
def YS {ρ σ:Type}(step:Nat→σ→ρ⊕σ)(p:Nat→σ→Prop)(D:∀ k s,Decidable (p k s)):(n i:Nat)→(s:σ)→Decidable (okI step p n i s)
 |0,_,_=>.isTrue trivial
 |n+1,i,s=>match D i s with
  | .isFalse h=>.isFalse fun g=>h g.1
  | .isTrue h=>match e:step i s with
   | .inl _=>.isTrue ⟨h,fun s' e'=>by rw[e]at e';cases e'⟩
   | .inr s'=>match YS step p D n (i+1) s' with
    | .isTrue g=>.isTrue ⟨h,fun s'' e'=>by rw[e]at e';cases e';exact g⟩
    | .isFalse g=>.isFalse fun q=>g (q.2 s' e)
def YT {ρ σ τ:Type}(step:τ→σ→ρ⊕σ)(p:τ→σ→Prop)(D:∀ k s,Decidable (p k s)):(l:List τ)→(s:σ)→Decidable (okL step p l s)
 | [],_=>.isTrue trivial
 |x::l,s=>match D x s with
  | .isFalse h=>.isFalse fun g=>h g.1
  | .isTrue h=>match e:step x s with
   | .inl _=>.isTrue ⟨h,fun s' e'=>by rw[e]at e';cases e'⟩
   | .inr s'=>match YT step p D l s' with
    | .isTrue g=>.isTrue ⟨h,fun s'' e'=>by rw[e]at e';cases e';exact g⟩
    | .isFalse g=>.isFalse fun q=>g (q.2 s' e)
instance decI' {ρ σ:Type}{step:Nat→σ→ρ⊕σ}{p:Nat→σ→Prop}[D:∀ k s,Decidable (p k s)]{n i:Nat}{s:σ}:Decidable (okI step p n i s):=YS step p D n i s
instance decL' {ρ σ τ:Type}{step:τ→σ→ρ⊕σ}{p:τ→σ→Prop}[D:∀ k s,Decidable (p k s)]{l:List τ}{s:σ}:Decidable (okL step p l s):=YT step p D l s
instance precedents_read_l0_p_d (a0:Cases)(k_0:Nat)(s_0:Int×Int):Decidable (gU a0 k_0 s_0):=by unfold gU;repeat (first|infer_instance|refine @instDecidableAnd _ _ ?_ ?_|refine @instDecidableForall _ _ ?_ ?_)
instance precedents_of_l0_p_d (l_:List Int)(many:Int)(k_0:Nat)(s_0:Int×Int):Decidable (iK l_ many k_0 s_0):=by unfold iK;repeat (first|infer_instance|refine @instDecidableAnd _ _ ?_ ?_|refine @instDecidableForall _ _ ?_ ?_)
instance precedents_of_p_d (l_:List Int)(many:Int):Decidable (ic l_ many):=by unfold ic;repeat (first|infer_instance|refine @instDecidableAnd _ _ ?_ ?_|refine @instDecidableForall _ _ ?_ ?_)
instance precedents_read_l1_p_d (a0:Cases)(s_0:Int×Int)(k_1:Nat)(s_1:List PrecedentsDecided×Int×Int×Int):Decidable (gV a0 s_0 k_1 s_1):=by unfold gV;repeat (first|infer_instance|refine @instDecidableAnd _ _ ?_ ?_|refine @instDecidableForall _ _ ?_ ?_)
instance precedents_read_p_d (a0:Cases):Decidable (g_ a0):=by unfold g_;repeat (first|infer_instance|refine @instDecidableAnd _ _ ?_ ?_|refine @instDecidableForall _ _ ?_ ?_)
instance precedents_Check_p_d (b:Cases):Decidable (fC b):=by unfold fC;repeat (first|infer_instance|refine @instDecidableAnd _ _ ?_ ?_|refine @instDecidableForall _ _ ?_ ?_)
instance pleas_rising_l0_p_d (l_:List Int)(k_0:Nat)(s_0:Unit):Decidable (jp l_ k_0 s_0):=by unfold jp;repeat (first|infer_instance|refine @instDecidableAnd _ _ ?_ ?_|refine @instDecidableForall _ _ ?_ ?_)
instance pleas_rising_p_d (l_:List Int):Decidable (j3 l_):=by unfold j3;repeat (first|infer_instance|refine @instDecidableAnd _ _ ?_ ?_|refine @instDecidableForall _ _ ?_ ?_)
instance pleas_Check_l0_p_d (a0:Plea)(k_0:Nat)(s_0:Bool×Int):Decidable (ka a0 k_0 s_0):=by unfold ka;repeat (first|infer_instance|refine @instDecidableAnd _ _ ?_ ?_|refine @instDecidableForall _ _ ?_ ?_)
instance pleas_strict_p_d (p:Plea):Decidable (iO p):=by unfold iO;repeat (first|infer_instance|refine @instDecidableAnd _ _ ?_ ?_|refine @instDecidableForall _ _ ?_ ?_)
theorem Ho {ρ σ:Type}{step:Nat→σ→ρ⊕σ}{p q:Nat→σ→Prop}(h:∀ k s,p k s→q k s):∀ (n i:Nat) (s:σ),okI step p n i s→okI step q n i s
 |0,_,_,_=>trivial
 |n+1,i,s,g=>⟨h i s g.1,fun s' e=>Ho h n (i+1) s' (g.2 s' e)⟩
def Uo (k_0:Nat)(s_0:List Int×Int):Prop:=(decide (s_0.2≤32))=true→(s_0.2 !=0)=true→aP[s_0.1.length]? =some s_0.2
instance litq_d (k_0:Nat)(s_0:List Int×Int):Decidable (Uo k_0 s_0):=by unfold Uo;infer_instance
theorem YU:eF ((aP).map CG):=by
 refine⟨Ho (p:=Uo) (fun k s h=>?_) 66 0 _ (of_decide_eq_true kr),of_decide_eq_true kr,fun x e=>?_⟩
 ·intro h1;refine⟨fun h2=>?_,fun h2=>h2⟩;rw[List.getElem?_map,h h1 h2];rfl
 ·rw[List.length_map];unfold aP;rw[e]
instance pleas_literals_1_p_d:Decidable (eF ((aP).map CG)):=.isTrue YU
instance pleas_Check_p_d (a0:Plea):Decidable (jC a0):=by unfold jC;repeat (first|infer_instance|refine @instDecidableAnd _ _ ?_ ?_|refine @instDecidableForall _ _ ?_ ?_)
instance pleas_court_derive_l1_p_d (facts:List Int)(clauses:List Clause)(strict_:List (Int×Bool))(s_0:List (Int×Int)×List Reason)(z_1:Int)(s_1:List Reason):Decidable (ev facts clauses strict_ s_0 z_1 s_1):=by unfold ev;repeat (first|infer_instance|refine @instDecidableAnd _ _ ?_ ?_|refine @instDecidableForall _ _ ?_ ?_)
instance pleas_court_derive_l0_p_d (facts:List Int)(clauses:List Clause)(strict_:List (Int×Bool))(k_0:Nat)(s_0:List (Int×Int)×List Reason):Decidable (fH facts clauses strict_ k_0 s_0):=by unfold fH;repeat (first|infer_instance|refine @instDecidableAnd _ _ ?_ ?_|refine @instDecidableForall _ _ ?_ ?_)
instance pleas_court_derive_p_d (facts:List Int)(clauses:List Clause)(strict_:List (Int×Bool))(known_:List (Int×Int)):Decidable (eI facts clauses strict_ known_):=by unfold eI;repeat (first|infer_instance|refine @instDecidableAnd _ _ ?_ ?_|refine @instDecidableForall _ _ ?_ ?_)
instance pleas_Answer_p_d (p:Plea)(q:Int):Decidable (kh p q):=by unfold kh;repeat (first|infer_instance|refine @instDecidableAnd _ _ ?_ ?_|refine @instDecidableForall _ _ ?_ ?_)
instance precedents_ask_p_d (b:Cases)(l_:List Int)(side:Int):Decidable (jZ b l_ side):=by unfold jZ;repeat (first|infer_instance|refine @instDecidableAnd _ _ ?_ ?_|refine @instDecidableForall _ _ ?_ ?_)
instance precedents_court_missing_p_d (c:PrecedentsCourt)(x:PrecedentsDecided)(facts:Int):Decidable (eC c x facts):=by unfold eC;repeat (first|infer_instance|refine @instDecidableAnd _ _ ?_ ?_|refine @instDecidableForall _ _ ?_ ?_)
instance precedents_Binds_1_p_d (x:PrecedentsDecided)(side_:Int)(facts_:Int)(c_:PrecedentsCourt):Decidable (gW x side_ facts_ c_):=by unfold gW;repeat (first|infer_instance|refine @instDecidableAnd _ _ ?_ ?_|refine @instDecidableForall _ _ ?_ ?_)
instance precedents_first_precedents_decided_b_l0_p_d (l_:List PrecedentsDecided)(side_:Int)(facts_:Int)(c_:PrecedentsCourt)(k_0:Nat)(s_0:Int):Decidable (bi l_ side_ facts_ c_ k_0 s_0):=by unfold bi;repeat (first|infer_instance|refine @instDecidableAnd _ _ ?_ ?_|refine @instDecidableForall _ _ ?_ ?_)
instance precedents_first_precedents_decided_b_p_d (l_:List PrecedentsDecided)(fr:Int)(side_:Int)(facts_:Int)(c_:PrecedentsCourt):Decidable (bI l_ fr side_ facts_ c_):=by unfold bI;repeat (first|infer_instance|refine @instDecidableAnd _ _ ?_ ?_|refine @instDecidableForall _ _ ?_ ?_)
instance precedents_Binds_p_d (b:Cases)(l_:List Int)(side:Int):Decidable (eE b l_ side):=by unfold eE;repeat (first|infer_instance|refine @instDecidableAnd _ _ ?_ ?_|refine @instDecidableForall _ _ ?_ ?_)
instance judgement_Decide_k_l0_p_d (sides:List Int)(a1:Suit)(k_0:Nat)(s_0:List Int):Decidable (fI sides a1 k_0 s_0):=by unfold fI;repeat (first|infer_instance|refine @instDecidableAnd _ _ ?_ ?_|refine @instDecidableForall _ _ ?_ ?_)
instance judgement_Decide_k_l1_p_d (sides:List Int)(a1:Suit)(k_1:Nat)(s_1:List Int):Decidable (fJ sides a1 k_1 s_1):=by unfold fJ;repeat (first|infer_instance|refine @instDecidableAnd _ _ ?_ ?_|refine @instDecidableForall _ _ ?_ ?_)
instance judgement_Decide_k_l2_p_d (sides:List Int)(a1:Suit)(k_2:Nat)(s_2:List Int):Decidable (fK sides a1 k_2 s_2):=by unfold fK;repeat (first|infer_instance|refine @instDecidableAnd _ _ ?_ ?_|refine @instDecidableForall _ _ ?_ ?_)
instance judgement_Decide_k_l3_p_d (sides:List Int)(a1:Suit)(k_3:Nat)(s_3:List Int):Decidable (fL sides a1 k_3 s_3):=by unfold fL;repeat (first|infer_instance|refine @instDecidableAnd _ _ ?_ ?_|refine @instDecidableForall _ _ ?_ ?_)
instance judgement_Decide_k_p_d (sides:List Int)(a1:Suit)(cs:List Case):Decidable (eJ sides a1 cs):=by unfold eJ;repeat (first|infer_instance|refine @instDecidableAnd _ _ ?_ ?_|refine @instDecidableForall _ _ ?_ ?_)
instance judgement_Sit_l0_p_d (sides:List Int)(l_:List Suit)(k_0:Nat)(s_0:List Case):Decidable (iP sides l_ k_0 s_0):=by unfold iP;repeat (first|infer_instance|refine @instDecidableAnd _ _ ?_ ?_|refine @instDecidableForall _ _ ?_ ?_)
instance judgement_Sit_p_d (sides:List Int)(l_:List Suit):Decidable (i5 sides l_):=by unfold i5;repeat (first|infer_instance|refine @instDecidableAnd _ _ ?_ ?_|refine @instDecidableForall _ _ ?_ ?_)
theorem CJ (a b:List Claim):jg a b:=fun _ _ h=>nr _ _ _ fun j _ _ hj _=>by
 have:(a.length:Int)=b.length:=by simpa using h
 omega
theorem Hq {ρ:Type}{step:Nat→Unit→ρ⊕Unit}:∀ (n i:Nat),(∀ j,i≤j→j<i+n→step j ()=.inr ())→aq step n i ()=.inr ()
 |0,_,_=>rfl
 |n+1,i,h=>by
  rw[aq,h i (Nat.le_refl _) (by omega)];exact Hq n (i+1) fun j h1 h2=>h j (by omega) (by omega)
theorem uQ (a:List Claim):iG a a=true:=by
 unfold iG;rw[show((a.length:Int) !=(a.length:Int))=false by simp,Hq (ρ:=Unit) a.length 0 fun j _ _=>by unfold qD;simp];rfl
theorem CK (d:District)(j:List Judgement):g9 d j:=fun _ _ h _=>nr _ _ _ fun k s _ hk=>by
 rw[E7]at h;have h:=of_decide_eq_true h;have key:((k:Int) ==0)=false→(0≤(i64.wrap ((k:Int) - 1))∧(i64.wrap ((k:Int) - 1)) < (j.length:Int)):=fun hk0=>by
  have:(k:Int)≠0:=by simpa using hk0
  rw[f8 (by omega) (by omega)];omega
 exact fun _=>⟨key,fun h1 _=>key h1⟩
theorem Hr (d:District)(j:List Judgement):tV d j:=⟨DY d,fun hc _ h=>nr _ _ _ fun k s _ hk=>by
 have h:=of_decide_eq_false h;have hf:d.farms.length≤600:=by
  have:fE d=0:=by simpa using hc
  rw[←wJ]at this;exact((qV d).1 this).1.2.1
 have hw:i64.wrap ((d.farms.length:Int) - 1)=(d.farms.length:Int) - 1:=f8 (by omega) (by omega);intro _;refine⟨⟨by omega,by omega,by omega⟩,fun _=>?_⟩;have hl:((j.take k).drop 0).length=k:=by simp;omega
 have key:(decide ((((j.take k).drop 0).length:Int) > 0))=true→(0≤(i64.wrap ((((j.take k).drop 0).length:Int) - 1))∧(i64.wrap ((((j.take k).drop 0).length:Int) - 1)) < (((j.take k).drop 0).length:Int)):=fun h0=>by
  have h0:=of_decide_eq_true h0;rw[hl]at h0 ⊢;rw[f8 (by omega) (by omega)];omega
 refine⟨fun _=>key,fun _ h0 _=>key h0,fun _ _ _ h1 _ _ h2=>?_⟩;rw[hw]at h1 h2;simp only[Bool.or_eq_false_iff,Bool.not_eq_false',DZ,Bool.and_eq_true,decide_eq_true_eq]at h1 h2;exact⟨fun _=>by omega,fun _=>by omega⟩⟩
theorem Kp (d:District)(j:List Judgement)(h:Int)(hj:JR j):jk d j h∧C9 d j h:=by
 have key:fF d j=0→d.farms.length≤600∧∀ k,k<j.length→(j.getD k default).kind=4→(0≤(j.getD k default).farm∧(j.getD k default).farm< (d.farms.length:Int))∧(0≤(j.getD k default).other∧(j.getD k default).other< (d.farms.length:Int)):=fun hc=>by
  have h1:=Yj hc;obtain⟨h2,_,_⟩:=xf hc;rw[←wJ]at h2;refine⟨((qV d).1 h2).1.2.1,fun k hk hkd=>?_⟩;have h3:=h1 k hk;have h4:(j.getD k default).of_=0:=Decidable.byContradiction fun e=>by have:=h3.end_ e;omega
  exact⟨h3.farm h4,(h3.other (by omega)).1,(h3.other (by omega)).2.1⟩
 refine⟨⟨CK d j,fun hc _ _=>⟨⟨rfl,by omega,?_⟩,fun _ _=>?_⟩⟩,⟨Hr d j,fun hc _ _=>⟨⟨rfl,by omega,?_⟩,fun _=>?_⟩⟩⟩
 ·have hc:aT d j=0:=by simpa using hc
  rw[vn d j hj]at hc;have:=(key hc).1;unfold cU;omega
 ·have hc:aT d j=0:=by simpa using hc
  rw[vn d j hj]at hc;refine A0 (fun _ s=>s.length=d.farms.length) _ _ _ (by simp) fun k s _ hk hs=>⟨fun hg=>?_,fun s' e=>?_⟩
  ·simp only[Bool.and_eq_true,beq_iff_eq]at hg;have:=(key hc).2 k (by omega) hg.1.1;rw[List.length_set,hs];exact⟨this.1,this.1,this.2,this.2⟩
  ·unfold kO at e;rw[Bool.cond_eq_ite]at e;split at e <;>simp only[Sum.inr.injEq]at e <;>subst e
   ·simp[hs]
   ·exact hs
 ·have hc:fF d j=0:=by simpa using hc
  have:=(key hc).1;unfold cU;omega
 ·have hc:fF d j=0:=by simpa using hc
  refine A0 (fun _ s=>s.length=d.farms.length) _ _ _ (by simp) fun k s _ hk hs=>⟨fun _ hg=>?_,fun s' e=>?_⟩
  ·simp only[Bool.and_eq_true,beq_iff_eq]at hg;have:=(key hc).2 k (by omega) hg.1.1;rw[List.length_set,hs];exact⟨this.1,this.1,this.2,this.2⟩
  ·unfold wK at e;rw[Bool.cond_eq_ite]at e;split at e <;>simp only[Sum.inr.injEq]at e <;>subst e
   ·simp[hs]
   ·exact hs
def sZ (d:District)(c:List Claim)(j:List Judgement):List Claim×Int:=letI q0:=c.length+1;bif aT d j !=0 then([],aT d j)else bif bg d c !=0 then([],bg d c)else bif(decide (((exS j q0 c).length:Int) > 4096)) ||(exS j q0 c).any bo then([],2)else(exS j q0 c,0)
theorem Uq (x:List Claim):bu x=x.any bo:=by
 unfold bu cS;rcases y5 (step:=dT x) x default bo (fun k _=>rfl)with⟨e,h⟩ | ⟨K,y,T,h1,e,h2,h3⟩
 ·rw[e,List.any_eq_false.2 fun z hz=>by rw[h z hz];simp];rfl
 ·rw[e,List.any_eq_true.2 ⟨y,by rw[h1];simp,h2⟩];exact decide_eq_true (show(K.length:Int)≥0 by omega)
theorem YV (x:List Claim):(match aq (nt x) x.length 0 ()with| .inl _=>(([],2):List Claim×Int) | .inr _=>(x,0))=bif x.any bo then([],2)else(x,0):=by
 have key:∀ (R A:List Claim) (k:Nat),x=A++R→A.length=k→aq (nt x) R.length k ()=bif R.any bo then .inl ()else .inr ():=fun R=>by
  induction R with
  |nil=>exact fun A k _ _=>rfl
  |cons y R ih=>
   intro A k hx hk;have g:x.getD k default=y:=by rw[hx];exact gc A y default R hk.symm
   simp only[List.length_cons,aq,nt,g,List.any_cons];cases hy:bo y with
   |true=>
    have:decide (y.litres > 1073741824)=true:=hy;rw[this];rfl
   |false=>
    have:decide (y.litres > 1073741824)=false:=hy;rw[this];exact ih (A++[y]) (k+1) (by rw[hx];simp) (by simp[hk])
 rw[key x [] 0 rfl rfl];cases x.any bo <;>rfl
theorem Hs {d:District}{c:List Claim}{j:List Judgement}(h1:aT d j=0)(hj:JR j)(h2:bg d c=0)(hjl:j.length≤20)(hcl:c.length≤300):Given d j c:=by
 obtain⟨a1,_,a3,a4⟩:=yk h2;rw[vn d j hj]at h1;refine⟨fun x hx=>?_,hjl,a3,a4,hcl,((qV d).1 a1).1.2.2.2.1⟩;obtain⟨i,hi,rfl⟩:=List.getElem_of_mem hx;have:=Yj h1 i hi
 rwa[List.getD_eq_getElem?_getD,List.getElem?_eq_getElem hi]at this
theorem CL {d:District}{c:List Claim}{j:List Judgement}(hj:JR j)(hjl:aT d j=0→j.length≤20)(hcl:bg d c=0→c.length≤300):
  (b9 d c j∧AL d c j)∧ax d c j=sZ d c j∧xN d c j=sZ d c j:=by
 have run:aT d j=0→bg d c=0→(okI (cp c j) (gb c j) (c.length+1) 0 (c,[])∧aq (cp c j) (c.length+1) 0 (c,[])=.inl ([]++exS j (c.length+1) c))∧
   okI (dY c j) (oC c j) (c.length+1) 0 ([],0)∧aq (dY c j) (c.length+1) 0 ([],0)=.inl ([]++exS j (c.length+1) c):=fun h1 h2=>by
  have g:=Hs h1 hj h2 (hjl h1) (hcl h2);have:=g.cl;exact⟨Hi c (c.length+1) 0 c [] (by omega) g (by simp only[List.length_nil];omega),Ke c g.cl (c.length+1) 0 c [] [] rfl (by omega) g (by simp only[List.length_nil];omega)⟩
 refine⟨⟨⟨CK d j,fun h1=>⟨N9 d c,fun h2=>?_⟩⟩,⟨Hr d j,fun h1=>⟨Lx d c,fun h2=>?_⟩⟩⟩,?_,?_⟩
 ·obtain⟨⟨r1,r2⟩,_⟩:=run (by simpa using h1) (by simpa using h2);exact⟨r1,fun z e=>by rw[r2]at e;cases e⟩
 ·rw[←vn d j hj]at h1;rw[←D6]at h2;obtain⟨_,r1,r2⟩:=run (by simpa using h1) (by simpa using h2);exact⟨r1,fun z e=>by rw[r2]at e;cases e⟩
 ·unfold ax sZ;cases h1:aT d j !=0 with
  |true=>rfl
  |false=>
   simp only[cond_false];cases h2:bg d c !=0 with
   |true=>rfl
   |false=>
    simp only[cond_false];obtain⟨⟨_,r2⟩,_⟩:=run (by simpa using h1) (by simpa using h2);rw[r2,List.nil_append];simp only[Uq]
 ·unfold xN sZ;rw[←vn d j hj,←D6];cases h1:aT d j !=0 with
  |true=>rfl
  |false=>
   simp only[cond_false];cases h2:bg d c !=0 with
   |true=>rfl
   |false=>
    simp only[cond_false];obtain⟨_,_,r2⟩:=run (by simpa using h1) (by simpa using h2);rw[r2,List.nil_append];cases hd:decide (((exS j (c.length+1) c).length:Int) > 4096)with
    |true=>simp only[hd,cond_true,Bool.true_or]
    |false=>
     simp only[hd,cond_false,Bool.false_or];exact YV _
end Go.Sx
end
