/- Part of the proof that the law JudgementEnded returns true and leaves its arguments as they were, for all arguments of bulk at most 1048576 (the Upto form). -/
import Derived.Test.YtnanafpgfihjfaaGreatJ412
import Derived.Test.YtnanafpgfihjfaaGreatJ408
import Derived.Test.YtnanafpgfihjfaaGreatJ411
import Derived.Test.YtnanafpgfihjfaaGreatJ409
import Derived.Test.YtnanafpgfihjfaaGreatJ407
import Derived.Test.YtnanafpgfihjfaaGreatJ410
set_option linter.all false
set_option maxHeartbeats 4000000
set_option maxRecDepth 100000
section
namespace Go.Sx
open Go.Proofs
open IntKind (i64)
theorem On {l0 l1:List Nat}(a0:JL l0)(a1:JL l1){p:Prop}(h:JL l0→JL l1→p:=by intro ja jb;(first|done|(repeat' (first|with_reducible refine And.intro ?_ ?_|((with_reducible show _≠_);first|assumption|omega|(simp_all [et,fP];done) |grind) |with_reducible intro _)) <;>(first|done|with_reducible exact Empty.elim ‹Empty› |with_reducible assumption|rfl|omega|assumption|decide|exact fk ja|exact fk jb|exact czl|(simp only[*,cond_true,cond_false,Bool.not_true,Bool.not_false,go_sem,Nat.reduceBEq,Nat.reduceLeDiff,Nat.reduceLT,decide_true,Nat.reduceAdd,Nat.reduceSub,Nat.reduceMul,Int.reduceLE,Int.reduceLT,Int.reduceToNat,Int.reduceNeg,reduceCtorEq];(repeat' (first|with_reducible refine And.intro ?_ ?_|((with_reducible show _≠_);first|assumption|omega|(simp_all [et,fP];done) |grind) |with_reducible intro _)) <;>(first|done|assumption|rfl|omega|decide|exact fk ja|exact fk jb|(simp_all [et,fP];done))) |(simp_all [okI,et,fP];done) |(simp_all [et,fP];(first|done|exact fk2 ja|exact fk2 jb)) |exact fk2 ja|exact fk2 jb|(simp_all only[et,fP,cond_true,cond_false];(first|done|exact fk ja|exact fk jb|exact fk2 ja|exact fk2 jb|(simp only[go_sem,Nat.reduceBEq,Nat.reduceLeDiff,Nat.reduceLT,decide_true,Nat.reduceAdd,Nat.reduceSub,Nat.reduceMul,Int.reduceLE,Int.reduceLT,Int.reduceToNat,Int.reduceNeg,reduceCtorEq];((repeat' (first|with_reducible refine And.intro ?_ ?_|((with_reducible show _≠_);first|assumption|omega|(simp_all [et,fP];done) |grind) |with_reducible intro _)) <;>(first|done|rfl|exact fk ja|exact fk jb|exact fk2 ja|exact fk2 jb)))))))):p:=h a0 a1
theorem Hf {l0 l1 l2:List Nat}(a0:JL l0)(a1:JL l1)(a2:JL l2){p:Prop}(h:JL l0→JL l1→JL l2→p:=by intro ja jb jc;(first|done|(repeat' (first|with_reducible refine And.intro ?_ ?_|((with_reducible show _≠_);first|assumption|omega|(simp_all [et,fP];done) |grind) |with_reducible intro _)) <;>(first|done|with_reducible exact Empty.elim ‹Empty› |with_reducible assumption|rfl|omega|assumption|decide|exact fk ja|exact fk jb|exact fk jc|exact czl|(simp only[*,cond_true,cond_false,Bool.not_true,Bool.not_false,go_sem,Nat.reduceBEq,Nat.reduceLeDiff,Nat.reduceLT,decide_true,Nat.reduceAdd,Nat.reduceSub,Nat.reduceMul,Int.reduceLE,Int.reduceLT,Int.reduceToNat,Int.reduceNeg,reduceCtorEq];(repeat' (first|with_reducible refine And.intro ?_ ?_|((with_reducible show _≠_);first|assumption|omega|(simp_all [et,fP];done) |grind) |with_reducible intro _)) <;>(first|done|assumption|rfl|omega|decide|exact fk ja|exact fk jb|exact fk jc|(simp_all [et,fP];done))) |(simp_all [okI,et,fP];done) |(simp_all [et,fP];(first|done|exact fk2 ja|exact fk2 jb|exact fk2 jc)) |exact fk2 ja|exact fk2 jb|exact fk2 jc|(simp_all only[et,fP,cond_true,cond_false];(first|done|exact fk ja|exact fk jb|exact fk jc|exact fk2 ja|exact fk2 jb|exact fk2 jc|(simp only[go_sem,Nat.reduceBEq,Nat.reduceLeDiff,Nat.reduceLT,decide_true,Nat.reduceAdd,Nat.reduceSub,Nat.reduceMul,Int.reduceLE,Int.reduceLT,Int.reduceToNat,Int.reduceNeg,reduceCtorEq];((repeat' (first|with_reducible refine And.intro ?_ ?_|((with_reducible show _≠_);first|assumption|omega|(simp_all [et,fP];done) |grind) |with_reducible intro _)) <;>(first|done|rfl|exact fk ja|exact fk jb|exact fk jc|exact fk2 ja|exact fk2 jb|exact fk2 jc)))))))):p:=h a0 a1 a2
theorem CF {l0:List Nat}(a0:JL l0){p:Prop}(h:JL l0→p:=by intro ja;(first|done|(repeat' (first|with_reducible refine And.intro ?_ ?_|((with_reducible show _≠_);first|assumption|omega|(simp_all [et,fP];done) |grind) |with_reducible intro _)) <;>(first|done|with_reducible exact Empty.elim ‹Empty› |with_reducible assumption|rfl|omega|assumption|decide|exact fk ja|exact czl|(simp only[*,cond_true,cond_false,Bool.not_true,Bool.not_false,go_sem,Nat.reduceBEq,Nat.reduceLeDiff,Nat.reduceLT,decide_true,Nat.reduceAdd,Nat.reduceSub,Nat.reduceMul,Int.reduceLE,Int.reduceLT,Int.reduceToNat,Int.reduceNeg,reduceCtorEq];(repeat' (first|with_reducible refine And.intro ?_ ?_|((with_reducible show _≠_);first|assumption|omega|(simp_all [et,fP];done) |grind) |with_reducible intro _)) <;>(first|done|assumption|rfl|omega|decide|exact fk ja|(simp_all [et,fP];done))) |(simp_all [okI,et,fP];done) |(simp_all [et,fP];(first|done|exact fk2 ja)) |exact fk2 ja|(simp_all only[et,fP,cond_true,cond_false];(first|done|exact fk ja|exact fk2 ja|(simp only[go_sem,Nat.reduceBEq,Nat.reduceLeDiff,Nat.reduceLT,decide_true,Nat.reduceAdd,Nat.reduceSub,Nat.reduceMul,Int.reduceLE,Int.reduceLT,Int.reduceToNat,Int.reduceNeg,reduceCtorEq];((repeat' (first|with_reducible refine And.intro ?_ ?_|((with_reducible show _≠_);first|assumption|omega|(simp_all [et,fP];done) |grind) |with_reducible intro _)) <;>(first|done|rfl|exact fk ja|exact fk2 ja)))))))):p:=h a0
theorem Oo {l0 l1:List Nat}(a0:JL l0)(a1:JL l1){p:Prop}(h:JL l0→JL l1→p:=by intro ja jb;simp only[go_sem,Nat.reduceBEq,Nat.reduceLeDiff,Nat.reduceLT,decide_true,Nat.reduceAdd,Nat.reduceSub,Nat.reduceMul,Int.reduceLE,Int.reduceLT,Int.reduceToNat,Int.reduceNeg,reduceCtorEq];all_goals exact On ja jb):p:=h a0 a1
theorem Oq {l0:List Nat}(a0:JL l0){p:Prop}(h:JL l0→p:=by intro ja;simp only[go_sem,Nat.reduceBEq,Nat.reduceLeDiff,Nat.reduceLT,decide_true,Nat.reduceAdd,Nat.reduceSub,Nat.reduceMul,Int.reduceLE,Int.reduceLT,Int.reduceToNat,Int.reduceNeg,reduceCtorEq,hc,hw];all_goals exact CF ja):p:=h a0
theorem Ot {l0:List Nat}(a0:JL l0){p:Prop}(h:JL l0→p:=by intro ja;simp only[go_sem,Nat.reduceBEq,Nat.reduceLeDiff,Nat.reduceLT,decide_true,Nat.reduceAdd,Nat.reduceSub,Nat.reduceMul,Int.reduceLE,Int.reduceLT,Int.reduceToNat,Int.reduceNeg,reduceCtorEq,hc];all_goals exact CF ja):p:=h a0
@[go_sem] def bf (facts:List Int)(clauses:List Clause)(strict_:List (Int×Bool))(s_0:List (Int×Int)×List Reason)(z_1:Int)(s_1:List Reason):Empty⊕(List Reason):=letI q0:=({ plea:=({ facts:=facts,clauses:=clauses}:Plea),strict:=strict_,known:=s_0.1}:PleasCourt);(bif((gz .int .int s_0.1 z_1) !=0)then .inr s_1 else(bif(gz .int .bool strict_ z_1)then .inr (s_1++([({ literal:=z_1,clause:=0,proved:=true}:Reason)]))else(bif(kP q0 z_1)then .inr (s_1++([({ literal:=z_1,clause:=(kI q0 z_1),proved:=true}:Reason)]))else(bif(jE q0 z_1)then .inr (s_1++([({ literal:=z_1,clause:=0,proved:=false}:Reason)]))else .inr s_1))))
def eD (facts:List Int)(clauses:List Clause)(strict_:List (Int×Bool))(s_0:List (Int×Int)×List Reason)(z_1:Int)(s_1:List Reason):Prop:=letI q0:=({ plea:=({ facts:=facts,clauses:=clauses}:Plea),strict:=strict_,known:=s_0.1}:PleasCourt);letI q1:=gz .int .bool strict_ z_1;letI q2:=kP q0 z_1;(((gz .int .int s_0.1 z_1) !=0)=false→((q1=true→((s_1++([({ literal:=z_1,clause:=0,proved:=true}:Reason)])).length*24≤cW))∧(q1=false→((q2=true→((s_1++([({ literal:=z_1,clause:=(kI q0 z_1),proved:=true}:Reason)])).length*24≤cW))∧(q2=false→((jE q0 z_1)=true→((s_1++([({ literal:=z_1,clause:=0,proved:=false}:Reason)])).length*24≤cW)))))))
@[go_sem] def lD (facts:List Int)(clauses:List Clause)(strict_:List (Int×Bool))(s_1:List Reason)(k_2:Nat)(s_2:List (Int×Int)):Empty⊕(List (Int×Int)):=.inr (jh (s_1.getD k_2 default) facts clauses strict_ s_2)
@[go_sem] def iR (facts:List Int)(clauses:List Clause)(strict_:List (Int×Bool))(k_0:Nat)(s_0:List (Int×Int)×List Reason):(List (Int×Int)×List Reason)⊕(List (Int×Int)×List Reason):=(match ny (bf facts clauses strict_ s_0) aR ([])with| .inl x=>x.elim| .inr s_1=>(bif((s_1.length:Int) ==0)then .inl (s_0.1,s_0.2)else(match aq (lD facts clauses strict_ s_1) s_1.length 0 s_0.1 with| .inl x=>x.elim| .inr s_2=>.inr (s_2,(s_0.2++s_1)))))
def fG (facts:List Int)(clauses:List Clause)(strict_:List (Int×Bool))(k_0:Nat)(s_0:List (Int×Int)×List Reason):Prop:=letI q0:=bf facts clauses strict_ s_0;((eK ((aR).map CE))∧okL q0 (eD facts clauses strict_ s_0) aR ([])∧(∀ s_1,ny q0 aR ([])=.inr s_1→(s_1.length≤aH→(((s_1.length:Int) ==0)=false→(s_1.length≤aH→(∀ s_2,aq (lD facts clauses strict_ s_1) s_1.length 0 s_0.1=.inr s_2→((s_0.2++s_1).length*24≤cW)))))))
def eL (facts:List Int)(clauses:List Clause)(strict_:List (Int×Bool))(known_:List (Int×Int)):(List (Int×Int))×(List Reason):=(match aq (iR facts clauses strict_) 130 0 (known_,[])with| .inl x_0_0=>(x_0_0.1,x_0_0.2) | .inr s_0=>default)
def eM (facts:List Int)(clauses:List Clause)(strict_:List (Int×Bool))(known_:List (Int×Int)):Prop:=(okI (iR facts clauses strict_) (fG facts clauses strict_) 130 0 (known_,[])∧(∀ z_,aq (iR facts clauses strict_) 130 0 (known_,[])≠ .inr z_))
noncomputable def mL:List SV→List Ob→Option HCon:=pf (fun x_:(List Int)×(List Clause)×(List (Int×Bool))×(List (Int×Int)) =>[.ptr 0 0]) (fun x_=>[.cells [.rs .int x_.1,.rs .clause x_.2.1,.os 1,.os 2],.mp .int .bool x_.2.2.1 none,.mp .int .int x_.2.2.2 none]) (fun x_=>ic (eM x_.1 x_.2.1 x_.2.2.1 x_.2.2.2) (.os 3) [.cells [.rs .int x_.1,.rs .clause x_.2.1,.os 1,.os 2],.mp .int .bool x_.2.2.1 none,.mp .int .int ((eL x_.1 x_.2.1 x_.2.2.1 x_.2.2.2).1) none,.row .reason ((eL x_.1 x_.2.1 x_.2.2.1 x_.2.2.2).2)])
@[go_sem] theorem D6 (facts:List Int)(clauses:List Clause)(strict_:List (Int×Bool))(known_:List (Int×Int)){p1_:Option (Nat×Option Tag.int.T)}(hp1_:p1_=none){p2_:Option (Nat×Option Tag.int.T)}(hp2_:p2_=none):mL ([.ptr 0 0]) ([.cells [.rs .int facts,.rs .clause clauses,.os 1,.os 2],.mp .int .bool strict_ p1_,.mp .int .int known_ p2_])=some (ic (eM facts clauses strict_ known_) (.os 3) [.cells [.rs .int facts,.rs .clause clauses,.os 1,.os 2],.mp .int .bool strict_ none,.mp .int .int ((eL facts clauses strict_ known_).1) none,.row .reason ((eL facts clauses strict_ known_).2)]):=by
 subst hp1_;subst hp2_;exact ll (A:=fun x_:(List Int)×(List Clause)×(List (Int×Bool))×(List (Int×Int)) =>[.ptr 0 0]) (H:=fun x_=>[.cells [.rs .int x_.1,.rs .clause x_.2.1,.os 1,.os 2],.mp .int .bool x_.2.2.1 none,.mp .int .int x_.2.2.2 none]) (K:=fun x_=>ic (eM x_.1 x_.2.1 x_.2.2.1 x_.2.2.2) (.os 3) [.cells [.rs .int x_.1,.rs .clause x_.2.1,.os 1,.os 2],.mp .int .bool x_.2.2.1 none,.mp .int .int ((eL x_.1 x_.2.1 x_.2.2.1 x_.2.2.2).1) none,.row .reason ((eL x_.1 x_.2.1 x_.2.2.1 x_.2.2.2).2)]) (x:=(facts,clauses,strict_,known_))
theorem YE {l0 l1 l2:List Nat}(a0:JL l0)(a1:JL l1)(a2:JL l2){p:Prop}(h:JL l0→JL l1→JL l2→p:=by intro ja jb jc;simp only[go_sem,Nat.reduceBEq,Nat.reduceLeDiff,Nat.reduceLT,decide_true,Nat.reduceAdd,Nat.reduceSub,Nat.reduceMul,Int.reduceLE,Int.reduceLT,Int.reduceToNat,Int.reduceNeg,reduceCtorEq,bf,psT,CE,List.cons_append,List.nil_append];all_goals exact Hf ja jb jc):p:=h a0 a1 a2
theorem Sc {l0 l1 l2:List Nat}(a0:JL l0)(a1:JL l1)(a2:JL l2){p:Prop}(h:JL l0→JL l1→JL l2→p:=by intro ja jb jc;simp only[go_sem,Nat.reduceBEq,Nat.reduceLeDiff,Nat.reduceLT,decide_true,Nat.reduceAdd,Nat.reduceSub,Nat.reduceMul,Int.reduceLE,Int.reduceLT,Int.reduceToNat,Int.reduceNeg,reduceCtorEq];all_goals exact Hf ja jb jc):p:=h a0 a1 a2
theorem YF {l0:List Nat}(a0:JL l0){p:Prop}(h:JL l0→p:=by intro ja;simp only[go_sem,Nat.reduceBEq,Nat.reduceLeDiff,Nat.reduceLT,decide_true,Nat.reduceAdd,Nat.reduceSub,Nat.reduceMul,Int.reduceLE,Int.reduceLT,Int.reduceToNat,Int.reduceNeg,reduceCtorEq];all_goals exact CF ja):p:=h a0
theorem vO:FnOkO Tryz.prog 85 (mL):=by
 have hG:ConsOk Tryz.prog (mkG [(119,fun l=>qn (bo [] l)),(132,re),(133,qX),(134,pZ)] [(135,nG)]):=ap (cgc (tI.norm []) (cgc vN (cgc vK (cgc vo cg0)))) (cgc wO cg0);refine oY mixed al hG (fn:=Tryz.f85) (c:=ae Tryz.f85) kr kr kr kr fun l o con h=>?_;obtain⟨⟨facts,clauses,strict_,known_⟩,rfl,rfl,rfl⟩:=jo h;clear h;try dsimp only
 refine⟨_,_,_,rfl,fun hp=>?_⟩;unfold eM at hp;refine⟨nbl rfl,(fun id st=>bif Nat.beq id 0 then some (LCV (ρ:=(List (Int×Int)×List Reason)) (σ:=(List (Int×Int)×List Reason)) 4 [.slot 2 (.row .reason ([]))] [0,1,2,3,4] (fun k_0 s_0=>⟨[(1,.ptr 3 0),(2,.os 4)],[.cells [.rs .int facts,.rs .clause clauses,.os 1,.os 2],.mp .int .bool strict_ none,.mp .int .int s_0.1 none,.cells [.ptr 0 0],.row .reason s_0.2]⟩) (iR facts clauses strict_) (fG facts clauses strict_) 130 (known_,[]) (fun _=>.ret) (fun x_0_0=>⟨[(2,.os 4)],[.cells [.rs .int facts,.rs .clause clauses,.os 1,.os 2],.mp .int .bool strict_ none,.mp .int .int x_0_0.1 none,.dead,.row .reason x_0_0.2]⟩) st)else none),?_,?_⟩
 ·unfold ae Tryz.f85;simp only[am,true_and,and_true,and_assoc]
  ·refine uu mixed al hG kr (fun _=>rfl) fun k_0 s_0 hq0=>⟨(fun id st=>bif Nat.beq id 2 then some (LC (ρ:=Empty) (σ:=List Reason) (lk 1 st.t=.ptr 3 0∧lk 2 st.t=.os 4∧lk 3 st.t=.ptr 5 0∧lk 7 st.t=.fn 159 [] []∧st.h=[.cells [.rs .int facts,.rs .clause clauses,.os 1,.os 2],.mp .int .bool strict_ none,.mp .int .int s_0.1 none,.cells [.ptr 0 0],.row .reason s_0.2,.cells [.v (.slice none 0 0)]]∧eK ((aR).map CE)∧okL (bf facts clauses strict_ s_0) (eD facts clauses strict_ s_0) aR ([])) (ny (bf facts clauses strict_ s_0) aR ([])) (fun x=>x.elim) (fun x=>x.elim) (fun s_1=>⟨[(1,.ptr 3 0),(2,.os 4),(3,.ptr 5 0)],[.cells [.rs .int facts,.rs .clause clauses,.os 1,.os 2],.mp .int .bool strict_ none,.mp .int .int s_0.1 none,.cells [.ptr 0 0],.row .reason s_0.2,.cells [.os 7],.dead,.row .reason s_1]⟩))else bif Nat.beq id 5 then some (LCR (ρ:=Empty) (σ:=(List (Int×Int))) 8 [] [0,1,2,3,4,5,6,7] (fun k_2 s_2=>⟨[(1,.ptr 3 0),(2,.os 4),(3,.ptr 5 0),(54,.os 7),(55,.v (.int .i64 ((et (ny (bf facts clauses strict_ s_0) aR ([]))).length:Int))),(56,.v (.int .i64 (k_2:Int)))],[.cells [.rs .int facts,.rs .clause clauses,.os 1,.os 2],.mp .int .bool strict_ none,.mp .int .int s_2 none,.cells [.ptr 0 0],.row .reason s_0.2,.cells [.os 7],.dead,.row .reason (et (ny (bf facts clauses strict_ s_0) aR ([])))]⟩) (lD facts clauses strict_ (et (ny (bf facts clauses strict_ s_0) aR ([])))) pT ((et (ny (bf facts clauses strict_ s_0) aR ([]))).length) s_0.1 ((et (ny (bf facts clauses strict_ s_0) aR ([]))).length≤aH) ((·.elim)) ((·.elim)) st)else none),?_,?_⟩
   ·simp only[am,true_and,and_true];refine⟨?_,?_⟩
    ·refine IP mixed al hG (by decide) (by decide) kr kr fun st lc hC hp=>?_;simp only[go_sem,Nat.reduceBEq,Option.some.injEq]at hC;subst hC;obtain⟨t,h⟩:=st;dsimp only[LC]at hp;obtain⟨e1_0,e1_1,e1_2,e1_3,rfl,hb1,hok1⟩:=hp;refine⟨⟨t,[.cells [.rs .int facts,.rs .clause clauses,.os 1,.os 2],.mp .int .bool strict_ none,.mp .int .int s_0.1 none,.cells [.ptr 0 0],.row .reason s_0.2,.cells [.os 6],.row .reason ([])]⟩,NilS.cell (h:=[.cells [.rs .int facts,.rs .clause clauses,.os 1,.os 2],.mp .int .bool strict_ none,.mp .int .int s_0.1 none,.cells [.ptr 0 0],.row .reason s_0.2,.cells [.v (.slice none 0 0)]]) (i:=5) (j:=0) (.row .reason ([])) (NilS.refl _) rfl rfl (.inl ⟨_,rfl⟩),159,[],Int,_,_,aR,CE,(bf facts clauses strict_ s_0),(eD facts clauses strict_ s_0),_,([]),_,_,_,[(1,.ptr 3 0),(2,.os 4),(3,.ptr 5 0)],(fun s_1=>[.cells [.rs .int facts,.rs .clause clauses,.os 1,.os 2],.mp .int .bool strict_ none,.mp .int .int s_0.1 none,.cells [.ptr 0 0],.row .reason s_0.2,.cells [.os 7],.dead,.row .reason s_1]),(fun x=>x.elim),[0,1,2,3,4,5,6,6],?_,rfl,hok1,nbl rfl,?_,rU _ hb1,fun z_1 s_1 hq1=>⟨rfl,L0,fun l=>?_,fun l=>?_,?_⟩,fun s_1=>?_,fun y=>?_⟩
     ·simp only[go_sem,e1_0,e1_1,e1_2,e1_3]
     ·simp only[go_sem,Nat.reduceBEq,Nat.reduceLeDiff,Nat.reduceLT,decide_true,Nat.reduceAdd,Nat.reduceSub,Nat.reduceMul,Int.reduceLE,Int.reduceLT,Int.reduceToNat,Int.reduceNeg,reduceCtorEq,wj,oi,List.flatMap_cons,List.flatMap_nil,List.nil_append,List.append_nil,List.map_nil,e1_0,e1_1,e1_2,e1_3];all_goals (first|done|decide|(repeat' (first|refine And.intro ?_ ?_|rfl|decide)))
     ·simp only[am,and_self,true_and,and_true]
     ·simp only[am,and_self,true_and,and_true]
     ·unfold eD at hq1;exact YE (jl [0,1,2,3,4,5,6,7]) (jl [0,1,2,3,4,5,6,9]) (jl [0,1,2,3,4,5,6,8])
     ·exact Sc (jl [0,1,2,3,4,5,6,7]) (jl [0,1,2,3,4,5,6,9]) (jl [0,1,2,3,4,5,6,8])
     ·exact Sc (jl [0,1,2,3,4,5,6,7]) (jl [0,1,2,3,4,5,6,9]) (jl [0,1,2,3,4,5,6,8])
    ·refine aY mixed al hG kr (fun _=>rfl) ((et (ny (bf facts clauses strict_ s_0) aR ([]))).length:Int) rfl ig (fun hb2 k_2 s_2 hlt2 _ hw hc=>⟨L0,ag _,?_⟩) (fun hb2 s_2 hc=>?_)
     ·exact Oq (jl [0,1,2,3,4,5,6,7])
     ·exact Ot (jl [0,1,2,3,4,5,6,7])
   ·unfold fG at hq0;exact Oo (jl [0,1,2,3,8]) (jl [0,1,2,3,4])
 ·unfold ae Tryz.f85;try unfold eL
  exact YF (jl [0,1,2,4])
def ip (p:Plea)(q:Int):Int×Int:=letI q0:=gz .int .int ((eL p.facts p.clauses (fB p) ([])).1) q;(bif((jg p) !=0)then(0,(jg p))else(bif(!(ix q))then(0,1)else(bif(q0==0)then(3,0)else(q0,0))))
def j5 (p:Plea)(q:Int):Prop:=((ju p)∧(((jg p) !=0)=false→((!(ix q))=false→((iK p)∧(eM p.facts p.clauses (fB p) ([]))))))
@[go_sem] def sS:List SV→Option Con:=(pD .plea fun p=>(pI fun q=>(pE (.det (j5 p q) (.tup [.v (.int .i64 ((ip p q).1)),.v (.int .i64 ((ip p q).2))])))))
theorem vF:FnOk Tryz.prog 35 sS:=by
 have hG:ConsOk Tryz.prog (mkG [(67,fun l=>qA (bo [.st .plea] l)),(83,oa)] [(84,qo),(85,mL)]):=ap (cgc (sO.norm [.st .plea]) (cgc ql cg0)) (cgc y8 (cgc vO cg0));refine aw [.o,.o] mixed al hG (fn:=Tryz.f35) (c:=ae Tryz.f35) kr kr kr kr (bt fun p=>(dh fun q=>(ai (fun hp=>?_))));dsimp only[ar]at hp;unfold j5 at hp;refine⟨nbl rfl,L0,ag _,?_⟩
 ·unfold ae Tryz.f35;try unfold ip
  exact zq1
@[go_sem] def nH (a0:Cases)(a1:Suit)(k_0:Nat)(s_0:List Int):Empty⊕(List Int):=(bif((a0.sides.getD (Int.toNat (a1.facts.getD k_0 0)) 0) ==1)then .inr (s_0++([(a1.facts.getD k_0 0)]))else .inr s_0)
def lE (a0:Cases)(a1:Suit)(k_0:Nat)(s_0:List Int):Prop:=((0≤(a1.facts.getD k_0 0)∧(a1.facts.getD k_0 0) < (a0.sides.length:Int))∧(((a0.sides.getD (Int.toNat (a1.facts.getD k_0 0)) 0) ==1)=true→((s_0++([(a1.facts.getD k_0 0)])).length*8≤cW)))
@[go_sem] def nI (a0:Cases)(a1:Suit)(k_1:Nat)(s_1:List Int):Empty⊕(List Int):=(bif((a0.sides.getD (Int.toNat (a1.facts.getD k_1 0)) 0) ==0)then .inr (s_1++([(a1.facts.getD k_1 0)]))else .inr s_1)
def lF (a0:Cases)(a1:Suit)(k_1:Nat)(s_1:List Int):Prop:=((0≤(a1.facts.getD k_1 0)∧(a1.facts.getD k_1 0) < (a0.sides.length:Int))∧(((a0.sides.getD (Int.toNat (a1.facts.getD k_1 0)) 0) ==0)=true→((s_1++([(a1.facts.getD k_1 0)])).length*8≤cW)))
@[go_sem] def nJ (a0:Cases)(a1:Suit)(k_2:Nat)(s_2:List Int):Empty⊕(List Int):=(bif((a0.sides.getD (Int.toNat (a1.facts.getD k_2 0)) 0) ==1)then .inr (s_2++([(a1.facts.getD k_2 0)]))else .inr s_2)
def lG (a0:Cases)(a1:Suit)(k_2:Nat)(s_2:List Int):Prop:=((0≤(a1.facts.getD k_2 0)∧(a1.facts.getD k_2 0) < (a0.sides.length:Int))∧(((a0.sides.getD (Int.toNat (a1.facts.getD k_2 0)) 0) ==1)=true→((s_2++([(a1.facts.getD k_2 0)])).length*8≤cW)))
@[go_sem] def nK (a0:Cases)(a1:Suit)(k_3:Nat)(s_3:List Int):Empty⊕(List Int):=(bif((a0.sides.getD (Int.toNat (a1.facts.getD k_3 0)) 0) ==0)then .inr (s_3++([(a1.facts.getD k_3 0)]))else .inr s_3)
def lH (a0:Cases)(a1:Suit)(k_3:Nat)(s_3:List Int):Prop:=((0≤(a1.facts.getD k_3 0)∧(a1.facts.getD k_3 0) < (a0.sides.length:Int))∧(((a0.sides.getD (Int.toNat (a1.facts.getD k_3 0)) 0) ==0)=true→((s_3++([(a1.facts.getD k_3 0)])).length*8≤cW)))
def iy (a0:Cases)(a1:Suit):Case×Int:=letI q0:=ip a1.plea a1.question;letI q1:=aP a0 a1.facts 0;letI q3:=aP a0 a1.facts 1;letI q4:=(a0.cases.length:Int);letI q2:=a0.cases.getD (Int.toNat (i64.wrap (q4 - 1))) default;letI q5:=fF a0;letI q6:=jg a1.plea;(bif(q5 !=0)then(({ no:=0,hour:=0,winner:=0,facts:=[],reason:=[]}:Case),q5)else(bif(q6 !=0)then(({ no:=0,hour:=0,winner:=0,facts:=[],reason:=[]}:Case),q6)else(bif(an (q0.2==0) (q0.2))then(bif(an (q1.2.2==0) (q1.2.2))then(bif(an ((aO a1.no 0 1048576)&&(aO a1.hour 0 4096)) 520)then(bif(decide (q4 > 0))then(bif(an ((decide (a1.no > q2.no))&&(decide (a1.hour≥q2.hour))) 520)then(bif((!q1.2.1)&&(q3.2.1||(q0.1 !=1)))then(match aq (nH a0 a1) a1.facts.length 0 ([])with| .inl x=>x.elim| .inr s_0=>(({ no:=a1.no,hour:=a1.hour,winner:=1,facts:=a1.facts,reason:=s_0}:Case),0))else(match aq (nI a0 a1) a1.facts.length 0 ([])with| .inl x=>x.elim| .inr s_1=>(({ no:=a1.no,hour:=a1.hour,winner:=0,facts:=a1.facts,reason:=s_1}:Case),0)))else(({ no:=0,hour:=0,winner:=0,facts:=[],reason:=[]}:Case),520))else(bif((!q1.2.1)&&(q3.2.1||(q0.1 !=1)))then(match aq (nJ a0 a1) a1.facts.length 0 ([])with| .inl x=>x.elim| .inr s_2=>(({ no:=a1.no,hour:=a1.hour,winner:=1,facts:=a1.facts,reason:=s_2}:Case),0))else(match aq (nK a0 a1) a1.facts.length 0 ([])with| .inl x=>x.elim| .inr s_3=>(({ no:=a1.no,hour:=a1.hour,winner:=0,facts:=a1.facts,reason:=s_3}:Case),0))))else(({ no:=0,hour:=0,winner:=0,facts:=[],reason:=[]}:Case),520))else(({ no:=0,hour:=0,winner:=0,facts:=[],reason:=[]}:Case),(q1.2.2)))else(({ no:=0,hour:=0,winner:=0,facts:=[],reason:=[]}:Case),(q0.2)))))
def sT (a0:Cases)(a1:Suit):Prop:=letI q1:=ip a1.plea a1.question;letI q2:=aP a0 a1.facts 0;letI q3:=aP a0 a1.facts 1;letI q4:=(a0.cases.length:Int);letI q0:=i64.wrap (q4 - 1);letI q5:=a0.cases.getD (Int.toNat q0) default;letI q6:=q1.1 !=1;letI q7:=decide (a1.no > q5.no);((fE a0)∧(((fF a0) !=0)=false→((ju a1.plea)∧(((jg a1.plea) !=0)=false→((j5 a1.plea a1.question)∧((an (q1.2==0) (q1.2))=true→((eJ a0 a1.facts 0)∧((an (q2.2.2==0) (q2.2.2))=true→((eJ a0 a1.facts 1)∧((an ((aO a1.no 0 1048576)&&(aO a1.hour 0 4096)) 520)=true→(a0.cases.length≤aH→(((decide (q4 > 0))=true→((0≤q0∧q0<q4)∧((q7=true→(0≤q0∧q0<q4))∧((an (q7&&(decide (a1.hour≥q5.hour))) 520)=true→((((!q2.2.1)&&(q3.2.1||q6))=true→(a1.facts.length≤aH→okI (nH a0 a1) (lE a0 a1) a1.facts.length 0 ([])))∧(((!q2.2.1)&&(q3.2.1||q6))=false→(a1.facts.length≤aH→okI (nI a0 a1) (lF a0 a1) a1.facts.length 0 ([]))))))))∧((decide (q4 > 0))=false→((((!q2.2.1)&&(q3.2.1||q6))=true→(a1.facts.length≤aH→okI (nJ a0 a1) (lG a0 a1) a1.facts.length 0 ([])))∧(((!q2.2.1)&&(q3.2.1||q6))=false→(a1.facts.length≤aH→okI (nK a0 a1) (lH a0 a1) a1.facts.length 0 ([])))))))))))))))))
@[go_sem] def sU:List SV→Option Con:=(pD .cases fun a0=>(pD .suit fun a1=>(pE (.det (sT a0 a1) (.tup [.agg (cellsOf .case ((iy a0 a1).1)),.v (.int .i64 ((iy a0 a1).2))])))))
theorem Ki {p:Prop}(h:p:=by simp only[go_sem,Nat.reduceBEq,Nat.reduceLeDiff,Nat.reduceLT,decide_true,Nat.reduceAdd,Nat.reduceSub,Nat.reduceMul,Int.reduceLE,Int.reduceLT,Int.reduceToNat,Int.reduceNeg,reduceCtorEq,hs0,hs1,p9,oj,RCJ];all_goals exact cl):p:=h
theorem xf:FnOk Tryz.prog 24 sU:=by
 have hG:ConsOk Tryz.prog (mkG [(34,fun l=>ox (bo [.st .cases,.sl .int,.o] l)),(35,fun l=>sS (bo [.st .plea,.o] l)),(52,gb),(58,jM),(64,fun l=>kG (bo [.st .cases] l)),(67,fun l=>qA (bo [.st .plea] l))] []):=ap (cgc (rS.norm [.st .cases,.sl .int,.o]) (cgc (vF.norm [.st .plea,.o]) (cgc g_ (cgc lT (cgc (nF.norm [.st .cases]) (cgc (sO.norm [.st .plea]) cg0)))))) cg0;refine JW EW [.st .case,.o] mixed al hG (fn:=Tryz.f24) (c0:=p9 (ae Tryz.f24)) (c1:=oj (oj (ae Tryz.f24))) (i1:=PR (p9 (oj (ae Tryz.f24)))) (o1:=M8 0 (p9 (oj (ae Tryz.f24)))) (q:=5) (tys:= #[104]) kr kr kr (by refine⟨?_,?_,?_⟩ <;>kernel_rfl) kr kr (bt fun a0=>(bt fun a1=>(ai (fun hp=>?_))));dsimp only[ar]at hp;unfold sT at hp;rcases Bool.eq_false_or_eq_true (decide ((a0.cases.length:Int) > 0))with hs0|hs0 <;>rcases Bool.eq_false_or_eq_true ((!(aP a0 a1.facts 0).2.1)&&((aP a0 a1.facts 1).2.1||((ip a1.plea a1.question).1 !=1)))with hs1|hs1
 ·have hsp:True:=trivial;refine⟨nbl rfl,L0,(fun id st=>bif Nat.beq id 0 then some (LCR (ρ:=Empty) (σ:=(List Int)) 4 [.cell 2 4 (.row .int ([]))] [0,1,2,3,4] (fun k_0 s_0=>⟨[(2,.ptr 0 0),(4,.ptr 2 0),(5,.ptr 3 0),(115,.rs .int a1.facts),(116,.v (.int .i64 (a1.facts.length:Int))),(117,.v (.int .i64 (k_0:Int)))],[.cells (cellsOf .cases a0),.dead,.cells [.v (.int .i64 a1.no),.v (.int .i64 a1.hour),.v (.int .i64 1),.rs .int a1.facts,.os 4],.cells [.v (.int .i64 ((aP a0 a1.facts 0).2.2))],.row .int s_0]⟩) (nH a0 a1) (lE a0 a1) a1.facts.length ([]) (a1.facts.length≤aH) ((·.elim)) ((·.elim)) st)else none),3,?_,?_,?_⟩
  ·unfold ae Tryz.f24;simp only[p9,am,and_self,true_and,and_true]
  ·unfold ae Tryz.f24;simp only[oj];simp only[am,true_and,and_true]
   ·refine aY mixed al hG kr (fun _=>rfl) (a1.facts.length:Int) rfl ig (fun hb0 k_0 s_0 hlt0 hq0 hw hc=>⟨L0,ag _,?_⟩) (fun hb0 s_0 hc=>?_)
    ·unfold lE at hq0;try simp only[hw,Int.toNat_natCast]at hq0
     exact kX (jl [0,1,2,3,6]) (jl [0,1,2,3,4])
    ·exact jL (jl [0,1,2,3,6]) (jl [0,1,2,3,4])
  ·unfold ae Tryz.f24;try unfold iy
   exact Ki
 ·have hsp:True:=trivial;refine⟨nbl rfl,L0,(fun id st=>bif Nat.beq id 0 then some (LCR (ρ:=Empty) (σ:=(List Int)) 4 [.cell 2 4 (.row .int ([]))] [0,1,2,3,4] (fun k_1 s_1=>⟨[(2,.ptr 0 0),(4,.ptr 2 0),(5,.ptr 3 0),(115,.rs .int a1.facts),(116,.v (.int .i64 (a1.facts.length:Int))),(117,.v (.int .i64 (k_1:Int)))],[.cells (cellsOf .cases a0),.dead,.cells [.v (.int .i64 a1.no),.v (.int .i64 a1.hour),.v (.int .i64 0),.rs .int a1.facts,.os 4],.cells [.v (.int .i64 ((aP a0 a1.facts 0).2.2))],.row .int s_1]⟩) (nI a0 a1) (lF a0 a1) a1.facts.length ([]) (a1.facts.length≤aH) ((·.elim)) ((·.elim)) st)else none),3,?_,?_,?_⟩
  ·unfold ae Tryz.f24;simp only[p9,am,and_self,true_and,and_true]
  ·unfold ae Tryz.f24;simp only[oj];simp only[am,true_and,and_true]
   ·refine aY mixed al hG kr (fun _=>rfl) (a1.facts.length:Int) rfl ig (fun hb1 k_1 s_1 hlt1 hq1 hw hc=>⟨L0,ag _,?_⟩) (fun hb1 s_1 hc=>?_)
    ·unfold lF at hq1;try simp only[hw,Int.toNat_natCast]at hq1
     exact kX (jl [0,1,2,3,6]) (jl [0,1,2,3,4])
    ·exact jL (jl [0,1,2,3,6]) (jl [0,1,2,3,4])
  ·unfold ae Tryz.f24;try unfold iy
   exact Ki
 ·have hsp:True:=trivial;refine⟨nbl rfl,L0,(fun id st=>bif Nat.beq id 0 then some (LCR (ρ:=Empty) (σ:=(List Int)) 4 [.cell 2 4 (.row .int ([]))] [0,1,2,3,4] (fun k_2 s_2=>⟨[(2,.ptr 0 0),(4,.ptr 2 0),(5,.ptr 3 0),(115,.rs .int a1.facts),(116,.v (.int .i64 (a1.facts.length:Int))),(117,.v (.int .i64 (k_2:Int)))],[.cells (cellsOf .cases a0),.dead,.cells [.v (.int .i64 a1.no),.v (.int .i64 a1.hour),.v (.int .i64 1),.rs .int a1.facts,.os 4],.cells [.v (.int .i64 ((aP a0 a1.facts 0).2.2))],.row .int s_2]⟩) (nJ a0 a1) (lG a0 a1) a1.facts.length ([]) (a1.facts.length≤aH) ((·.elim)) ((·.elim)) st)else none),3,?_,?_,?_⟩
  ·unfold ae Tryz.f24;simp only[p9,am,and_self,true_and,and_true]
  ·unfold ae Tryz.f24;simp only[oj];simp only[am,true_and,and_true]
   ·refine aY mixed al hG kr (fun _=>rfl) (a1.facts.length:Int) rfl ig (fun hb2 k_2 s_2 hlt2 hq2 hw hc=>⟨L0,ag _,?_⟩) (fun hb2 s_2 hc=>?_)
    ·unfold lG at hq2;try simp only[hw,Int.toNat_natCast]at hq2
     exact kX (jl [0,1,2,3,6]) (jl [0,1,2,3,4])
    ·exact jL (jl [0,1,2,3,6]) (jl [0,1,2,3,4])
  ·unfold ae Tryz.f24;try unfold iy
   exact Ki
 ·have hsp:True:=trivial;refine⟨nbl rfl,L0,(fun id st=>bif Nat.beq id 0 then some (LCR (ρ:=Empty) (σ:=(List Int)) 4 [.cell 2 4 (.row .int ([]))] [0,1,2,3,4] (fun k_3 s_3=>⟨[(2,.ptr 0 0),(4,.ptr 2 0),(5,.ptr 3 0),(115,.rs .int a1.facts),(116,.v (.int .i64 (a1.facts.length:Int))),(117,.v (.int .i64 (k_3:Int)))],[.cells (cellsOf .cases a0),.dead,.cells [.v (.int .i64 a1.no),.v (.int .i64 a1.hour),.v (.int .i64 0),.rs .int a1.facts,.os 4],.cells [.v (.int .i64 ((aP a0 a1.facts 0).2.2))],.row .int s_3]⟩) (nK a0 a1) (lH a0 a1) a1.facts.length ([]) (a1.facts.length≤aH) ((·.elim)) ((·.elim)) st)else none),3,?_,?_,?_⟩
  ·unfold ae Tryz.f24;simp only[p9,am,and_self,true_and,and_true]
  ·unfold ae Tryz.f24;simp only[oj];simp only[am,true_and,and_true]
   ·refine aY mixed al hG kr (fun _=>rfl) (a1.facts.length:Int) rfl ig (fun hb3 k_3 s_3 hlt3 hq3 hw hc=>⟨L0,ag _,?_⟩) (fun hb3 s_3 hc=>?_)
    ·unfold lH at hq3;try simp only[hw,Int.toNat_natCast]at hq3
     exact kX (jl [0,1,2,3,6]) (jl [0,1,2,3,4])
    ·exact jL (jl [0,1,2,3,6]) (jl [0,1,2,3,4])
  ·unfold ae Tryz.f24;try unfold iy
   exact Ki
end Go.Sx
end
section
namespace Go.Sx
def pCN {α:Type 1}(k:List Int→List SV→Option α):List SV→Option α
 | .agg [.rs .int s,.v (.slice none 0 0)]::r=>k s r
 |_=>none
@[go_sem] theorem abm {α:Type 1}{k:List Int→List SV→Option α}{s:List Tag.int.T}{r:List SV}:pCN k (.agg [.rs .int s,.v (.slice none 0 0)]::r)=k s r:=(rfl)
theorem Q4 {α:Type 1}{G:List SV→α→Prop}{k:List Int→List SV→Option α}(h:∀ s l c,k s l=some c→G (.agg [.rs .int s,.v (.slice none 0 0)]::l) c):∀ l c,pCN k l=some c→G l c:=by
 intro l c hc;unfold pCN at hc;split at hc
 ·exact h _ _ _ hc
 ·cases hc
end Go.Sx
end
section
namespace Go.Sx
open Go.RowKit
def IQ (n0 id:Nat):Ob→SV
 | .row k l=>bif Nat.ble n0 id then .rs k l else .any
 |_=>.any
def isV:SV→Bool
 | .v _=>true
 |_=>false
def wP (n0:Nat)(h:List Ob):SV→SV
 | .v x=>.v x
 | .rs k l=>.rs k l
 | .agg l=>bif l.all isV then .agg l else .any
 | .os id=>IQ n0 id (aj h id)
 |_=>.any
def AN (n0:Nat)(h:List Ob):SV→SV
 | .tup l=>.tup (l.map (wP n0 h))
 |s=>wP n0 h s
def CG (n0:Nat)(own:Own):Own:=fun i=>if i<n0 then own i else none
section
variable {F:Nat→Prop}{own:Own}{w:World}{n0:Nat}{h:List Ob}
theorem y9 {b:Nat}(hb:¬bO F own b):¬bO F (CG n0 own) b:=by
 rintro (hf| ⟨id,hd,e,hm⟩)
 ·exact hb (.inl hf)
 ·unfold CG at e;split at e
  ·exact hb (.inr ⟨id,hd,e,hm⟩)
  ·cases e
theorem za (hp:Hp F own w h):∀ (s:SV) (v:Value),Rel F own w s v→Rel F (CG n0 own) w (wP n0 h s) v:=by
 intro s v hr;cases s with
 |v x=>exact hr.over (.v x) fun b hb=>y9 hb
 |rs k l=>exact hr.over .rs fun b hb=>y9 hb
 |agg l=>
  simp only[wP];cases ha:l.all isV with
  |false=>exact .any _
  |true=>
   refine hr.over (.agg fun j s hj=>?_) fun b hb=>y9 hb;have:=List.all_eq_true.1 ha s (List.mem_of_getElem? hj);cases s <;>first|exact .v _|cases this
 |os id=>
  obtain⟨hd,h1,rfl,h2⟩:=iB hr;simp only[wP];cases ho:aj h id with
  |row k l=>
   simp only[IQ];cases hn:Nat.ble n0 id with
   |false=>exact .any _
   |true=>
    have hn':=nbl hn;obtain⟨hd',e0,e⟩:=hp.at ho rfl;rw[h1]at e0;cases e0;have hnb:∀ b∈hd.bs,¬bO F (CG n0 own) b:=by
     rintro b hb (hf| ⟨i,hi,e1,e2⟩)
     ·exact hp.apart id hd b h1 hb hf
     ·unfold CG at e1;split at e1
      ·rename_i hlt;have:=hp.inj id i hd hi b h1 e1 hb e2;omega
      ·cases e1
    rcases e with⟨a,e1,rfl,_⟩ | ⟨b,o,cap,cs,ty,e1,e2,h3,h4,h5,h6,h7⟩
    ·rw[e1];exact .rs0
    ·rw[e1];refine .rs (fun i j=>cs.getD (o+i*aa k+j) undef) h5 h6 (fun i x hi j s hj=>?_) (fun i x hi j s hj=>?_)
     ·obtain⟨u,k1,k2⟩:=h7 i x hi j s hj;refine⟨hnb b (by simp[e2]),?_⟩;rw[dP h3,k1];simp[Array.getD_eq_getD_getElem?,k1]
     ·obtain⟨u,k1,k2⟩:=h7 i x hi j s hj;have:cs.getD (o+i*aa k+j) undef=u:=by simp[Array.getD_eq_getD_getElem?,k1]
      rw[this];exact k2.over (qL hj) fun b hb=>y9 hb
  |_=>exact .any _
 |_=>exact .any _
theorem Ou (hp:Hp F own w h)(s:SV)(v:Value)(hr:Rel F own w s v):Rel F (CG n0 own) w (AN n0 h s) v:=by
 cases s with
 |tup l=>
  cases hr with
  |tup h0 h1=>
   refine .tup (by simpa using h0) fun j s hj=>?_;obtain⟨x,hx,rfl⟩:=bW hj;exact za hp x _ (h1 j x hx)
 |_=>exact za hp _ _ hr
theorem A5 (s:SV):PF (wP n0 h s):=by
 cases s with
 |agg l=>
  simp only[wP];cases ha:l.all isV with
  |false=>exact .any
  |true=>
   refine .agg fun j s hj=>?_;have:=List.all_eq_true.1 ha s (List.mem_of_getElem? hj);cases s <;>first|exact .v _|cases this
 |os id=>
  simp only[wP];cases aj h id with
  |row k l=>simp only[IQ];cases Nat.ble n0 id <;>first|exact .any|exact .rs
  |_=>exact .any
 |v x=>exact .v x
 |rs k l=>exact .rs
 |_=>exact .any
theorem Q5 (s:SV):PF (AN n0 h s):=by
 cases s
 case tup l=>exact .tup fun j s hj=>by obtain⟨x,hx,rfl⟩:=bW hj;exact A5 x
 all_goals (unfold AN;exact A5 _)
@[go_sem] theorem YG {l:List SV}:AN n0 h (.tup l)=.tup (l.map (wP n0 h)):=(rfl)
@[go_sem] theorem aan {id:Nat}:AN n0 h (.os id)=IQ n0 id (aj h id):=(rfl)
@[go_sem] theorem abn {x:Value}:AN n0 h (.v x)=.v x:=(rfl)
@[go_sem] theorem aao {k:Tag}{l:List k.T}:AN n0 h (.rs k l)=.rs k l:=(rfl)
@[go_sem] theorem YH {l:List SV}:AN n0 h (.agg l)=bif l.all isV then .agg l else .any:=(rfl)
@[go_sem] theorem abo {x:Value}:wP n0 h (.v x)=.v x:=(rfl)
@[go_sem] theorem aap {k:Tag}{l:List k.T}:wP n0 h (.rs k l)=.rs k l:=(rfl)
@[go_sem] theorem YI {l:List SV}:wP n0 h (.agg l)=bif l.all isV then .agg l else .any:=(rfl)
@[go_sem] theorem aaq {id:Nat}:wP n0 h (.os id)=IQ n0 id (aj h id):=(rfl)
@[go_sem] theorem YJ {k:Tag}{l:List k.T}{id:Nat}:IQ n0 id (.row k l)=bif Nat.ble n0 id then .rs k l else .any:=(rfl)
@[go_sem] theorem isV_v {x:Value}:isV (.v x)=true:=(rfl)
end
def LI (pks:List Pk)(n0:Nat)(S:SV)(H:List Ob)(h:List Ob):Option SV→Prop
 |some s=>S=tL pks (AN n0 h s)∧jm ⟨[],H⟩ n0 ⟨[],h⟩
 |none=>False
def Ov (pks:List Pk)(n0:Nat)(rs:List ResultVar)(ts:Tis)(S:SV)(H:List Ob):Ex→St→Prop
 | .exit _,_=>False
 | .normal,st=>LI pks n0 S H st.h (j_ (ji ts st rs))
 | .ret,st=>LI pks n0 S H st.h (j_ (ji ts st rs))
 | .pan _,_=>False
section
variable {P:Program}{ts:Tis}{G:Cons}{n0:Nat}{S s:SV}{H h:List Ob}{rs:List ResultVar}{st:St}{pks:List Pk}
@[go_sem] theorem Wu:LI pks n0 S H h (some s)=(S=tL pks (AN n0 h s)∧jm ⟨[],H⟩ n0 ⟨[],h⟩):=(rfl)
@[go_sem] theorem Q6:Ov pks n0 rs ts S H .normal st=LI pks n0 S H st.h (j_ (ji ts st rs)):=(rfl)
@[go_sem] theorem Wv:Ov pks n0 rs ts S H .ret st=LI pks n0 S H st.h (j_ (ji ts st rs)):=(rfl)
theorem Hg {js:List Nat}{own:Own}{F:Nat→Prop}{b:Nat}(hk:xI 0 js n0=true)(hl:H.length=n0)(hb:¬bO F (CG n0 own) b):¬bO F (gS js H own) b:=by
 rintro (hf| ⟨k,hd,e,hm⟩)
 ·exact hb (.inl hf)
 ·obtain⟨h1,j,hd0,e1,e2,_,e4⟩:=ir e;obtain⟨_,rfl⟩:=e4 b hm;have hj:=xR js 0 n0 hk k j e1 (by omega);have hjk:j=k:=by omega
  subst hjk;refine hb (.inr ⟨j,hd,?_,hm⟩);unfold CG;rw[if_pos (by omega)];exact e2
theorem Ow (pks:List Pk) (hm:P.follows .mixedOrders=true) (hts:ts.ok P) (hG:ConsOk P G) {f:FuncId} {fn:Func} {c:Code} (hf:P.funcs[f]? =some fn) (hb:fn.body=some c) (hname:(fn.name== "runtime.NumGoroutine")=false)
  (hc:b7 fn.ntmps c=true) {C:List SV→List Ob→Option HCon}
  (h:∀ l o con,C l o=some con→∃ p S H,con=ic p S H∧H.length=o.length∧(p→l.length≤fn.ntmps∧∃ L,am P none fn.ntmps L c∧exec ts G L c ⟨kU 0 l,o⟩ (Ov pks o.length fn.results.toList ts S H))):FnOkO P f C:=by
 refine⟨fun l o con _ args w=>?_,fun l o con hcon hpre F own w vs hp hvs=>?_⟩
 ·have hn:¬fn.name= "runtime.NumGoroutine":=by simpa using hname
  simp[callFunc,hf,hn,hb]
 ·obtain⟨p,S,H,rfl,hH,h2⟩:=h l o con hcon;obtain⟨hlen,L,hl,hx⟩:=h2 hpre;have hn0:∀ id hd,own id=some hd→id<o.length:=fun id hd e=>hp.dom id hd e;refine mh (n:=0) (callsIn_of_wp_marks hf hb trivial ?_);have hr:StRel F { w:=w,own:=own} fn.ntmps own ⟨kU 0 l,o⟩ { tmps:=vs++Array.replicate (fn.ntmps - vs.size) undef,defers:=[]} w:=
   ⟨by have:=hvs.1;simp;omega,Dfr.nil,hp,Fr.refl { w:=w,own:=own},fun t=>kh hvs _ t⟩
  refine wpIn_mono (lO hm hts hG c hc hl F _ _ hx own _ w hr) ?_;intro e a' w' hq;have key:∀ F1 own' st,(∀ b,F b→F1 b)→StRel F1 { w:=w,own:=own} fn.ntmps own' st a' w'→LI pks o.length S H st.h (j_ (ji ts st fn.results.toList))→LeavesInM (rd none) 0 P fn a'.tmps (fun e w'=>∃ r own',(ic p S H).post r∧BO F w own o.length e own' w' ((ic p S H).res r)) a'.defers .returning w':=by
   intro F1 own' st hF1 hst hdone;refine iC hst (by simp) fun w2 hst2=>?_;have hst3:=hst2.less hF1 rfl;cases hs:j_ (ji ts st fn.results.toList)with
   |none=>rw[hs]at hdone;exact hdone.elim
   |some s=>
    rw[hs]at hdone;obtain⟨hS,js,q3,q4⟩:=hdone;obtain⟨u,e1,e2⟩:=tq (P:=P) hts hst3 hs;obtain⟨k1,k2,_,_⟩:=zw q4 hst3.hp hst3.fr hn0 q3;refine⟨u,e1,(),gS js H own',trivial,⟨u,rfl,?_⟩,k1,k2,q3⟩;subst hS;exact wl ((Ou hst3.hp s u e2).over (Q5 s) fun b hb=>Hg q4.1.2.1 hH hb)
  cases e with
  |normal=>obtain⟨F1,own',st,h0,h1,h2⟩:=hq;exact key F1 own' st h0 h1 h2
  |ret=>obtain⟨F1,own',st,h0,h1,h2⟩:=hq;exact key F1 own' st h0 h1 h2
  |exit id=>obtain⟨F1,own',st,h0,h1,h2⟩:=hq;exact h2.elim
  |panic ch=>obtain⟨x,F1,own',st,h0,h1,h2,rfl⟩:=hq;exact h2.elim
  |_=>exact hq.elim
end
def C7 (n0:Nat)(h:List Ob):SV→SV
 | .agg l=>.agg (l.map (wP n0 h))
 |s=>wP n0 h s
def C8 (n0:Nat)(h:List Ob):SV→SV
 | .tup l=>.tup (l.map (C7 n0 h))
 |s=>C7 n0 h s
section
variable {F:Nat→Prop}{own:Own}{w:World}{n0:Nat}{h:List Ob}
theorem Hh (hp:Hp F own w h)(s:SV)(v:Value)(hr:Rel F own w s v):Rel F (CG n0 own) w (C7 n0 h s) v:=by
 cases s with
 |agg l=>
  cases hr with
  |agg h0 h1=>
   refine .agg (by simpa using h0) fun j s hj=>?_;obtain⟨x,hx,rfl⟩:=bW hj;exact za hp x _ (h1 j x hx)
 |_=>exact za hp _ _ hr
theorem Hi (hp:Hp F own w h)(s:SV)(v:Value)(hr:Rel F own w s v):Rel F (CG n0 own) w (C8 n0 h s) v:=by
 cases s with
 |tup l=>
  cases hr with
  |tup h0 h1=>
   refine .tup (by simpa using h0) fun j s hj=>?_;obtain⟨x,hx,rfl⟩:=bW hj;exact Hh hp x _ (h1 j x hx)
 |_=>exact Hh hp _ _ hr
theorem Kj (s:SV):PF (C7 n0 h s):=by
 cases s
 case agg l=>exact .agg fun j s hj=>by obtain⟨x,hx,rfl⟩:=bW hj;exact A5 x
 all_goals (unfold C7;exact A5 _)
theorem Q7 (s:SV):PF (C8 n0 h s):=by
 cases s
 case tup l=>exact .tup fun j s hj=>by obtain⟨x,hx,rfl⟩:=bW hj;exact Kj x
 all_goals (unfold C8;exact Kj _)
@[go_sem] theorem YK {l:List SV}:C8 n0 h (.tup l)=.tup (l.map (C7 n0 h)):=(rfl)
@[go_sem] theorem YL {l:List SV}:C8 n0 h (.agg l)=.agg (l.map (wP n0 h)):=(rfl)
@[go_sem] theorem abp {x:Value}:C8 n0 h (.v x)=.v x:=(rfl)
@[go_sem] theorem YM {l:List SV}:C7 n0 h (.agg l)=.agg (l.map (wP n0 h)):=(rfl)
@[go_sem] theorem abq {x:Value}:C7 n0 h (.v x)=.v x:=(rfl)
@[go_sem] theorem aar {k:Tag}{l:List k.T}:C7 n0 h (.rs k l)=.rs k l:=(rfl)
@[go_sem] theorem aas {id:Nat}:C7 n0 h (.os id)=IQ n0 id (aj h id):=(rfl)
end
def Fj (pks:List Pk)(n0:Nat)(S:SV)(H:List Ob)(h:List Ob):Option SV→Prop
 |some s=>S=tL pks (C8 n0 h s)∧jm ⟨[],H⟩ n0 ⟨[],h⟩
 |none=>False
def Kk (pks:List Pk)(n0:Nat)(rs:List ResultVar)(ts:Tis)(S:SV)(H:List Ob)(id:Nat)(st:St):Option SV→Prop
 |some s=>CX (aj st.h id)∧lu st.h=false∧Fj pks n0 S H (bg st.h id (.cells [s])) (j_ (ji ts ⟨st.t,bg st.h id (.cells [s])⟩ rs))
 |none=>False
def Kl (RC:Value→Option SV)(pks:List Pk)(n0:Nat)(rs:List ResultVar)(ts:Tis)(S:SV)(H:List Ob)(id:Nat):Ex→St→Prop
 | .exit _,_=>False
 | .normal,st=>Fj pks n0 S H st.h (j_ (ji ts st rs))
 | .ret,st=>Fj pks n0 S H st.h (j_ (ji ts st rs))
 | .pan x,st=>Kk pks n0 rs ts S H id st (RC x)
section
variable {RC:Value→Option SV}{pks:List Pk}{n0:Nat}{rs:List ResultVar}{ts:Tis}{S s:SV}{H h:List Ob}{id:Nat}{st:St}{x:Value}
@[go_sem] theorem Ww:Fj pks n0 S H h (some s)=(S=tL pks (C8 n0 h s)∧jm ⟨[],H⟩ n0 ⟨[],h⟩):=(rfl)
@[go_sem] theorem Uj:Kk pks n0 rs ts S H id st (some s)=(CX (aj st.h id)∧lu st.h=false∧Fj pks n0 S H (bg st.h id (.cells [s])) (j_ (ji ts ⟨st.t,bg st.h id (.cells [s])⟩ rs))):=(rfl)
@[go_sem] theorem Q8:Kl RC pks n0 rs ts S H id .normal st=Fj pks n0 S H st.h (j_ (ji ts st rs)):=(rfl)
@[go_sem] theorem Wx:Kl RC pks n0 rs ts S H id .ret st=Fj pks n0 S H st.h (j_ (ji ts st rs)):=(rfl)
@[go_sem] theorem Wy:Kl RC pks n0 rs ts S H id (.pan x) st=Kk pks n0 rs ts S H id st (RC x):=(rfl)
end
section
variable {P:Program}{ts:Tis}{G:Cons}
theorem Ox {g:FuncId}{RC:Value→Option SV}(hrec:GC P g RC)(pks:List Pk)(hm:P.follows .mixedOrders=true)(hts:ts.ok P)(hG:ConsOk P G){f:FuncId}{fn:Func}{c0 c1:Code}{i1 q:Nat}{o1:Oper}{tys:Array TypeId}
  (hf:P.funcs[f]? =some fn) (hb:fn.body=some (.seq c0 (.seq (.region i1 #[o1] false) c1))) (hname:(fn.name== "runtime.NumGoroutine")=false)
  (ho1:o1.dst=none∧o1.op=.defer ⟨.value (.func g),#[.tmp q],tys⟩∧o1.guard=none)
  (hc0:b7 fn.ntmps c0=true) (hc1:b7 fn.ntmps c1=true) {C:List SV→List Ob→Option HCon}
  (h:∀ l o con,C l o=some con→∃ p S H,con=ic p S H∧H.length=o.length∧(p→l.length≤fn.ntmps∧∃ L L' id,am P none fn.ntmps L c0∧am P none fn.ntmps L' c1∧exec ts G L c0 ⟨kU 0 l,o⟩ (fun e st=>e=.normal∧lk q st.t=.ptr id 0∧CX (aj st.h id)∧
   exec ts G L' c1 ⟨st.t,st.h⟩ (Kl RC pks o.length fn.results.toList ts S H id)))):FnOkO P f C:=by
 refine⟨fun l o con _ args w=>?_,fun l o con hcon hpre F own w vs hp0 hvs=>?_⟩
 ·have hn:¬fn.name= "runtime.NumGoroutine":=by simpa using hname
  simp[callFunc,hf,hn,hb]
 ·obtain⟨p,S,H,rfl,hH,h2⟩:=h l o con hcon;obtain⟨hlen,L,L',id,hl,hl',hx⟩:=h2 hpre;have hn0:∀ id hd,own id=some hd→id<o.length:=fun id hd e=>hp0.dom id hd e;refine mh (n:=0) (callsIn_of_wp_marks hf hb trivial ?_);have hr:StRel F { w:=w,own:=own} fn.ntmps own ⟨kU 0 l,o⟩ { tmps:=vs++Array.replicate (fn.ntmps - vs.size) undef,defers:=[]} w:=
   ⟨by have:=hvs.1;simp;omega,Dfr.nil,hp0,Fr.refl { w:=w,own:=own},fun t=>kh hvs _ t⟩
  refine wpIn_seq (wpIn_mono (lO hm hts hG c0 hc0 hl F _ _ hx own _ w hr) ?_);intro e a1 w1 hq;cases e with
  |normal=>
   obtain⟨F1,own1,st1,hF1,hst1,_,hlk,_,hx1⟩:=hq;have hsq:=hst1.slots q;rw[hlk]at hsq;generalize hv:a1.tmps.getD q undef=pv at hsq;cases hsq with
   | @ptr _ _ b hd ho hp=>
   show(Code.seq (.region i1 #[o1] false) c1).wpIn (rd none) 0 P _ a1 w1;have hsz:=hst1.size;refine wpIn_seq (xy ho1 hv ?_);show c1.wpIn (rd none) 0 P _ _ w1;obtain⟨ms,Ds,k0,k1,k2,k3⟩:=hst1.defers;have k0':a1.defers=ms:=by rw[k0];exact List.append_nil _
   let d:Deferred:= { target:=.fn (.func g) #[],args:= #[.pointer (some ⟨b,0,none⟩)]}
   let B:Bs:= { w:=w1,own:=own1,ds:=d::a1.defers}
   have hr2:StRel F1 B fn.ntmps own1 ⟨st1.t,st1.h⟩ { tmps:=a1.tmps,defers:=d::a1.defers} w1:=by
    exact⟨hsz,Dfr.nil,hst1.hp,Fr.refl B,hst1.slots⟩
   have hbd:∀ D∈Ds,¬ ∃ id hd,own1 id=some hd∧D∈hd.bs:=fun D hD ⟨i,hd,e,hm⟩ =>hst1.hp.apart i hd D e hm (k3 D hD).2.1;have fin:∀ F2 own2 st2 (a2:Act) w2,(∀ b,F1 b→F2 b)→StRel F2 B fn.ntmps own2 st2 a2 w2→Fj pks o.length S H st2.h (j_ (ji ts st2 fn.results.toList))→
     LeavesInM (rd none) 0 P fn a2.tmps (fun e w'=>∃ r own',(ic p S H).post r∧BO F w own o.length e own' w' ((ic p S H).res r)) a1.defers .returning w2:=by
    intro F2 own2 st2 a2 w2 hF2 hst2 hdone;have hB:StRel F2 { w:=w,own:=own} fn.ntmps own2 st2 { a2 with defers:=[]} w2:=⟨hst2.size,Dfr.nil,hst2.hp,hst1.fr.trans ⟨hst2.fr.ids,hst2.fr.base,hst2.fr.os,hst2.fr.tape,hst2.fr.output,hst2.fr.size,hst2.fr.block⟩,hst2.slots⟩;have hkeep:∀ D∈Ds,w2.heap[D]? =some (.deferred (some [])):=fun D hD=>by
     rw[hst2.fr.block D ⟨mW (k3 D hD).2.2,hbd D hD⟩];exact(k3 D hD).2.2
    rw[k0',←List.append_nil ms];refine ur (by simp) Ds ms w2 k1 k2 hkeep fun w4 hs=>?_;have hst4:=(hB.shut (Ds:=Ds) (fun D hD=>⟨(k3 D hD).1,hF2 D (k3 D hD).2.1,hkeep D hD⟩) hs).less (fun c hc=>hF2 c (hF1 c hc)) rfl;cases hres:j_ (ji ts st2 fn.results.toList)with
    |none=>rw[hres]at hdone;exact hdone.elim
    |some s=>
     obtain⟨u,e1,e2⟩:=tq (P:=P) hts hst4 hres;rw[hres]at hdone;obtain⟨hS,js,q3,q4⟩:=hdone;obtain⟨k1,k2,_,_⟩:=zw q4 hst4.hp hst4.fr hn0 q3;refine⟨u,e1,(),gS js H own2,trivial,⟨u,rfl,?_⟩,k1,k2,q3⟩;subst hS;exact wl ((Hi hst4.hp s u e2).over (Q7 s) fun b hb=>Hg q4.1.2.1 hH hb)
   have hinv:∀ w2:World,(invoke (.fn (.func g) #[]) #[.pointer (some ⟨b,0,none⟩)]).run P w2=.ok (.enter g #[.pointer (some ⟨b,0,none⟩)]) w2:=fun w2=>by simp[invoke,go_sem,hrec.1]
   refine wpIn_mono (lO hm hts hG c1 hc1 hl' F1 _ _ hx1 own1 _ w1 hr2) ?_;have idle:∀ (a':Act) (w':World) F2 own2 st2,(∀ b,F1 b→F2 b)→StRel F2 B fn.ntmps own2 st2 a' w'→Fj pks o.length S H st2.h (j_ (ji ts st2 fn.results.toList))→
     LeavesInM (rd none) 0 P fn a'.tmps (fun e w'=>∃ r own',(ic p S H).post r∧BO F w own o.length e own' w' ((ic p S H).res r)) a'.defers .returning w':=by
    intro a' w' F2 own2 st2 hF2 hst2 hdone;refine iC hst2 (by simp) fun w2 hst3=>?_;refine⟨by simp,.inr ⟨fun h=>(by cases h),.func g,#[],g,#[.pointer (some ⟨b,0,none⟩)],rfl,hinv w2,fun _ _=>trivial,?_⟩⟩;refine(hrec.2.1 ⟨b,0,none⟩ w2).mono ?_;rintro e u' w3 ⟨⟨v,rfl⟩,rfl,rfl⟩;exact fin F2 own2 st2 { a' with defers:=B.ds} _ hF2 hst3 hdone
   intro e a' w' hq;cases e with
   |normal=>obtain⟨F2,own2,st2,h0,h1,h2⟩:=hq;exact idle a' w' F2 own2 st2 h0 h1 h2
   |ret=>obtain⟨F2,own2,st2,h0,h1,h2⟩:=hq;exact idle a' w' F2 own2 st2 h0 h1 h2
   |exit jd=>obtain⟨F2,own2,st2,h0,h1,h2⟩:=hq;exact h2.elim
   |panic ch=>
    obtain⟨x,F2,own2,st2,h0,h1,hm,rfl⟩:=hq;change Kk pks o.length fn.results.toList ts S H id st2 (RC x)at hm;cases m1:RC x with
    |none=>rw[m1]at hm;exact hm.elim
    |some s=>
    rw[m1]at hm;obtain⟨hm2,m4,m3⟩:=hm;obtain⟨y,m2⟩:=B9 hm2;refine iC h1 (by simp) fun w2 hst3=>?_;refine⟨by simp,.inr ⟨fun h=>(by cases h),.func g,#[],g,#[.pointer (some ⟨b,0,none⟩)],rfl,hinv w2,fun _ _=>trivial,?_⟩⟩;obtain⟨hd2,e2,l2⟩:=hst3.fr.ids id hd ho;refine(hrec.2.2 x s m1 F2 own2 w2 st2.h id hd2 b y m4 hst3.hp m2 e2 (l2.1.trans hp)).mono ?_;rintro e u' w3 ⟨⟨v,rfl⟩,rfl,own3,q1,q2⟩;exact fin F2 own3 ⟨st2.t,_⟩ { a' with defers:=B.ds} w3 h0 (hst3.moved q1 q2) m3
   |_=>exact hq.elim
  |ret=>obtain⟨F1,own,st,h0,h1,h2,_⟩:=hq;cases h2
  |exit jd=>obtain⟨F1,own,st,h0,h1,h2,_⟩:=hq;cases h2
  |panic ch=>obtain⟨x,F1,own,st,h0,h1,⟨h2,_⟩,_⟩:=hq;cases h2
  |_=>exact hq.elim
end
end Go.Sx
end
section
namespace Go.Sx
open Go.Proofs
open IntKind (i64)
@[go_sem] noncomputable def Fk:List SV→Option Con:=(pQ (.v (.slice none 0 0)) (pE (.det True (.v (.slice none 0 0)))))
theorem Oy:FnOk Tryz.prog 65 Fk:=by
 have hG:ConsOk Tryz.prog (mkG [] []):=ap cg0 cg0;refine aw [.o] mixed al hG (fn:=Tryz.f65) (c:=ae Tryz.f65) kr kr kr kr (Uc (ai (fun hp=>?_)));dsimp only[ar]at hp;refine⟨nbl rfl,L0,ag _,?_⟩
 ·unfold ae Tryz.f65;exact zq1
@[go_sem] def lI (sides:List Int)(a1:Suit)(k_0:Nat)(s_0:List Int):Empty⊕(List Int):=(bif((sides.getD (Int.toNat (a1.facts.getD k_0 0)) 0) ==1)then .inr (s_0++([(a1.facts.getD k_0 0)]))else .inr s_0)
def fH (sides:List Int)(a1:Suit)(k_0:Nat)(s_0:List Int):Prop:=((0≤(a1.facts.getD k_0 0)∧(a1.facts.getD k_0 0) < (sides.length:Int))∧(((sides.getD (Int.toNat (a1.facts.getD k_0 0)) 0) ==1)=true→((s_0++([(a1.facts.getD k_0 0)])).length*8≤cW)))
@[go_sem] def lJ (sides:List Int)(a1:Suit)(k_1:Nat)(s_1:List Int):Empty⊕(List Int):=(bif((sides.getD (Int.toNat (a1.facts.getD k_1 0)) 0) ==0)then .inr (s_1++([(a1.facts.getD k_1 0)]))else .inr s_1)
def fI (sides:List Int)(a1:Suit)(k_1:Nat)(s_1:List Int):Prop:=((0≤(a1.facts.getD k_1 0)∧(a1.facts.getD k_1 0) < (sides.length:Int))∧(((sides.getD (Int.toNat (a1.facts.getD k_1 0)) 0) ==0)=true→((s_1++([(a1.facts.getD k_1 0)])).length*8≤cW)))
@[go_sem] def lK (sides:List Int)(a1:Suit)(k_2:Nat)(s_2:List Int):Empty⊕(List Int):=(bif((sides.getD (Int.toNat (a1.facts.getD k_2 0)) 0) ==1)then .inr (s_2++([(a1.facts.getD k_2 0)]))else .inr s_2)
def fJ (sides:List Int)(a1:Suit)(k_2:Nat)(s_2:List Int):Prop:=((0≤(a1.facts.getD k_2 0)∧(a1.facts.getD k_2 0) < (sides.length:Int))∧(((sides.getD (Int.toNat (a1.facts.getD k_2 0)) 0) ==1)=true→((s_2++([(a1.facts.getD k_2 0)])).length*8≤cW)))
@[go_sem] def lL (sides:List Int)(a1:Suit)(k_3:Nat)(s_3:List Int):Empty⊕(List Int):=(bif((sides.getD (Int.toNat (a1.facts.getD k_3 0)) 0) ==0)then .inr (s_3++([(a1.facts.getD k_3 0)]))else .inr s_3)
def fK (sides:List Int)(a1:Suit)(k_3:Nat)(s_3:List Int):Prop:=((0≤(a1.facts.getD k_3 0)∧(a1.facts.getD k_3 0) < (sides.length:Int))∧(((sides.getD (Int.toNat (a1.facts.getD k_3 0)) 0) ==0)=true→((s_3++([(a1.facts.getD k_3 0)])).length*8≤cW)))
def bF (sides:List Int)(a1:Suit)(cs:List Case):Case×Int:=letI q0:=({ sides:=sides,cases:=cs}:Cases);letI q1:=ip a1.plea a1.question;letI q2:=aP q0 a1.facts 0;letI q3:=cs.getD (Int.toNat (i64.wrap ((cs.length:Int) - 1))) default;letI q4:=aP q0 a1.facts 1;letI q5:=fF q0;letI q6:=jg a1.plea;(bif(q5 !=0)then(({ no:=0,hour:=0,winner:=0,facts:=[],reason:=[]}:Case),q5)else(bif(q6 !=0)then(({ no:=0,hour:=0,winner:=0,facts:=[],reason:=[]}:Case),q6)else(bif(an (q1.2==0) (q1.2))then(bif(an (q2.2.2==0) (q2.2.2))then(bif(an ((aO a1.no 0 1048576)&&(aO a1.hour 0 4096)) 520)then(bif(decide ((cs.length:Int) > 0))then(bif(an ((decide (a1.no > q3.no))&&(decide (a1.hour≥q3.hour))) 520)then(bif((!q2.2.1)&&(q4.2.1||(q1.1 !=1)))then(match aq (lI sides a1) a1.facts.length 0 ([])with| .inl x=>x.elim| .inr s_0=>(({ no:=a1.no,hour:=a1.hour,winner:=1,facts:=a1.facts,reason:=s_0}:Case),0))else(match aq (lJ sides a1) a1.facts.length 0 ([])with| .inl x=>x.elim| .inr s_1=>(({ no:=a1.no,hour:=a1.hour,winner:=0,facts:=a1.facts,reason:=s_1}:Case),0)))else(({ no:=0,hour:=0,winner:=0,facts:=[],reason:=[]}:Case),520))else(bif((!q2.2.1)&&(q4.2.1||(q1.1 !=1)))then(match aq (lK sides a1) a1.facts.length 0 ([])with| .inl x=>x.elim| .inr s_2=>(({ no:=a1.no,hour:=a1.hour,winner:=1,facts:=a1.facts,reason:=s_2}:Case),0))else(match aq (lL sides a1) a1.facts.length 0 ([])with| .inl x=>x.elim| .inr s_3=>(({ no:=a1.no,hour:=a1.hour,winner:=0,facts:=a1.facts,reason:=s_3}:Case),0))))else(({ no:=0,hour:=0,winner:=0,facts:=[],reason:=[]}:Case),520))else(({ no:=0,hour:=0,winner:=0,facts:=[],reason:=[]}:Case),(q2.2.2)))else(({ no:=0,hour:=0,winner:=0,facts:=[],reason:=[]}:Case),(q1.2)))))
def eN (sides:List Int)(a1:Suit)(cs:List Case):Prop:=letI q0:=({ sides:=sides,cases:=cs}:Cases);letI q2:=ip a1.plea a1.question;letI q3:=aP q0 a1.facts 0;letI q4:=aP q0 a1.facts 1;letI q5:=(cs.length:Int);letI q1:=i64.wrap (q5 - 1);letI q6:=cs.getD (Int.toNat q1) default;letI q7:=q2.1 !=1;letI q8:=decide (a1.no > q6.no);((fE q0)∧(((fF q0) !=0)=false→((ju a1.plea)∧(((jg a1.plea) !=0)=false→((j5 a1.plea a1.question)∧((an (q2.2==0) (q2.2))=true→((eJ q0 a1.facts 0)∧((an (q3.2.2==0) (q3.2.2))=true→((eJ q0 a1.facts 1)∧((an ((aO a1.no 0 1048576)&&(aO a1.hour 0 4096)) 520)=true→(cs.length≤aH→(((decide (q5 > 0))=true→((0≤q1∧q1<q5)∧((q8=true→(0≤q1∧q1<q5))∧((an (q8&&(decide (a1.hour≥q6.hour))) 520)=true→((((!q3.2.1)&&(q4.2.1||q7))=true→(a1.facts.length≤aH→okI (lI sides a1) (fH sides a1) a1.facts.length 0 ([])))∧(((!q3.2.1)&&(q4.2.1||q7))=false→(a1.facts.length≤aH→okI (lJ sides a1) (fI sides a1) a1.facts.length 0 ([]))))))))∧((decide (q5 > 0))=false→((((!q3.2.1)&&(q4.2.1||q7))=true→(a1.facts.length≤aH→okI (lK sides a1) (fJ sides a1) a1.facts.length 0 ([])))∧(((!q3.2.1)&&(q4.2.1||q7))=false→(a1.facts.length≤aH→okI (lL sides a1) (fK sides a1) a1.facts.length 0 ([])))))))))))))))))
noncomputable def mM:List SV→List Ob→Option HCon:=pf (fun x_:(List Int)×Suit×(List Case) =>[.agg [.rs .int x_.1,.os 0],.agg (cellsOf .suit x_.2.1)]) (fun x_=>[.row .case x_.2.2]) (fun x_=>ic (eN x_.1 x_.2.1 x_.2.2) (.tup [.agg (cellsOf .case ((bF x_.1 x_.2.1 x_.2.2).1)),.v (.int .i64 ((bF x_.1 x_.2.1 x_.2.2).2))]) [.row .case x_.2.2])
@[go_sem] theorem D7 (sides:List Int)(a1:Suit)(cs:List Case):mM ([.agg [.rs .int sides,.os 0],.agg [.v (.int .i64 a1.no),.v (.int .i64 a1.hour),.v (.int .i64 a1.question),.rs .int a1.plea.facts,.rs .clause a1.plea.clauses,.rs .int a1.facts]]) ([.row .case cs])=some (ic (eN sides a1 cs) (.tup [.agg (cellsOf .case ((bF sides a1 cs).1)),.v (.int .i64 ((bF sides a1 cs).2))]) [.row .case cs]):=ll (A:=fun x_:(List Int)×Suit×(List Case) =>[.agg [.rs .int x_.1,.os 0],.agg (cellsOf .suit x_.2.1)]) (H:=fun x_=>[.row .case x_.2.2]) (K:=fun x_=>ic (eN x_.1 x_.2.1 x_.2.2) (.tup [.agg (cellsOf .case ((bF x_.1 x_.2.1 x_.2.2).1)),.v (.int .i64 ((bF x_.1 x_.2.1 x_.2.2).2))]) [.row .case x_.2.2]) (x:=(sides,a1,cs))
theorem Km {l0:List Nat}(a0:JL l0){p:Prop}(h:JL l0→p:=by intro ja;simp only[go_sem,Nat.reduceBEq,Nat.reduceLeDiff,Nat.reduceLT,decide_true,Nat.reduceAdd,Nat.reduceSub,Nat.reduceMul,Int.reduceLE,Int.reduceLT,Int.reduceToNat,Int.reduceNeg,reduceCtorEq,hs0,hs1,p9,oj,RCJ];all_goals exact kW ja):p:=h a0
theorem vP:FnOkO Tryz.prog 24 mM:=by
 have hG:ConsOk Tryz.prog (mkG [(34,fun l=>ox (bo [.st .cases,.sl .int,.o] l)),(35,fun l=>sS (bo [.st .plea,.o] l)),(52,gb),(58,jM),(64,fun l=>kG (bo [.st .cases] l)),(67,fun l=>qA (bo [.st .plea] l))] []):=ap (cgc (rS.norm [.st .cases,.sl .int,.o]) (cgc (vF.norm [.st .plea,.o]) (cgc g_ (cgc lT (cgc (nF.norm [.st .cases]) (cgc (sO.norm [.st .plea]) cg0)))))) cg0;refine Ox EW [.st .case,.o] mixed al hG (fn:=Tryz.f24) (c0:=p9 (ae Tryz.f24)) (c1:=oj (oj (ae Tryz.f24))) (i1:=PR (p9 (oj (ae Tryz.f24)))) (o1:=M8 0 (p9 (oj (ae Tryz.f24)))) (q:=5) (tys:= #[104]) kr kr kr (by refine⟨?_,?_,?_⟩ <;>kernel_rfl) kr kr fun l o con h=>?_;obtain⟨⟨sides,a1,cs⟩,rfl,rfl,rfl⟩:=jo h;clear h;try dsimp only
 refine⟨_,_,_,rfl,rfl,fun hp=>?_⟩;unfold eN at hp;rcases Bool.eq_false_or_eq_true (decide ((cs.length:Int) > 0))with hs0|hs0 <;>rcases Bool.eq_false_or_eq_true ((!(aP ({ sides:=sides,cases:=cs}:Cases) a1.facts 0).2.1)&&((aP ({ sides:=sides,cases:=cs}:Cases) a1.facts 1).2.1||((ip a1.plea a1.question).1 !=1)))with hs1|hs1
 ·have hsp:True:=trivial;refine⟨nbl rfl,L0,(fun id st=>bif Nat.beq id 0 then some (LCR (ρ:=Empty) (σ:=(List Int)) 5 [.cell 3 4 (.row .int ([]))] [0,1,2,3,4,5] (fun k_0 s_0=>⟨[(2,.ptr 1 0),(4,.ptr 3 0),(5,.ptr 4 0),(115,.rs .int a1.facts),(116,.v (.int .i64 (a1.facts.length:Int))),(117,.v (.int .i64 (k_0:Int)))],[.row .case cs,.cells [.rs .int sides,.os 0],.dead,.cells [.v (.int .i64 a1.no),.v (.int .i64 a1.hour),.v (.int .i64 1),.rs .int a1.facts,.os 5],.cells [.v (.int .i64 ((aP ({ sides:=sides,cases:=cs}:Cases) a1.facts 0).2.2))],.row .int s_0]⟩) (lI sides a1) (fH sides a1) a1.facts.length ([]) (a1.facts.length≤aH) ((·.elim)) ((·.elim)) st)else none),4,?_,?_,?_⟩
  ·unfold ae Tryz.f24;simp only[p9,am,and_self,true_and,and_true]
  ·unfold ae Tryz.f24;simp only[oj];simp only[am,true_and,and_true]
   ·refine aY mixed al hG kr (fun _=>rfl) (a1.facts.length:Int) rfl ig (fun hb0 k_0 s_0 hlt0 hq0 hw hc=>⟨L0,ag _,?_⟩) (fun hb0 s_0 hc=>?_)
    ·unfold fH at hq0;try simp only[hw,Int.toNat_natCast]at hq0
     exact kX (jl [0,1,2,3,4,7]) (jl [0,1,2,3,4,5])
    ·exact jL (jl [0,1,2,3,4,7]) (jl [0,1,2,3,4,5])
  ·unfold ae Tryz.f24;try unfold bF
   exact Km (jl [0])
 ·have hsp:True:=trivial;refine⟨nbl rfl,L0,(fun id st=>bif Nat.beq id 0 then some (LCR (ρ:=Empty) (σ:=(List Int)) 5 [.cell 3 4 (.row .int ([]))] [0,1,2,3,4,5] (fun k_1 s_1=>⟨[(2,.ptr 1 0),(4,.ptr 3 0),(5,.ptr 4 0),(115,.rs .int a1.facts),(116,.v (.int .i64 (a1.facts.length:Int))),(117,.v (.int .i64 (k_1:Int)))],[.row .case cs,.cells [.rs .int sides,.os 0],.dead,.cells [.v (.int .i64 a1.no),.v (.int .i64 a1.hour),.v (.int .i64 0),.rs .int a1.facts,.os 5],.cells [.v (.int .i64 ((aP ({ sides:=sides,cases:=cs}:Cases) a1.facts 0).2.2))],.row .int s_1]⟩) (lJ sides a1) (fI sides a1) a1.facts.length ([]) (a1.facts.length≤aH) ((·.elim)) ((·.elim)) st)else none),4,?_,?_,?_⟩
  ·unfold ae Tryz.f24;simp only[p9,am,and_self,true_and,and_true]
  ·unfold ae Tryz.f24;simp only[oj];simp only[am,true_and,and_true]
   ·refine aY mixed al hG kr (fun _=>rfl) (a1.facts.length:Int) rfl ig (fun hb1 k_1 s_1 hlt1 hq1 hw hc=>⟨L0,ag _,?_⟩) (fun hb1 s_1 hc=>?_)
    ·unfold fI at hq1;try simp only[hw,Int.toNat_natCast]at hq1
     exact kX (jl [0,1,2,3,4,7]) (jl [0,1,2,3,4,5])
    ·exact jL (jl [0,1,2,3,4,7]) (jl [0,1,2,3,4,5])
  ·unfold ae Tryz.f24;try unfold bF
   exact Km (jl [0])
 ·have hsp:True:=trivial;refine⟨nbl rfl,L0,(fun id st=>bif Nat.beq id 0 then some (LCR (ρ:=Empty) (σ:=(List Int)) 5 [.cell 3 4 (.row .int ([]))] [0,1,2,3,4,5] (fun k_2 s_2=>⟨[(2,.ptr 1 0),(4,.ptr 3 0),(5,.ptr 4 0),(115,.rs .int a1.facts),(116,.v (.int .i64 (a1.facts.length:Int))),(117,.v (.int .i64 (k_2:Int)))],[.row .case cs,.cells [.rs .int sides,.os 0],.dead,.cells [.v (.int .i64 a1.no),.v (.int .i64 a1.hour),.v (.int .i64 1),.rs .int a1.facts,.os 5],.cells [.v (.int .i64 ((aP ({ sides:=sides,cases:=cs}:Cases) a1.facts 0).2.2))],.row .int s_2]⟩) (lK sides a1) (fJ sides a1) a1.facts.length ([]) (a1.facts.length≤aH) ((·.elim)) ((·.elim)) st)else none),4,?_,?_,?_⟩
  ·unfold ae Tryz.f24;simp only[p9,am,and_self,true_and,and_true]
  ·unfold ae Tryz.f24;simp only[oj];simp only[am,true_and,and_true]
   ·refine aY mixed al hG kr (fun _=>rfl) (a1.facts.length:Int) rfl ig (fun hb2 k_2 s_2 hlt2 hq2 hw hc=>⟨L0,ag _,?_⟩) (fun hb2 s_2 hc=>?_)
    ·unfold fJ at hq2;try simp only[hw,Int.toNat_natCast]at hq2
     exact kX (jl [0,1,2,3,4,7]) (jl [0,1,2,3,4,5])
    ·exact jL (jl [0,1,2,3,4,7]) (jl [0,1,2,3,4,5])
  ·unfold ae Tryz.f24;try unfold bF
   exact Km (jl [0])
 ·have hsp:True:=trivial;refine⟨nbl rfl,L0,(fun id st=>bif Nat.beq id 0 then some (LCR (ρ:=Empty) (σ:=(List Int)) 5 [.cell 3 4 (.row .int ([]))] [0,1,2,3,4,5] (fun k_3 s_3=>⟨[(2,.ptr 1 0),(4,.ptr 3 0),(5,.ptr 4 0),(115,.rs .int a1.facts),(116,.v (.int .i64 (a1.facts.length:Int))),(117,.v (.int .i64 (k_3:Int)))],[.row .case cs,.cells [.rs .int sides,.os 0],.dead,.cells [.v (.int .i64 a1.no),.v (.int .i64 a1.hour),.v (.int .i64 0),.rs .int a1.facts,.os 5],.cells [.v (.int .i64 ((aP ({ sides:=sides,cases:=cs}:Cases) a1.facts 0).2.2))],.row .int s_3]⟩) (lL sides a1) (fK sides a1) a1.facts.length ([]) (a1.facts.length≤aH) ((·.elim)) ((·.elim)) st)else none),4,?_,?_,?_⟩
  ·unfold ae Tryz.f24;simp only[p9,am,and_self,true_and,and_true]
  ·unfold ae Tryz.f24;simp only[oj];simp only[am,true_and,and_true]
   ·refine aY mixed al hG kr (fun _=>rfl) (a1.facts.length:Int) rfl ig (fun hb3 k_3 s_3 hlt3 hq3 hw hc=>⟨L0,ag _,?_⟩) (fun hb3 s_3 hc=>?_)
    ·unfold fK at hq3;try simp only[hw,Int.toNat_natCast]at hq3
     exact kX (jl [0,1,2,3,4,7]) (jl [0,1,2,3,4,5])
    ·exact jL (jl [0,1,2,3,4,7]) (jl [0,1,2,3,4,5])
  ·unfold ae Tryz.f24;try unfold bF
   exact Km (jl [0])
@[go_sem] def qp (sides:List Int)(l_:List Suit)(k_0:Nat)(s_0:List Case):Int⊕(List Case):=letI q0:=bF sides (l_.getD k_0 default) s_0;letI q1:=s_0++([(q0.1)]);(bif(q0.2 !=0)then .inl (q0.2)else(bif(decide ((q1.length:Int) > 64))then .inl 2 else .inr q1))
def iL (sides:List Int)(l_:List Suit)(k_0:Nat)(s_0:List Case):Prop:=((eN sides (l_.getD k_0 default) s_0)∧(((bF sides (l_.getD k_0 default) s_0).2 !=0)=false→((s_0++([((bF sides (l_.getD k_0 default) s_0).1)])).length*72≤cW)))
def qB (sides:List Int)(l_:List Suit):Cases×Int:=letI q0:=fF ({ sides:=sides,cases:=[]}:Cases);letI q1:=({ sides:=[],cases:=[]}:Cases);(bif(q0 !=0)then(q1,q0)else(match aq (qp sides l_) l_.length 0 ([])with| .inl x_0_0=>(q1,x_0_0) | .inr s_0=>(({ sides:=sides,cases:=s_0}:Cases),0)))
def iV (sides:List Int)(l_:List Suit):Prop:=((fE ({ sides:=sides,cases:=[]}:Cases))∧(((fF ({ sides:=sides,cases:=[]}:Cases)) !=0)=false→(l_.length≤aH→okI (qp sides l_) (iL sides l_) l_.length 0 ([]))))
@[go_sem] def vG:List SV→Option Con:=(pCN fun sides=>(pR .suit fun l_=>(pE (.det (iV sides l_) (.tup [.agg (cellsOf .cases ((qB sides l_).1)),.v (.int .i64 ((qB sides l_).2))])))))
theorem YN {p:Prop}(h:p:=by simp only[go_sem,Nat.reduceBEq,Nat.reduceLeDiff,Nat.reduceLT,decide_true,Nat.reduceAdd,Nat.reduceSub,Nat.reduceMul,Int.reduceLE,Int.reduceLT,Int.reduceToNat,Int.reduceNeg,reduceCtorEq,Fk];all_goals exact cl):p:=h
theorem zU:FnOk Tryz.prog 21 vG:=by
 have hG:ConsOk Tryz.prog (mkG [(24,fun l=>sU (bo [.st .cases,.st .suit] l)),(64,fun l=>kG (bo [.st .cases] l)),(65,Fk)] [(24,mM)]):=ap (cgc (xf.norm [.st .cases,.st .suit]) (cgc (nF.norm [.st .cases]) (cgc Oy cg0))) (cgc vP cg0);refine aw [.st .cases,.o] mixed al hG (fn:=Tryz.f21) (c:=ae Tryz.f21) kr kr kr kr (Q4 fun sides=>(bJ fun l_=>(ai (fun hp=>?_))));dsimp only[ar]at hp;unfold iV at hp;refine⟨nbl rfl,(fun id st=>bif Nat.beq id 0 then some (LCR (ρ:=Int) (σ:=(List Case)) 2 [.cell 0 1 (.row .case ([]))] [0,1,2] (fun k_0 s_0=>⟨[(2,.ptr 0 0),(4,.ptr 1 0),(20,.rs .suit l_),(21,.v (.int .i64 (l_.length:Int))),(22,.v (.int .i64 (k_0:Int)))],[.cells [.rs .int sides,.os 2],.cells [.v (.slice none 0 0),.v (.slice none 0 0)],.row .case s_0]⟩) (qp sides l_) (iL sides l_) l_.length ([]) (l_.length≤aH) (fun _=>.ret) (fun x_0_0=>⟨[(4,.ptr 1 0),(5,.v (.int .i64 x_0_0))],[.dead,.cells [.v (.slice none 0 0),.v (.slice none 0 0)],.dead]⟩) st)else none),?_,?_⟩
 ·unfold ae Tryz.f21;simp only[am,true_and,and_true]
  ·refine aY mixed al hG kr (fun _=>rfl) (l_.length:Int) rfl ig (fun hb0 k_0 s_0 hlt0 hq0 hw hc=>⟨L0,ag _,?_⟩) (fun hb0 s_0 hc=>?_)
   ·unfold iL at hq0;try simp only[hw,Int.toNat_natCast]at hq0
    exact kX (jl [0,1,6]) (jl [0,1,2])
   ·exact jL (jl [0,1,6]) (jl [0,1,2])
 ·unfold ae Tryz.f21;try unfold qB
  exact YN

end Go.Sx
end
section
namespace Go.Sx
open Go.RowKit
def Uk (h:List Ob):Option Con→Option HCon
 |some (.det p s) =>some (ic p (AN 0 (aG 3 s) (ia 3 0 s)) (h.map fun _=>.dead))
 |_=>none
def eatC (C:List SV→Option Con)(l:List SV)(h:List Ob):Option HCon:=Uk h (C (l.map (fg h 6)))
@[go_sem] theorem aat {C:List SV→Option Con}{l:List SV}{h:List Ob}:eatC C l h=Uk h (C (l.map (fg h 6))):=(rfl)
@[go_sem] theorem YO {h:List Ob}{p:Prop}{s:SV}:Uk h (some (.det p s))=some (ic p (AN 0 (aG 3 s) (ia 3 0 s)) (h.map fun _=>.dead)):=(rfl)
section
variable {P:Program}{F:Nat→Prop}{own:Own}{w w':World}
def Oz (own:Own):Own:=fun i=>(own i).map fun hd=>{ hd with bs:=[]}
theorem Q9 {b:Nat}(hb:¬F b):¬bO F (Oz own) b:=by
 rintro (hf| ⟨id,hd,e,hm⟩)
 ·exact hb hf
 ·unfold Oz at e;cases h:own id with
  |none=>rw[h]at e;cases e
  |some x=>rw[h]at e;cases e;cases hm
end
def Kn (h:List Ob):Option Con→Option HCon
 |some (.det p s) =>some (ic p (C8 0 (aG 3 s) (ia 3 0 s)) (h.map fun _=>.dead))
 |_=>none
def Hj (C:List SV→Option Con)(l:List SV)(h:List Ob):Option HCon:=Kn h (C (l.map (fg h 6)))
@[go_sem] theorem YP {C:List SV→Option Con}{l:List SV}{h:List Ob}:Hj C l h=Kn h (C (l.map (fg h 6))):=(rfl)
@[go_sem] theorem Wz {h:List Ob}{p:Prop}{s:SV}:Kn h (some (.det p s))=some (ic p (C8 0 (aG 3 s) (ia 3 0 s)) (h.map fun _=>.dead)):=(rfl)
section
variable {P:Program}{F:Nat→Prop}{own:Own}{w w':World}
theorem FnOk.eat2 {f:FuncId}{C:List SV→Option Con}(hf:FnOk P f C):FnOkO P f (Hj C) where
 enter:=fun l h c e=>by
  unfold Hj at e;cases hc:C (l.map (fg h 6))with
  |none=>rw[hc]at e;cases e
  |some c'=>exact hf.enter _ c' hc
 calls:=fun l h c e hp F own w vs hH hr=>by
  unfold Hj at e;cases hc:C (l.map (fg h 6))with
  |none=>rw[hc]at e;cases e
  |some c'=>
   rw[hc]at e;cases c' with
   |det p s=>
    simp only[Kn,Option.some.injEq]at e;subst e;have n0:∀ {F':Nat→Prop} {w1:World},(∀ b,F' b→b<w1.heap.size)→Hp F' b_ w1 []:=fun hf=>⟨(fun id hd h=>by cases h),hf,(fun id hd b h=>by cases h),(fun i j hi hj b h=>by cases h),(fun id hd b h=>by cases h),(fun id h=>by cases h)⟩;have hE:∀ {id:Nat} {hd:Hd},Oz own id=some hd→hd.bs=[]∧id<h.length:=fun {id hd} h=>by
     unfold Oz at h;cases ho:own id with
     |none=>rw[ho]at h;cases h
     |some x=>rw[ho]at h;cases h;exact⟨rfl,hH.dom id x ho⟩
    refine(hf.calls _ _ hc hp F w vs hH.foreign ⟨by simpa using hr.1,fun j s hj=>?_⟩).mono ?_
    ·obtain⟨x,hx,rfl⟩:=bW hj;exact uZ hH 6 x _ (hr.2 j x hx)
    ·rintro e w' (⟨s',u,own',h1,h2,h3,h4⟩ | ⟨x,hx,_⟩)
     ·cases h1;obtain⟨own2,q1,q2,q3,q4⟩:=zu (n0 hH.foreign) (.inl fun b=>⟨fun h=>.inl h,fun h=>h.elim id fun⟨_,_,h,_⟩ =>by cases h⟩) h4 h3;have q5:=Hi (n0:=0) q1 _ _ q3;refine⟨(),Oz own,trivial,⟨u,h2,?_⟩,?_,?_,by simp⟩
      ·refine q5.carry ⟨fun id hd h=>by simp[CG]at h,fun b _ hb=>⟨Q9 fun hf=>hb (.inl hf),rfl⟩⟩
      ·refine⟨fun id hd h=>by rw[List.length_map];exact(hE h).2,fun b hb=>Nat.lt_of_lt_of_le (hH.foreign b hb) h4.size,fun id hd b h hm=>?_,fun i j hi hj b h _ hm=>?_,fun id hd b h hm=>?_,fun id hd=>?_⟩
       ·rw[(hE h).1]at hm;cases hm
       ·rw[(hE h).1]at hm;cases hm
       ·rw[(hE h).1]at hm;cases hm
       ·rw[qt,List.getElem?_map]at hd;cases ho:h[id]? <;>rw[ho]at hd <;>simp[cD]at hd
      ·refine⟨fun id hd h=>?_,fun id hd b h hm=>?_,h4.os,h4.tape,h4.output,h4.size,fun k hk=>h4.block k hk.1⟩
       ·exact⟨{ hd with bs:=[]},by show(own id).map _=_;rw[show own id=some hd from h];rfl,rfl,rfl,rfl⟩
       ·rw[(hE h).1]at hm;cases hm
     ·cases hx
   |_=>cases e
end
end Go.Sx
end
section
namespace Go.Sx
open Go.Proofs
open IntKind (i64)
def mN:=([(eE 0 0 3 4),(eE 1 1 3 4),(eE 2 0 3 1),(eE 0 0 5 4)])
def py:=([({ no:=0,hour:=0,kind:=1,farm:=0,other:=0,since:=0,to:=0,n:=1,of_:=0}:Judgement)])
def j6:=([({ no:=1,hour:=0,kind:=3,farm:=0,other:=2,since:=0,to:=7,n:=5,of_:=0}:Judgement)])
def mO:=([(eE 0 0 3 3),(eE 0 2 3 1),(eE 1 1 3 4),(eE 2 2 3 4),(eE 0 2 5 4)])
def mP:=(aN cB py)
def iM:=(av cB iu j6)
def mQ:=(iM.1)
def gu:=([({ no:=1,hour:=3,kind:=2,farm:=0,other:=0,since:=0,to:=4,n:=5,of_:=0}:Judgement),({ no:=2,hour:=4,kind:=4,farm:=1,other:=2,since:=0,to:=0,n:=9,of_:=0}:Judgement)])
def mR:=([({ no:=4,hour:=0,question:=1,plea:=({ facts:=[1],clauses:=[]}:Plea),facts:=[0,1]}:Suit),({ no:=5,hour:=0,question:=2,plea:=({ facts:=[],clauses:=[]}:Plea),facts:=[0]}:Suit)])
def iN:=(qB ([0,1]) mR)
def g6:=(ax cB gu 4)
def gw:=(g6.1)
def iO:=((iN.1).cases)
def iP:=(av cB iu gu)
def mS:=(iP.1)
def dY:=(gw.length:Int)
def mT:=(gw.getD 2 (0:Int))
def lm:=(gw.getD 1 (0:Int))
def jv:=(gw.getD 0 (0:Int))
def eO:=(iO.length:Int)
def jw:=(iO.getD 1 (default:Case))
def f7:=(iO.getD 0 (default:Case))
def nV:=(kA mQ mO)
def ln:=(f7.reason)
def jx:=(ln.length:Int)
def lp:=(ln.getD 0 (0:Int))
def nW:=(kA mS mN)
def qq:Bool:=(bif(((((iP.2 !=0) ||(iM.2 !=0)) ||(g6.2 !=0)) ||((ax cB ([]) 9).2 !=1)) ||(mP !=530))then false else(bif(!nW)then false else(bif(!nV)then false else(bif((((dY !=3) ||(jv !=0)) ||(lm !=9)) ||(mT !=(-9)))then false else(bif(((iN.2 !=0) ||(eO !=2)) ||(jx !=1))then false else((((f7.winner==0)&&(lp==0))&&(jw.winner==0))&&(jw.no==5)))))))
def pz:Prop:=((qx)∧((cF cB iu gu)∧((cF cB iu j6)∧((cP cB gu 4)∧((cP cB ([]) 9)∧((((((iP.2 !=0) ||(iM.2 !=0)) ||(g6.2 !=0)) ||((ax cB ([]) 9).2 !=1))=false→(gf cB py))∧((((((iP.2 !=0) ||(iM.2 !=0)) ||(g6.2 !=0)) ||((ax cB ([]) 9).2 !=1)) ||(mP !=530))=false→((m_ mS mN)∧((!nW)=false→((m_ mQ mO)∧((!nV)=false→(gw.length≤aH→(((dY !=3)=false→(0≤0∧0<dY))∧((((dY !=3) ||(jv !=0))=false→(0≤1∧1<dY))∧(((((dY !=3) ||(jv !=0)) ||(lm !=9))=false→(0≤2∧2<dY))∧(((((dY !=3) ||(jv !=0)) ||(lm !=9)) ||(mT !=(-9)))=false→((iV ([0,1]) mR)∧((((iN.2 !=0) ||(eO !=2))=false→(0≤0∧0<eO))∧((((iN.2 !=0) ||(eO !=2)) ||(jx !=1))=false→((0≤0∧0<eO)∧(((f7.winner==0)=true→(0≤0∧0<eO))∧(((f7.winner==0)=true→(0≤0∧0<jx))∧((((f7.winner==0)&&(lp==0))=true→(0≤1∧1<eO))∧((((f7.winner==0)&&(lp==0))&&(jw.winner==0))=true→(0≤1∧1<eO)))))))))))))))))))))))))
@[go_sem] def zb:List SV→Option Con:=(pE (.det (pz) (.v (.bool (qq)))))
theorem C9:FnOk Tryz.prog 10 zb:=by
 have hG:ConsOk Tryz.prog (mkG [(12,fun l=>nB (bo [.st .district,.sl .claim,.sl .judgement] l)),(14,fun l=>pe (bo [.st .district,.sl .judgement,.o] l)),(16,fun l=>i5 (bo [.st .district,.sl .judgement] l)),(18,fun l=>va (bo [.sl .claim,.sl .claim] l)),(38,xA),(39,xB),(40,tQ)] [(21,Hj (fun l=>vG (bo [.o,.sl .suit] l)))]):=ap (cgc (qR.norm [.st .district,.sl .claim,.sl .judgement]) (cgc (sC.norm [.st .district,.sl .judgement,.o]) (cgc (kE.norm [.st .district,.sl .judgement]) (cgc (xw.norm [.sl .claim,.sl .claim]) (cgc Ci (cgc Cj (cgc wz cg0))))))) (cgc (FnOk.eat2 (zU.norm [.o,.sl .suit])) cg0);refine aw [.o] mixed al hG (fn:=Tryz.f10) (c:=ae Tryz.f10) kr kr kr kr (ai (fun hp=>?_));dsimp only[ar]at hp;unfold pz at hp;try simp only[mN,py,j6,mO,mP,iM,mQ,gu,mR,iN,g6,gw,iO,iP,mS,dY,mT,lm,jv,eO,jw,f7,nV,ln,jx,lp,nW]at hp
 refine⟨nbl rfl,L0,ag _,?_⟩
 ·unfold ae Tryz.f10;try unfold qq
  simp (maxSteps:=1000000) only[go_sem,Nat.reduceBEq,Nat.reduceLeDiff,Nat.reduceLT,decide_true,Nat.reduceAdd,Nat.reduceSub,Nat.reduceMul,Int.reduceLE,Int.reduceLT,Int.reduceToNat,Int.reduceNeg,reduceCtorEq,mN,py,j6,mO,mP,iM,mQ,gu,mR,iN,g6,gw,iO,iP,mS,dY,mT,lm,jv,eO,jw,f7,nV,ln,jx,lp,nW];all_goals exact cl
instance decR {ρ σ:Type}{P:σ→Prop}[∀ s,Decidable (P s)]:(x:ρ⊕σ)→Decidable (∀ s,x=.inr s→P s)
 | .inl _=>.isTrue fun _ e=>nomatch e
 | .inr s=>match (inferInstance:Decidable (P s))with
  | .isTrue h=>.isTrue fun _ e=>by cases e;exact h
  | .isFalse h=>.isFalse fun g=>h (g s rfl)
instance decX {ρ σ:Type}{P:ρ→Prop}[∀ s,Decidable (P s)]:(x:ρ⊕σ)→Decidable (∀ s,x=.inl s→P s)
 | .inr _=>.isTrue fun _ e=>nomatch e
 | .inl s=>match (inferInstance:Decidable (P s))with
  | .isTrue h=>.isTrue fun _ e=>by cases e;exact h
  | .isFalse h=>.isFalse fun g=>h (g s rfl)
instance decN {ρ σ:Type}:(x:ρ⊕σ)→Decidable (∀ s,x≠ .inr s)
 | .inl _=>.isTrue fun _ e=>nomatch e
 | .inr s=>.isFalse fun g=>g s rfl
def YQ {ρ σ:Type}(step:Nat→σ→ρ⊕σ)(p:Nat→σ→Prop)(D:∀ k s,Decidable (p k s)):(n i:Nat)→(s:σ)→Decidable (okI step p n i s)
 |0,_,_=>.isTrue trivial
 |n+1,i,s=>match D i s with
  | .isFalse h=>.isFalse fun g=>h g.1
  | .isTrue h=>match e:step i s with
   | .inl _=>.isTrue ⟨h,fun s' e'=>by rw[e]at e';cases e'⟩
   | .inr s'=>match YQ step p D n (i+1) s' with
    | .isTrue g=>.isTrue ⟨h,fun s'' e'=>by rw[e]at e';cases e';exact g⟩
    | .isFalse g=>.isFalse fun q=>g (q.2 s' e)
def YR {ρ σ τ:Type}(step:τ→σ→ρ⊕σ)(p:τ→σ→Prop)(D:∀ k s,Decidable (p k s)):(l:List τ)→(s:σ)→Decidable (okL step p l s)
 | [],_=>.isTrue trivial
 |x::l,s=>match D x s with
  | .isFalse h=>.isFalse fun g=>h g.1
  | .isTrue h=>match e:step x s with
   | .inl _=>.isTrue ⟨h,fun s' e'=>by rw[e]at e';cases e'⟩
   | .inr s'=>match YR step p D l s' with
    | .isTrue g=>.isTrue ⟨h,fun s'' e'=>by rw[e]at e';cases e';exact g⟩
    | .isFalse g=>.isFalse fun q=>g (q.2 s' e)
instance decI' {ρ σ:Type}{step:Nat→σ→ρ⊕σ}{p:Nat→σ→Prop}[D:∀ k s,Decidable (p k s)]{n i:Nat}{s:σ}:Decidable (okI step p n i s):=YQ step p D n i s
instance decL' {ρ σ τ:Type}{step:τ→σ→ρ⊕σ}{p:τ→σ→Prop}[D:∀ k s,Decidable (p k s)]{l:List τ}{s:σ}:Decidable (okL step p l s):=YR step p D l s
instance precedents_read_l0_p_d (a0:Cases)(k_0:Nat)(s_0:Int×Int):Decidable (gT a0 k_0 s_0):=by unfold gT;repeat (first|infer_instance|refine @instDecidableAnd _ _ ?_ ?_|refine @instDecidableForall _ _ ?_ ?_)
instance precedents_of_l0_p_d (l_:List Int)(many:Int)(k_0:Nat)(s_0:Int×Int):Decidable (iG l_ many k_0 s_0):=by unfold iG;repeat (first|infer_instance|refine @instDecidableAnd _ _ ?_ ?_|refine @instDecidableForall _ _ ?_ ?_)
instance precedents_of_p_d (l_:List Int)(many:Int):Decidable (hM l_ many):=by unfold hM;repeat (first|infer_instance|refine @instDecidableAnd _ _ ?_ ?_|refine @instDecidableForall _ _ ?_ ?_)
instance precedents_read_l1_p_d (a0:Cases)(s_0:Int×Int)(k_1:Nat)(s_1:List PrecedentsDecided×Int×Int×Int):Decidable (gU a0 s_0 k_1 s_1):=by unfold gU;repeat (first|infer_instance|refine @instDecidableAnd _ _ ?_ ?_|refine @instDecidableForall _ _ ?_ ?_)
instance precedents_read_p_d (a0:Cases):Decidable (g8 a0):=by unfold g8;repeat (first|infer_instance|refine @instDecidableAnd _ _ ?_ ?_|refine @instDecidableForall _ _ ?_ ?_)
instance precedents_Check_p_d (b:Cases):Decidable (fE b):=by unfold fE;repeat (first|infer_instance|refine @instDecidableAnd _ _ ?_ ?_|refine @instDecidableForall _ _ ?_ ?_)
instance pleas_rising_l0_p_d (l_:List Int)(k_0:Nat)(s_0:Unit):Decidable (je l_ k_0 s_0):=by unfold je;repeat (first|infer_instance|refine @instDecidableAnd _ _ ?_ ?_|refine @instDecidableForall _ _ ?_ ?_)
instance pleas_rising_p_d (l_:List Int):Decidable (jS l_):=by unfold jS;repeat (first|infer_instance|refine @instDecidableAnd _ _ ?_ ?_|refine @instDecidableForall _ _ ?_ ?_)
instance pleas_Check_l0_p_d (a0:Plea)(k_0:Nat)(s_0:Bool×Int):Decidable (jY a0 k_0 s_0):=by unfold jY;repeat (first|infer_instance|refine @instDecidableAnd _ _ ?_ ?_|refine @instDecidableForall _ _ ?_ ?_)
instance pleas_strict_p_d (p:Plea):Decidable (iK p):=by unfold iK;repeat (first|infer_instance|refine @instDecidableAnd _ _ ?_ ?_|refine @instDecidableForall _ _ ?_ ?_)
theorem Hk {ρ σ:Type}{step:Nat→σ→ρ⊕σ}{p q:Nat→σ→Prop}(h:∀ k s,p k s→q k s):∀ (n i:Nat) (s:σ),okI step p n i s→okI step q n i s
 |0,_,_,_=>trivial
 |n+1,i,s,g=>⟨h i s g.1,fun s' e=>Hk h n (i+1) s' (g.2 s' e)⟩
def Ul (k_0:Nat)(s_0:List Int×Int):Prop:=(decide (s_0.2≤32))=true→(s_0.2 !=0)=true→aR[s_0.1.length]? =some s_0.2
instance litq_d (k_0:Nat)(s_0:List Int×Int):Decidable (Ul k_0 s_0):=by unfold Ul;infer_instance
theorem YS:eK ((aR).map CE):=by
 refine⟨Hk (p:=Ul) (fun k s h=>?_) 66 0 _ (of_decide_eq_true kr),of_decide_eq_true kr,fun x e=>?_⟩
 ·intro h1;refine⟨fun h2=>?_,fun h2=>h2⟩;rw[List.getElem?_map,h h1 h2];rfl
 ·rw[List.length_map];unfold aR;rw[e]
instance pleas_literals_1_p_d:Decidable (eK ((aR).map CE)):=.isTrue YS
instance pleas_Check_p_d (a0:Plea):Decidable (ju a0):=by unfold ju;repeat (first|infer_instance|refine @instDecidableAnd _ _ ?_ ?_|refine @instDecidableForall _ _ ?_ ?_)
instance pleas_court_derive_l1_p_d (facts:List Int)(clauses:List Clause)(strict_:List (Int×Bool))(s_0:List (Int×Int)×List Reason)(z_1:Int)(s_1:List Reason):Decidable (eD facts clauses strict_ s_0 z_1 s_1):=by unfold eD;repeat (first|infer_instance|refine @instDecidableAnd _ _ ?_ ?_|refine @instDecidableForall _ _ ?_ ?_)
instance pleas_court_derive_l0_p_d (facts:List Int)(clauses:List Clause)(strict_:List (Int×Bool))(k_0:Nat)(s_0:List (Int×Int)×List Reason):Decidable (fG facts clauses strict_ k_0 s_0):=by unfold fG;repeat (first|infer_instance|refine @instDecidableAnd _ _ ?_ ?_|refine @instDecidableForall _ _ ?_ ?_)
instance pleas_court_derive_p_d (facts:List Int)(clauses:List Clause)(strict_:List (Int×Bool))(known_:List (Int×Int)):Decidable (eM facts clauses strict_ known_):=by unfold eM;repeat (first|infer_instance|refine @instDecidableAnd _ _ ?_ ?_|refine @instDecidableForall _ _ ?_ ?_)
instance pleas_Answer_p_d (p:Plea)(q:Int):Decidable (j5 p q):=by unfold j5;repeat (first|infer_instance|refine @instDecidableAnd _ _ ?_ ?_|refine @instDecidableForall _ _ ?_ ?_)
instance precedents_ask_p_d (b:Cases)(l_:List Int)(side:Int):Decidable (jR b l_ side):=by unfold jR;repeat (first|infer_instance|refine @instDecidableAnd _ _ ?_ ?_|refine @instDecidableForall _ _ ?_ ?_)
instance precedents_court_missing_p_d (c:PrecedentsCourt)(x:PrecedentsDecided)(facts:Int):Decidable (eH c x facts):=by unfold eH;repeat (first|infer_instance|refine @instDecidableAnd _ _ ?_ ?_|refine @instDecidableForall _ _ ?_ ?_)
instance precedents_Binds_1_p_d (x:PrecedentsDecided)(side_:Int)(facts_:Int)(c_:PrecedentsCourt):Decidable (gV x side_ facts_ c_):=by unfold gV;repeat (first|infer_instance|refine @instDecidableAnd _ _ ?_ ?_|refine @instDecidableForall _ _ ?_ ?_)
instance precedents_first_precedents_decided_b_l0_p_d (l_:List PrecedentsDecided)(side_:Int)(facts_:Int)(c_:PrecedentsCourt)(k_0:Nat)(s_0:Int):Decidable (bj l_ side_ facts_ c_ k_0 s_0):=by unfold bj;repeat (first|infer_instance|refine @instDecidableAnd _ _ ?_ ?_|refine @instDecidableForall _ _ ?_ ?_)
instance precedents_first_precedents_decided_b_p_d (l_:List PrecedentsDecided)(fr:Int)(side_:Int)(facts_:Int)(c_:PrecedentsCourt):Decidable (bG l_ fr side_ facts_ c_):=by unfold bG;repeat (first|infer_instance|refine @instDecidableAnd _ _ ?_ ?_|refine @instDecidableForall _ _ ?_ ?_)
instance precedents_Binds_p_d (b:Cases)(l_:List Int)(side:Int):Decidable (eJ b l_ side):=by unfold eJ;repeat (first|infer_instance|refine @instDecidableAnd _ _ ?_ ?_|refine @instDecidableForall _ _ ?_ ?_)
instance judgement_Decide_k_l0_p_d (sides:List Int)(a1:Suit)(k_0:Nat)(s_0:List Int):Decidable (fH sides a1 k_0 s_0):=by unfold fH;repeat (first|infer_instance|refine @instDecidableAnd _ _ ?_ ?_|refine @instDecidableForall _ _ ?_ ?_)
instance judgement_Decide_k_l1_p_d (sides:List Int)(a1:Suit)(k_1:Nat)(s_1:List Int):Decidable (fI sides a1 k_1 s_1):=by unfold fI;repeat (first|infer_instance|refine @instDecidableAnd _ _ ?_ ?_|refine @instDecidableForall _ _ ?_ ?_)
instance judgement_Decide_k_l2_p_d (sides:List Int)(a1:Suit)(k_2:Nat)(s_2:List Int):Decidable (fJ sides a1 k_2 s_2):=by unfold fJ;repeat (first|infer_instance|refine @instDecidableAnd _ _ ?_ ?_|refine @instDecidableForall _ _ ?_ ?_)
instance judgement_Decide_k_l3_p_d (sides:List Int)(a1:Suit)(k_3:Nat)(s_3:List Int):Decidable (fK sides a1 k_3 s_3):=by unfold fK;repeat (first|infer_instance|refine @instDecidableAnd _ _ ?_ ?_|refine @instDecidableForall _ _ ?_ ?_)
instance judgement_Decide_k_p_d (sides:List Int)(a1:Suit)(cs:List Case):Decidable (eN sides a1 cs):=by unfold eN;repeat (first|infer_instance|refine @instDecidableAnd _ _ ?_ ?_|refine @instDecidableForall _ _ ?_ ?_)
instance judgement_Sit_l0_p_d (sides:List Int)(l_:List Suit)(k_0:Nat)(s_0:List Case):Decidable (iL sides l_ k_0 s_0):=by unfold iL;repeat (first|infer_instance|refine @instDecidableAnd _ _ ?_ ?_|refine @instDecidableForall _ _ ?_ ?_)
instance judgement_Sit_p_d (sides:List Int)(l_:List Suit):Decidable (iV sides l_):=by unfold iV;repeat (first|infer_instance|refine @instDecidableAnd _ _ ?_ ?_|refine @instDecidableForall _ _ ?_ ?_)
theorem IR (a b:List Claim):m_ a b:=fun _ _ h=>lP _ _ _ fun j _ _ hj _=>by
 have:(a.length:Int)=b.length:=by simpa using h
 omega
theorem zc {ρ:Type}{step:Nat→Unit→ρ⊕Unit}:∀ (n i:Nat),(∀ j,i≤j→j<i+n→step j ()=.inr ())→aq step n i ()=.inr ()
 |0,_,_=>rfl
 |n+1,i,h=>by
  rw[aq,h i (Nat.le_refl _) (by omega)];exact zc n (i+1) fun j h1 h2=>h j (by omega) (by omega)
theorem zV (a:List Claim):kA a a=true:=by
 unfold kA;rw[show((a.length:Int) !=(a.length:Int))=false by simp,zc (ρ:=Unit) a.length 0 fun j _ _=>by unfold qw;simp];rfl
theorem Q_ (a b:List Int):kC a b:=fun _ _ h=>lP _ _ _ fun j _ _ hj _=>by
 have:(a.length:Int)=b.length:=by simpa using h
 omega
theorem IS (a:List Int):oq a a=true:=by
 unfold oq;rw[show((a.length:Int) !=(a.length:Int))=false by simp,zc (ρ:=Unit) a.length 0 fun j _ _=>by unfold qy;simp];rfl
theorem uJ (d:District)(j:List Judgement):gf d j:=fun _ _ h _=>lP _ _ _ fun k s _ hk=>by
 rw[E0]at h;have h:=of_decide_eq_true h;have key:((k:Int) ==0)=false→(0≤(i64.wrap ((k:Int) - 1))∧(i64.wrap ((k:Int) - 1)) < (j.length:Int)):=fun hk0=>by
  have:(k:Int)≠0:=by simpa using hk0
  rw[fl (by omega) (by omega)];omega
 exact fun _=>⟨key,fun h1 _=>key h1⟩
theorem Hl (d:District)(j:List Judgement):tR d j:=⟨DT d,fun hc _ h=>lP _ _ _ fun k s _ hk=>by
 have h:=of_decide_eq_false h;have hf:d.farms.length≤600:=by
  have:fc d=0:=by simpa using hc
  rw[←wB]at this;exact((qO d).1 this).1.2.1
 have hw:i64.wrap ((d.farms.length:Int) - 1)=(d.farms.length:Int) - 1:=fl (by omega) (by omega);intro _;refine⟨⟨by omega,by omega,by omega⟩,fun _=>?_⟩;have hl:((j.take k).drop 0).length=k:=by simp;omega
 have key:(decide ((((j.take k).drop 0).length:Int) > 0))=true→(0≤(i64.wrap ((((j.take k).drop 0).length:Int) - 1))∧(i64.wrap ((((j.take k).drop 0).length:Int) - 1)) < (((j.take k).drop 0).length:Int)):=fun h0=>by
  have h0:=of_decide_eq_true h0;rw[hl]at h0 ⊢;rw[fl (by omega) (by omega)];omega
 refine⟨fun _=>key,fun _ h0 _=>key h0,fun _ _ _ h1 _ _ h2=>?_⟩;rw[hw]at h1 h2;simp only[Bool.or_eq_false_iff,Bool.not_eq_false',DU,Bool.and_eq_true,decide_eq_true_eq]at h1 h2;exact⟨fun _=>by omega,fun _=>by omega⟩⟩
theorem A6 (d:District)(j:List Judgement)(h:Int)(hj:JR j):cP d j h∧C4 d j h:=by
 have key:bh d j=0→d.farms.length≤600∧∀ k,k<j.length→(j.getD k default).kind=4→(0≤(j.getD k default).farm∧(j.getD k default).farm< (d.farms.length:Int))∧(0≤(j.getD k default).other∧(j.getD k default).other< (d.farms.length:Int)):=fun hc=>by
  have h1:=NP hc;obtain⟨h2,_,_⟩:=sb hc;rw[←wB]at h2;refine⟨((qO d).1 h2).1.2.1,fun k hk hkd=>?_⟩;have h3:=h1 k hk;have h4:(j.getD k default).of_=0:=Decidable.byContradiction fun e=>by have:=h3.end_ e;omega
  exact⟨h3.farm h4,(h3.other (by omega)).1,(h3.other (by omega)).2.1⟩
 refine⟨⟨uJ d j,fun hc _ _=>⟨⟨rfl,by omega,?_⟩,fun _ _=>?_⟩⟩,⟨Hl d j,fun hc _ _=>⟨⟨rfl,by omega,?_⟩,fun _=>?_⟩⟩⟩
 ·have hc:aN d j=0:=by simpa using hc
  rw[tC d j hj]at hc;have:=(key hc).1;unfold cW;omega
 ·have hc:aN d j=0:=by simpa using hc
  rw[tC d j hj]at hc;refine AX (fun _ s=>s.length=d.farms.length) _ _ _ (by simp) fun k s _ hk hs=>⟨fun hg=>?_,fun s' e=>?_⟩
  ·simp only[Bool.and_eq_true,beq_iff_eq]at hg;have:=(key hc).2 k (by omega) hg.1.1;rw[List.length_set,hs];exact⟨this.1,this.1,this.2,this.2⟩
  ·unfold gM at e;rw[Bool.cond_eq_ite]at e;split at e <;>simp only[Sum.inr.injEq]at e <;>subst e
   ·simp[hs]
   ·exact hs
 ·have hc:bh d j=0:=by simpa using hc
  have:=(key hc).1;unfold cW;omega
 ·have hc:bh d j=0:=by simpa using hc
  refine AX (fun _ s=>s.length=d.farms.length) _ _ _ (by simp) fun k s _ hk hs=>⟨fun _ hg=>?_,fun s' e=>?_⟩
  ·simp only[Bool.and_eq_true,beq_iff_eq]at hg;have:=(key hc).2 k (by omega) hg.1.1;rw[List.length_set,hs];exact⟨this.1,this.1,this.2,this.2⟩
  ·unfold iD at e;rw[Bool.cond_eq_ite]at e;split at e <;>simp only[Sum.inr.injEq]at e <;>subst e
   ·simp[hs]
   ·exact hs
def Hm (d:District)(c:List Claim)(j:List Judgement):List Claim×Int:=letI q0:=c.length+1;bif aN d j !=0 then([],aN d j)else bif bL d c !=0 then([],bL d c)else bif(decide (((exS j q0 c).length:Int) > 4096)) ||(exS j q0 c).any bH then([],2)else(exS j q0 c,0)
theorem Um (x:List Claim):br x=x.any bH:=by
 unfold br cU;rcases yV (step:=dV x) x default bH (fun k _=>rfl)with⟨e,h⟩ | ⟨K,y,T,h1,e,h2,h3⟩
 ·rw[e,List.any_eq_false.2 fun z hz=>by rw[h z hz];simp];rfl
 ·rw[e,List.any_eq_true.2 ⟨y,by rw[h1];simp,h2⟩];exact decide_eq_true (show(K.length:Int)≥0 by omega)
theorem YT (x:List Claim):(match aq (na x) x.length 0 ()with| .inl _=>(([],2):List Claim×Int) | .inr _=>(x,0))=bif x.any bH then([],2)else(x,0):=by
 have key:∀ (R A:List Claim) (k:Nat),x=A++R→A.length=k→aq (na x) R.length k ()=bif R.any bH then .inl ()else .inr ():=fun R=>by
  induction R with
  |nil=>exact fun A k _ _=>rfl
  |cons y R ih=>
   intro A k hx hk;have g:x.getD k default=y:=by rw[hx];exact gi A y default R hk.symm
   simp only[List.length_cons,aq,na,g,List.any_cons];cases hy:bH y with
   |true=>
    have:decide (y.litres > 1073741824)=true:=hy;rw[this];rfl
   |false=>
    have:decide (y.litres > 1073741824)=false:=hy;rw[this];exact ih (A++[y]) (k+1) (by rw[hx];simp) (by simp[hk])
 rw[key x [] 0 rfl rfl];cases x.any bH <;>rfl
theorem Hn {d:District}{c:List Claim}{j:List Judgement}(h1:aN d j=0)(hj:JR j)(h2:bL d c=0)(hjl:j.length≤20)(hcl:c.length≤300):Given d j c:=by
 obtain⟨a1,_,a3,a4⟩:=Cv h2;rw[tC d j hj]at h1;refine⟨fun x hx=>?_,hjl,a3,a4,hcl,((qO d).1 a1).1.2.2.2.1⟩;obtain⟨i,hi,rfl⟩:=List.getElem_of_mem hx;have:=NP h1 i hi
 rwa[List.getD_eq_getElem?_getD,List.getElem?_eq_getElem hi]at this
theorem CH {d:District}{c:List Claim}{j:List Judgement}(hj:JR j)(hjl:aN d j=0→j.length≤20)(hcl:bL d c=0→c.length≤300):
  (cF d c j∧AJ d c j)∧av d c j=Hm d c j∧xC d c j=Hm d c j:=by
 have run:aN d j=0→bL d c=0→(okI (co c j) (gh c j) (c.length+1) 0 (c,[])∧aq (co c j) (c.length+1) 0 (c,[])=.inl ([]++exS j (c.length+1) c))∧
   okI (d5 c j) (ou c j) (c.length+1) 0 ([],0)∧aq (d5 c j) (c.length+1) 0 ([],0)=.inl ([]++exS j (c.length+1) c):=fun h1 h2=>by
  have g:=Hn h1 hj h2 (hjl h1) (hcl h2);have:=g.cl;exact⟨He c (c.length+1) 0 c [] (by omega) g (by simp only[List.length_nil];omega),Kc c g.cl (c.length+1) 0 c [] [] rfl (by omega) g (by simp only[List.length_nil];omega)⟩
 refine⟨⟨⟨uJ d j,fun h1=>⟨N6 d c,fun h2=>?_⟩⟩,⟨Hl d j,fun h1=>⟨Lv d c,fun h2=>?_⟩⟩⟩,?_,?_⟩
 ·obtain⟨⟨r1,r2⟩,_⟩:=run (by simpa using h1) (by simpa using h2);exact⟨r1,fun z e=>by rw[r2]at e;cases e⟩
 ·rw[←tC d j hj]at h1;rw[←D1]at h2;obtain⟨_,r1,r2⟩:=run (by simpa using h1) (by simpa using h2);exact⟨r1,fun z e=>by rw[r2]at e;cases e⟩
 ·unfold av Hm;cases h1:aN d j !=0 with
  |true=>rfl
  |false=>
   simp only[cond_false];cases h2:bL d c !=0 with
   |true=>rfl
   |false=>
    simp only[cond_false];obtain⟨⟨_,r2⟩,_⟩:=run (by simpa using h1) (by simpa using h2);rw[r2,List.nil_append];simp only[Um]
 ·unfold xC Hm;rw[←tC d j hj,←D1];cases h1:aN d j !=0 with
  |true=>rfl
  |false=>
   simp only[cond_false];cases h2:bL d c !=0 with
   |true=>rfl
   |false=>
    simp only[cond_false];obtain⟨_,_,r2⟩:=run (by simpa using h1) (by simpa using h2);rw[r2,List.nil_append];cases hd:decide (((exS j (c.length+1) c).length:Int) > 4096)with
    |true=>simp only[hd,cond_true,Bool.true_or]
    |false=>
     simp only[hd,cond_false,Bool.false_or];exact YT _
end Go.Sx
end
