/- Part of the proof that the law RegisterSpec returns true and leaves its arguments as they were, for all arguments of bulk at most 1048576 (the Upto form). -/
import Derived.Test.YthcbieoehjhjfaaGreatQ112
import Derived.Test.YthcbieoehjhjfaaGreatQ108
import Derived.Test.YthcbieoehjhjfaaGreatQ109
import Derived.Test.YthcbieoehjhjfaaGreatQ107
import Derived.Deep.Slices
import Derived.OpenShut
import Derived.ChangeSame
import Derived.WideKeyArgs
import Derived.Below
import Derived.Test.YthcbieoehjhjfaaGreatRows
set_option linter.all false
set_option maxHeartbeats 4000000
set_option maxRecDepth 100000
section
namespace Go.Sx
open Go.Proofs
open IntKind (i64)
theorem B7 {l0 l1:List Nat}(a0:JL l0)(a1:JL l1){p:Prop}(h:JL l0->JL l1->p:=by intro ja jb;(first|done|(repeat' (first|with_reducible refine And.intro ?_ ?_|((with_reducible show _≠_);first|assumption|omega|(simp_all [cO,dK];done) |grind) |with_reducible intro _)) <;>(first|done|with_reducible exact Empty.elim ‹Empty› |with_reducible assumption|rfl|omega|assumption|decide|exact fk ja|exact fk jb|exact czl|(simp only[*,cond_true,cond_false,Bool.not_true,Bool.not_false,go_sem,Nat.reduceBEq,Nat.reduceLeDiff,Nat.reduceLT,decide_true,Nat.reduceAdd,Nat.reduceSub,Nat.reduceMul,Int.reduceLE,Int.reduceLT,Int.reduceToNat,Int.reduceNeg,reduceCtorEq];(repeat' (first|with_reducible refine And.intro ?_ ?_|((with_reducible show _≠_);first|assumption|omega|(simp_all [cO,dK];done) |grind) |with_reducible intro _)) <;>(first|done|assumption|rfl|omega|decide|exact fk ja|exact fk jb|(simp_all [cO,dK];done))) |(simp_all [okI,cO,dK];done) |(simp_all [cO,dK];(first|done|exact fk2 ja|exact fk2 jb)) |exact fk2 ja|exact fk2 jb|(simp_all only[cO,dK,cond_true,cond_false];(first|done|exact fk ja|exact fk jb|exact fk2 ja|exact fk2 jb|(simp only[go_sem,Nat.reduceBEq,Nat.reduceLeDiff,Nat.reduceLT,decide_true,Nat.reduceAdd,Nat.reduceSub,Nat.reduceMul,Int.reduceLE,Int.reduceLT,Int.reduceToNat,Int.reduceNeg,reduceCtorEq];((repeat' (first|with_reducible refine And.intro ?_ ?_|((with_reducible show _≠_);first|assumption|omega|(simp_all [cO,dK];done) |grind) |with_reducible intro _)) <;>(first|done|rfl|exact fk ja|exact fk jb|exact fk2 ja|exact fk2 jb)))))))):p:=h a0 a1
theorem B8 {l0:List Nat}(a0:JL l0){p:Prop}(h:JL l0->p:=by intro ja;(first|done|(repeat' (first|with_reducible refine And.intro ?_ ?_|((with_reducible show _≠_);first|assumption|omega|(simp_all [cO,dK];done) |grind) |with_reducible intro _)) <;>(first|done|with_reducible exact Empty.elim ‹Empty› |with_reducible assumption|rfl|omega|assumption|decide|exact fk ja|exact czl|(simp only[*,cond_true,cond_false,Bool.not_true,Bool.not_false,go_sem,Nat.reduceBEq,Nat.reduceLeDiff,Nat.reduceLT,decide_true,Nat.reduceAdd,Nat.reduceSub,Nat.reduceMul,Int.reduceLE,Int.reduceLT,Int.reduceToNat,Int.reduceNeg,reduceCtorEq];(repeat' (first|with_reducible refine And.intro ?_ ?_|((with_reducible show _≠_);first|assumption|omega|(simp_all [cO,dK];done) |grind) |with_reducible intro _)) <;>(first|done|assumption|rfl|omega|decide|exact fk ja|(simp_all [cO,dK];done))) |(simp_all [okI,cO,dK];done) |(simp_all [cO,dK];(first|done|exact fk2 ja)) |exact fk2 ja|(simp_all only[cO,dK,cond_true,cond_false];(first|done|exact fk ja|exact fk2 ja|(simp only[go_sem,Nat.reduceBEq,Nat.reduceLeDiff,Nat.reduceLT,decide_true,Nat.reduceAdd,Nat.reduceSub,Nat.reduceMul,Int.reduceLE,Int.reduceLT,Int.reduceToNat,Int.reduceNeg,reduceCtorEq];((repeat' (first|with_reducible refine And.intro ?_ ?_|((with_reducible show _≠_);first|assumption|omega|(simp_all [cO,dK];done) |grind) |with_reducible intro _)) <;>(first|done|rfl|exact fk ja|exact fk2 ja)))))))):p:=h a0
theorem IJ {l0 l1:List Nat}(a0:JL l0)(a1:JL l1){p:Prop}(h:JL l0->JL l1->p:=by intro ja jb;simp only[go_sem,Nat.reduceBEq,Nat.reduceLeDiff,Nat.reduceLT,decide_true,Nat.reduceAdd,Nat.reduceSub,Nat.reduceMul,Int.reduceLE,Int.reduceLT,Int.reduceToNat,Int.reduceNeg,reduceCtorEq,hc,hw];all_goals exact B7 ja jb):p:=h a0 a1
theorem IK {l0 l1:List Nat}(a0:JL l0)(a1:JL l1){p:Prop}(h:JL l0->JL l1->p:=by intro ja jb;simp only[go_sem,Nat.reduceBEq,Nat.reduceLeDiff,Nat.reduceLT,decide_true,Nat.reduceAdd,Nat.reduceSub,Nat.reduceMul,Int.reduceLE,Int.reduceLT,Int.reduceToNat,Int.reduceNeg,reduceCtorEq,hc];all_goals exact B7 ja jb):p:=h a0 a1
theorem B9 {l0:List Nat}(a0:JL l0){p:Prop}(h:JL l0->p:=by intro ja;simp only[go_sem,Nat.reduceBEq,Nat.reduceLeDiff,Nat.reduceLT,decide_true,Nat.reduceAdd,Nat.reduceSub,Nat.reduceMul,Int.reduceLE,Int.reduceLT,Int.reduceToNat,Int.reduceNeg,reduceCtorEq,hc,hw];all_goals exact B8 ja):p:=h a0
theorem B_ {l0:List Nat}(a0:JL l0){p:Prop}(h:JL l0->p:=by intro ja;simp only[go_sem,Nat.reduceBEq,Nat.reduceLeDiff,Nat.reduceLT,decide_true,Nat.reduceAdd,Nat.reduceSub,Nat.reduceMul,Int.reduceLE,Int.reduceLT,Int.reduceToNat,Int.reduceNeg,reduceCtorEq,hc];all_goals exact B8 ja):p:=h a0
@[go_sem] def dh (a1:List Deed)(k_0:Nat)(s_0:List Int×List Int)(k_1:Nat)(s_1:List Int×Int):Empty⊕(List Int×Int):=letI q3:=a1.getD k_0 default;letI q0:=(q3.parts).getD k_1 default;letI q1:=lC (q0.share) (s_0.2.getD (Int.toNat (q3.since)) 0);letI q2:=Int.toNat (q0.farm);.inr ((s_1.1.set q2 (i64.wrap ((s_1.1.getD q2 0)+q1.1))),(i64.wrap (s_1.2 - q1.1)))
def j_ (a1:List Deed)(k_0:Nat)(s_0:List Int×List Int)(k_1:Nat)(s_1:List Int×Int):Prop:=letI q2:=a1.getD k_0 default;letI q0:=(q2.parts).getD k_1 default;letI q1:=0<=q0.farm/\q0.farm< (s_1.1.length:Int);((q2.parts).length<=bb->((nH (q0.share) (s_0.2.getD (Int.toNat (q2.since)) 0))/\(q1/\q1)))
@[go_sem] def l8 (a1:List Deed)(k_0:Nat)(s_1:List Int×Int)(k_2:Nat)(s_2:List Int):Empty⊕(List Int):=.inr (s_2.set (Int.toNat ((((a1.getD k_0 default).parts).getD k_2 default).farm)) (i64.wrap ((s_2.getD (Int.toNat ((((a1.getD k_0 default).parts).getD k_2 default).farm)) 0)+1)))
def ka (a1:List Deed)(k_0:Nat)(s_1:List Int×Int)(k_2:Nat)(s_2:List Int):Prop:=letI q2:=(a1.getD k_0 default).parts;letI q0:=q2.getD k_2 default;letI q1:=0<=q0.farm/\q0.farm< (s_2.length:Int);((0<=(k_2:Int)/\(k_2:Int) < (q2.length:Int))/\(q1/\q1))
@[go_sem] def l9 (a1:List Deed)(a2:Int)(k_0:Nat)(s_0:List Int×List Int):Empty⊕(List Int×List Int):=letI q1:=a1.getD k_0 default;letI q2:=Int.toNat (q1.since);letI q3:=s_0.2.getD q2 0;letI q4:=s_0.2.set q2 0;letI q5:=Int.toNat (q1.to);letI q0:=bif(q1.kind==1)then(q4.set q5 (i64.wrap ((q4.getD q5 0)+q3)))else q4;(bif(q1.right !=a2)then .inr (s_0.1,s_0.2)else(bif(q3==0)then .inr ((s_0.1++([q1.no])),s_0.2)else(bif(q1.kind==2)then(match aj (dh a1 k_0 s_0) ((q1.parts).length) 0 (q0,q3)with| .inl x=>x.elim| .inr s_1=>(match aj (l8 a1 k_0 s_1) (Int.toNat s_1.2) 0 s_1.1 with| .inl x=>x.elim| .inr s_2=>.inr (s_0.1,s_2)))else .inr (s_0.1,q0))))
def kc (a1:List Deed)(a2:Int)(k_0:Nat)(s_0:List Int×List Int):Prop:=letI q0:=a1.getD k_0 default;letI q2:=Int.toNat (q0.since);letI q3:=s_0.2.set q2 0;letI q4:=0<=q0.since/\q0.since< (s_0.2.length:Int);letI q5:=s_0.2.getD q2 0;letI q6:=0<=q0.to/\q0.to< (q3.length:Int);letI q7:=dh a1 k_0 s_0;letI q8:=(q0.parts).length;letI q9:=Int.toNat (q0.to);letI q1:=((bif(q0.kind==1)then(q3.set q9 (i64.wrap ((q3.getD q9 0)+q5)))else q3),q5);(a1.length<=bb->((q0.right !=a2)=false->(q4/\(((q5==0)=true->((s_0.1++([q0.no])).length*8<=fB))/\((q5==0)=false->(q4/\(((q0.kind==1)=true->(q6/\q6))/\((q0.kind==2)=true->(okI q7 (j_ a1 k_0 s_0) q8 0 q1/\(∀ s_1,aj q7 q8 0 q1=.inr s_1->((s_1.2<9223372036854775808)/\okI (l8 a1 k_0 s_1) (ka a1 k_0 s_1) (Int.toNat s_1.2) 0 s_1.1)))))))))))
def ke (a0:District)(a1:List Deed)(a2:Int):List Int×List Int:=letI q0:=a0.rights.getD (Int.toNat a2) default;(match aj (l9 a1 a2) a1.length 0 ([],((List.replicate (Int.toNat (a0.farms.length:Int)) (0:Int)).set (Int.toNat (q0.farm)) q0.litres))with| .inl x=>x.elim| .inr s_0=>(s_0.2,s_0.1))
def nc (a0:District)(a1:List Deed)(a2:Int):Prop:=letI q0:=(a0.farms.length:Int);letI q1:=a0.rights.getD (Int.toNat a2) default;letI q2:=List.replicate (Int.toNat q0) (0:Int);letI q3:=0<=a2/\a2< (a0.rights.length:Int);(a0.farms.length<=bb->((q0=q0/\0<=q0/\q0*((8:Nat):Int)<=((fB:Nat):Int))/\(q0<=((bb:Nat):Int)->(q3/\(q3/\((0<=q1.farm/\q1.farm< (q2.length:Int))/\okI (l9 a1 a2) (kc a1 a2) a1.length 0 ([],(q2.set (Int.toNat (q1.farm)) q1.litres))))))))
@[go_sem] def p8:List SV->Option Con:=(pD .district fun a0=>(pR .deed fun a1=>(pI fun a2=>(pE (.det (nc a0 a1 a2) (.tup [.nw .int ((ke a0 a1 a2).1),.nw .int ((ke a0 a1 a2).2)]))))))
theorem uZ:FnOk Tryz.prog 54 p8:=by
 have hG:ConsOk Tryz.prog (mkG [(83,qO)] []):=av (cgc wS cg0) cg0;refine nI [(.tmp 6,.int),(.tmp 7,.int)] mixed al hG (fn:=Tryz.f54) (c:=ae Tryz.f54) kr kr kr kr (aS fun a0=>(dN fun a1=>(cq fun a2=>(aD (fun hp=>?_)))));dsimp only[aC]at hp;unfold nc at hp;refine⟨nbl rfl,(fun id st=>bif Nat.beq id 0 then some (LCR (ρ:=Empty) (σ:=(List Int×List Int)) 2 [.slot 9 (.row .int ([]))] [0,1,2] (fun k_0 s_0=>⟨[(1,.rs .deed a1),(2,.v (.int .i64 a2)),(8,.os 1),(9,.os 2),(10,.v (.int .i64 (k_0:Int)))],[.dead,.row .int s_0.2,.row .int s_0.1]⟩) (l9 a1 a2) (kc a1 a2) a1.length ([],((List.replicate (Int.toNat (a0.farms.length:Int)) (0:Int)).set (Int.toNat ((a0.rights.getD (Int.toNat a2) (default:Right)).farm)) (a0.rights.getD (Int.toNat a2) (default:Right)).litres)) (True) ((·.elim)) ((·.elim)) st)else none),?_,?_⟩
 ·unfold ae Tryz.f54;simp only[ak,true_and,and_true]
  ·refine dE (a1.length<=bb) mixed al hG kr (fun _=>rfl) (a1.length:Int) rfl gX (fun hb0 k_0 s_0 hlt0 hq0 hw hc=>⟨(fun id st=>bif Nat.beq id 1000069 then some (JC (⟨[(1,.rs .deed a1),(2,.v (.int .i64 a2)),(8,.os 1),(9,.os 2),(10,.v (.int .i64 (k_0:Int))),(11,.ptr 3 0),(12,.v (.int .i64 (s_0.2.getD (Int.toNat ((a1.getD k_0 (default:Deed)).since)) (0:Int))))],[.dead,.row .int (bif((a1.getD k_0 (default:Deed)).kind==1)then((s_0.2.set (Int.toNat ((a1.getD k_0 (default:Deed)).since)) 0).set (Int.toNat ((a1.getD k_0 (default:Deed)).to)) (i64.wrap (((s_0.2.set (Int.toNat ((a1.getD k_0 (default:Deed)).since)) 0).getD (Int.toNat ((a1.getD k_0 (default:Deed)).to)) (0:Int))+(s_0.2.getD (Int.toNat ((a1.getD k_0 (default:Deed)).since)) (0:Int)))))else(s_0.2.set (Int.toNat ((a1.getD k_0 (default:Deed)).since)) 0)),.row .int s_0.1,.cells (cellsOf .deed (a1.getD k_0 (default:Deed)))]⟩))else bif Nat.beq id 2 then some (LCR (ρ:=Empty) (σ:=(List Int×Int)) 4 [] [0,1,2,3] (fun k_1 s_1=>⟨[(1,.rs .deed a1),(2,.v (.int .i64 a2)),(8,.os 1),(9,.os 2),(10,.v (.int .i64 (k_0:Int))),(11,.ptr 3 0),(12,.v (.int .i64 (s_0.2.getD (Int.toNat ((a1.getD k_0 (default:Deed)).since)) (0:Int)))),(13,.v (.int .i64 s_1.2)),(14,.v (.int .i64 (k_1:Int)))],[.dead,.row .int s_1.1,.row .int s_0.1,.cells (cellsOf .deed (a1.getD k_0 (default:Deed)))]⟩) (dh a1 k_0 s_0) (j_ a1 k_0 s_0) (((a1.getD k_0 (default:Deed)).parts).length) ((bif((a1.getD k_0 (default:Deed)).kind==1)then((s_0.2.set (Int.toNat ((a1.getD k_0 (default:Deed)).since)) 0).set (Int.toNat ((a1.getD k_0 (default:Deed)).to)) (i64.wrap (((s_0.2.set (Int.toNat ((a1.getD k_0 (default:Deed)).since)) 0).getD (Int.toNat ((a1.getD k_0 (default:Deed)).to)) (0:Int))+(s_0.2.getD (Int.toNat ((a1.getD k_0 (default:Deed)).since)) (0:Int)))))else(s_0.2.set (Int.toNat ((a1.getD k_0 (default:Deed)).since)) 0)),(s_0.2.getD (Int.toNat ((a1.getD k_0 (default:Deed)).since)) (0:Int))) (True) ((·.elim)) ((·.elim)) st)else bif Nat.beq id 4 then some (LCR (ρ:=Empty) (σ:=(List Int)) 4 [] [0,1,2,3] (fun k_2 s_2=>⟨[(1,.rs .deed a1),(2,.v (.int .i64 a2)),(8,.os 1),(9,.os 2),(10,.v (.int .i64 (k_0:Int))),(11,.ptr 3 0),(13,.v (.int .i64 (cO (aj (dh a1 k_0 s_0) (((a1.getD k_0 (default:Deed)).parts).length) 0 ((bif((a1.getD k_0 (default:Deed)).kind==1)then((s_0.2.set (Int.toNat ((a1.getD k_0 (default:Deed)).since)) 0).set (Int.toNat ((a1.getD k_0 (default:Deed)).to)) (i64.wrap (((s_0.2.set (Int.toNat ((a1.getD k_0 (default:Deed)).since)) 0).getD (Int.toNat ((a1.getD k_0 (default:Deed)).to)) (0:Int))+(s_0.2.getD (Int.toNat ((a1.getD k_0 (default:Deed)).since)) (0:Int)))))else(s_0.2.set (Int.toNat ((a1.getD k_0 (default:Deed)).since)) 0)),(s_0.2.getD (Int.toNat ((a1.getD k_0 (default:Deed)).since)) (0:Int))))).2)),(18,.v (.int .i64 (k_2:Int)))],[.dead,.row .int s_2,.row .int s_0.1,.cells (cellsOf .deed (a1.getD k_0 (default:Deed)))]⟩) (l8 a1 k_0 (cO (aj (dh a1 k_0 s_0) (((a1.getD k_0 (default:Deed)).parts).length) 0 ((bif((a1.getD k_0 (default:Deed)).kind==1)then((s_0.2.set (Int.toNat ((a1.getD k_0 (default:Deed)).since)) 0).set (Int.toNat ((a1.getD k_0 (default:Deed)).to)) (i64.wrap (((s_0.2.set (Int.toNat ((a1.getD k_0 (default:Deed)).since)) 0).getD (Int.toNat ((a1.getD k_0 (default:Deed)).to)) (0:Int))+(s_0.2.getD (Int.toNat ((a1.getD k_0 (default:Deed)).since)) (0:Int)))))else(s_0.2.set (Int.toNat ((a1.getD k_0 (default:Deed)).since)) 0)),(s_0.2.getD (Int.toNat ((a1.getD k_0 (default:Deed)).since)) (0:Int)))))) (ka a1 k_0 (cO (aj (dh a1 k_0 s_0) (((a1.getD k_0 (default:Deed)).parts).length) 0 ((bif((a1.getD k_0 (default:Deed)).kind==1)then((s_0.2.set (Int.toNat ((a1.getD k_0 (default:Deed)).since)) 0).set (Int.toNat ((a1.getD k_0 (default:Deed)).to)) (i64.wrap (((s_0.2.set (Int.toNat ((a1.getD k_0 (default:Deed)).since)) 0).getD (Int.toNat ((a1.getD k_0 (default:Deed)).to)) (0:Int))+(s_0.2.getD (Int.toNat ((a1.getD k_0 (default:Deed)).since)) (0:Int)))))else(s_0.2.set (Int.toNat ((a1.getD k_0 (default:Deed)).since)) 0)),(s_0.2.getD (Int.toNat ((a1.getD k_0 (default:Deed)).since)) (0:Int)))))) (Int.toNat (cO (aj (dh a1 k_0 s_0) (((a1.getD k_0 (default:Deed)).parts).length) 0 ((bif((a1.getD k_0 (default:Deed)).kind==1)then((s_0.2.set (Int.toNat ((a1.getD k_0 (default:Deed)).since)) 0).set (Int.toNat ((a1.getD k_0 (default:Deed)).to)) (i64.wrap (((s_0.2.set (Int.toNat ((a1.getD k_0 (default:Deed)).since)) 0).getD (Int.toNat ((a1.getD k_0 (default:Deed)).to)) (0:Int))+(s_0.2.getD (Int.toNat ((a1.getD k_0 (default:Deed)).since)) (0:Int)))))else(s_0.2.set (Int.toNat ((a1.getD k_0 (default:Deed)).since)) 0)),(s_0.2.getD (Int.toNat ((a1.getD k_0 (default:Deed)).since)) (0:Int))))).2) ((cO (aj (dh a1 k_0 s_0) (((a1.getD k_0 (default:Deed)).parts).length) 0 ((bif((a1.getD k_0 (default:Deed)).kind==1)then((s_0.2.set (Int.toNat ((a1.getD k_0 (default:Deed)).since)) 0).set (Int.toNat ((a1.getD k_0 (default:Deed)).to)) (i64.wrap (((s_0.2.set (Int.toNat ((a1.getD k_0 (default:Deed)).since)) 0).getD (Int.toNat ((a1.getD k_0 (default:Deed)).to)) (0:Int))+(s_0.2.getD (Int.toNat ((a1.getD k_0 (default:Deed)).since)) (0:Int)))))else(s_0.2.set (Int.toNat ((a1.getD k_0 (default:Deed)).since)) 0)),(s_0.2.getD (Int.toNat ((a1.getD k_0 (default:Deed)).since)) (0:Int))))).1) ((cO (aj (dh a1 k_0 s_0) (((a1.getD k_0 (default:Deed)).parts).length) 0 ((bif((a1.getD k_0 (default:Deed)).kind==1)then((s_0.2.set (Int.toNat ((a1.getD k_0 (default:Deed)).since)) 0).set (Int.toNat ((a1.getD k_0 (default:Deed)).to)) (i64.wrap (((s_0.2.set (Int.toNat ((a1.getD k_0 (default:Deed)).since)) 0).getD (Int.toNat ((a1.getD k_0 (default:Deed)).to)) (0:Int))+(s_0.2.getD (Int.toNat ((a1.getD k_0 (default:Deed)).since)) (0:Int)))))else(s_0.2.set (Int.toNat ((a1.getD k_0 (default:Deed)).since)) 0)),(s_0.2.getD (Int.toNat ((a1.getD k_0 (default:Deed)).since)) (0:Int))))).2<9223372036854775808) ((·.elim)) ((·.elim)) st)else none),?_,?_⟩) (fun hb0 s_0 hc=>?_) fun hb0 k_0 s_0=>?_
   ·simp only[ak,true_and,and_true];refine⟨?_,?_⟩
    ·refine dE (((a1.getD k_0 (default:Deed)).parts).length<=bb) mixed al hG kr (fun _=>rfl) (((a1.getD k_0 (default:Deed)).parts).length:Int) rfl gX (fun hb1 k_1 s_1 hlt1 hq1 hw hc=>⟨L0,ah _,?_⟩) (fun hb1 s_1 hc=>?_) fun hb1 k_1 s_1=>?_
     ·unfold j_ at hq1;try simp only[hw,Int.toNat_natCast]at hq1
      exact B9 (jl [0,1,2,3])
     ·exact B_ (jl [0,1,2,3])
     ·exact HT
    ·refine d9 mixed al hG kr (fun _=>rfl) ((cO (aj (dh a1 k_0 s_0) (((a1.getD k_0 (default:Deed)).parts).length) 0 ((bif((a1.getD k_0 (default:Deed)).kind==1)then((s_0.2.set (Int.toNat ((a1.getD k_0 (default:Deed)).since)) 0).set (Int.toNat ((a1.getD k_0 (default:Deed)).to)) (i64.wrap (((s_0.2.set (Int.toNat ((a1.getD k_0 (default:Deed)).since)) 0).getD (Int.toNat ((a1.getD k_0 (default:Deed)).to)) (0:Int))+(s_0.2.getD (Int.toNat ((a1.getD k_0 (default:Deed)).since)) (0:Int)))))else(s_0.2.set (Int.toNat ((a1.getD k_0 (default:Deed)).since)) 0)),(s_0.2.getD (Int.toNat ((a1.getD k_0 (default:Deed)).since)) (0:Int))))).2) rfl id (fun hb2 k_2 s_2 hlt2 hq2 hw hc=>⟨L0,ah _,?_⟩) (fun hb2 s_2 hc=>?_)
     ·unfold ka at hq2;try simp only[hw,Int.toNat_natCast]at hq2
      exact B9 (jl [0,1,2,3])
     ·exact B_ (jl [0,1,2,3])
   ·unfold kc at hq0;try simp only[hw,Int.toNat_natCast]at hq0
    exact IJ (jl [0,1,2]) (jl [0,1,5])
   ·exact IK (jl [0,1,2]) (jl [0,1,5])
   ·exact zq7
 ·unfold ae Tryz.f54;try unfold ke
  exact zq1
@[go_sem] def tf (l_:List Int)(n:Int)(k_0:Nat)(s_0:Unit):Unit⊕Unit:=(bif((l_.getD k_0 0) ==n)then .inl ()else .inr ())
def qs (l_:List Int)(n:Int):Bool:=(match aj (tf l_ n) l_.length 0 ()with| .inl x_0_0=>true| .inr s_0=>false)
@[go_sem] def uJ:List SV->Option Con:=(pR .int fun l_=>(pI fun n=>(pE (.det True (.v (.bool (qs l_ n)))))))
theorem Av:FnOk Tryz.prog 55 uJ:=by
 have hG:ConsOk Tryz.prog (mkG [] []):=av cg0 cg0;refine aR [.o] mixed al hG (fn:=Tryz.f55) (c:=ae Tryz.f55) kr kr kr kr (dN fun l_=>(cq fun n=>(aD (fun hp=>?_))));dsimp only[aC]at hp;refine⟨nbl rfl,(fun id st=>bif Nat.beq id 0 then some (LCR (ρ:=Unit) (σ:=Unit) 0 [] [] (fun k_0 s_0=>⟨[(0,.rs .int l_),(1,.v (.int .i64 n)),(5,.v (.int .i64 (k_0:Int)))],[]⟩) (tf l_ n) pT l_.length () (True) (fun _=>.ret) (fun x_0_0=>⟨[(4,.v (.bool true))],[]⟩) st)else none),?_,?_⟩
 ·unfold ae Tryz.f55;simp only[ak,true_and,and_true]
  ·refine dE (l_.length<=bb) mixed al hG kr (fun _=>rfl) (l_.length:Int) rfl gX (fun hb0 k_0 s_0 hlt0 _ hw hc=>⟨L0,ah _,?_⟩) (fun hb0 s_0 hc=>?_) fun hb0 k_0 s_0=>?_
   ·exact bY (jl [])
   ·exact bZ (jl [])
   ·exact zq7
 ·unfold ae Tryz.f55;try unfold qs
  exact zq1
@[go_sem] def f_ (a0:District)(a1:List Deed)(a2:Int)(k_0:Nat)(s_0:List Int):Empty⊕(List Int):=(bif((a0.rights.getD k_0 default).kind==1)then .inr (s_0++((ke a0 (f9 a1 4096 a2) (k_0:Int)).2))else .inr s_0)
def kL (a0:District)(a1:List Deed)(a2:Int)(k_0:Nat)(s_0:List Int):Prop:=(a0.rights.length<=bb->(((a0.rights.getD k_0 default).kind==1)=true->((nc a0 (f9 a1 4096 a2) (k_0:Int))/\((s_0++((ke a0 (f9 a1 4096 a2) (k_0:Int)).2)).length*8<=fB))))
@[go_sem] def nf (a1:List Deed)(s_0:List Int)(k_1:Nat)(s_1:List Int):Empty⊕(List Int):=(bif(qs s_0 ((a1.getD k_1 default).no))then .inr (s_1++([(a1.getD k_1 default).no]))else .inr s_1)
def kM (a1:List Deed)(s_0:List Int)(k_1:Nat)(s_1:List Int):Prop:=(a1.length<=bb->((qs s_0 ((a1.getD k_1 default).no))=true->((s_1++([(a1.getD k_1 default).no])).length*8<=fB)))
def p9 (a0:District)(a1:List Deed)(a2:Int):List Int×Int:=letI q0:=dG a0 a1;(bif(q0 !=0)then([],q0)else(bif((decide (a2<0)) ||(decide (a2 > 1048576)))then([],1)else(match aj (f_ a0 a1 a2) a0.rights.length 0 ([])with| .inl x=>x.elim| .inr s_0=>(match aj (nf a1 s_0) a1.length 0 ([])with| .inl x=>x.elim| .inr s_1=>(s_1,0)))))
def rf (a0:District)(a1:List Deed)(a2:Int):Prop:=letI q0:=f_ a0 a1 a2;((fG a0 a1)/\(((dG a0 a1) !=0)=false->(((decide (a2<0)) ||(decide (a2 > 1048576)))=false->((kK a1 4096 a2)/\(okI q0 (kL a0 a1 a2) a0.rights.length 0 ([])/\(∀ s_0,aj q0 a0.rights.length 0 ([])=.inr s_0->okI (nf a1 s_0) (kM a1 s_0) a1.length 0 ([])))))))
@[go_sem] def ye:List SV->Option Con:=(pD .district fun a0=>(pR .deed fun a1=>(pI fun a2=>(pE (.det (rf a0 a1 a2) (.tup [.nw .int ((p9 a0 a1 a2).1),.v (.int .i64 ((p9 a0 a1 a2).2))]))))))
theorem IL:FnOk Tryz.prog 21 ye:=by
 have hG:ConsOk Tryz.prog (mkG [(16,fun l=>lg (cX [.st .district,.sl .deed] l)),(53,fun l=>ox (cX [.sl .deed,.o,.o] l)),(54,fun l=>p8 (cX [.st .district,.sl .deed,.o] l)),(55,fun l=>uJ (cX [.sl .int,.o] l))] []):=av (cgc (mZ.norm [.st .district,.sl .deed]) (cgc (s7.norm [.sl .deed,.o,.o]) (cgc (uZ.norm [.st .district,.sl .deed,.o]) (cgc (Av.norm [.sl .int,.o]) cg0)))) cg0;refine nI [(.tmp 6,.int)] mixed al hG (fn:=Tryz.f21) (c:=ae Tryz.f21) kr kr kr kr (aS fun a0=>(dN fun a1=>(cq fun a2=>(aD (fun hp=>?_)))));dsimp only[aC]at hp;unfold rf at hp;refine⟨nbl rfl,(fun id st=>bif Nat.beq id 0 then some (LCR (ρ:=Empty) (σ:=(List Int)) 2 [.slot 10 (.row .int ([]))] [0,1,2] (fun k_0 s_0=>⟨[(1,.rs .deed a1),(3,.ptr 0 0),(9,.os 1),(10,.os 2),(11,.v (.int .i64 (k_0:Int)))],[.cells (cellsOf .district a0),.row .deed (f9 a1 4096 a2),.row .int s_0]⟩) (f_ a0 a1 a2) (kL a0 a1 a2) a0.rights.length ([]) (True) ((·.elim)) ((·.elim)) st)else bif Nat.beq id 2 then some (LCR (ρ:=Empty) (σ:=(List Int)) 3 [.slot 14 (.row .int ([]))] [0,1,2,3] (fun k_1 s_1=>⟨[(1,.rs .deed a1),(10,.os 2),(14,.os 3),(15,.v (.int .i64 (k_1:Int)))],[.dead,.dead,.row .int (cO (aj (f_ a0 a1 a2) a0.rights.length 0 ([]))),.row .int s_1]⟩) (nf a1 (cO (aj (f_ a0 a1 a2) a0.rights.length 0 ([])))) (kM a1 (cO (aj (f_ a0 a1 a2) a0.rights.length 0 ([])))) a1.length ([]) (True) ((·.elim)) ((·.elim)) st)else none),?_,?_⟩
 ·unfold ae Tryz.f21;simp only[ak,true_and,and_true];refine⟨?_,?_⟩
  ·refine dE (a0.rights.length<=bb) mixed al hG kr (fun _=>rfl) (a0.rights.length:Int) rfl gX (fun hb0 k_0 s_0 hlt0 hq0 hw hc=>⟨L0,ah _,?_⟩) (fun hb0 s_0 hc=>?_) fun hb0 k_0 s_0=>?_
   ·unfold kL at hq0;try simp only[hw,Int.toNat_natCast]at hq0
    exact xx (jl [0,1,5]) (jl [0,1,2])
   ·exact xy (jl [0,1,5]) (jl [0,1,2])
   ·exact zq7
  ·refine dE (a1.length<=bb) mixed al hG kr (fun _=>rfl) (a1.length:Int) rfl gX (fun hb1 k_1 s_1 hlt1 hq1 hw hc=>⟨L0,ah _,?_⟩) (fun hb1 s_1 hc=>?_) fun hb1 k_1 s_1=>?_
   ·unfold kM at hq1;try simp only[hw,Int.toNat_natCast]at hq1
    exact xx (jl [0,1,2,5]) (jl [0,1,2,3])
   ·exact xy (jl [0,1,2,5]) (jl [0,1,2,3])
   ·exact HT
 ·unfold ae Tryz.f21;try unfold p9
  exact zq1
@[go_sem] def gq (l_:List Deed)(x:Deed)(k_0:Nat)(s_0:Int):Unit⊕Int:=(bif((l_.getD k_0 default).no==x.no)then .inl ()else(bif(decide ((l_.getD k_0 default).no<x.no))then .inr (i64.wrap ((k_0:Int)+1))else .inr s_0))
def jB (d:District)(l_:List Deed)(x:Deed):List Deed×Int:=letI q0:=l_.take (Int.toNat (l_.length:Int));(bif((dG d l_) !=0)then([],(dG d l_))else(match aj (gq l_ x) l_.length 0 0 with| .inl x_0_0=>([],171) | .inr s_0=>(bif((dG d (((([])++((l_.take (Int.toNat s_0)).drop 0))++([x]))++(q0.drop (Int.toNat s_0)))) !=0)then([],(dG d (((([])++((l_.take (Int.toNat s_0)).drop 0))++([x]))++(q0.drop (Int.toNat s_0)))))else((((([])++((l_.take (Int.toNat s_0)).drop 0))++([x]))++(q0.drop (Int.toNat s_0))),0))))
def lP (d:District)(l_:List Deed)(x:Deed):Prop:=letI q0:=(l_.length:Int);letI q1:=l_.take (Int.toNat q0);((fG d l_)/\(((dG d l_) !=0)=false->(∀ s_0,aj (gq l_ x) l_.length 0 0=.inr s_0->((0<=0/\0<=s_0/\s_0<=q0)/\(((([])++((l_.take (Int.toNat s_0)).drop 0)).length*88<=fB)/\((([])++((l_.take (Int.toNat s_0)).drop 0)).length<=bb->((((([])++((l_.take (Int.toNat s_0)).drop 0))++([x])).length*88<=fB)/\(((([])++((l_.take (Int.toNat s_0)).drop 0))++([x])).length<=bb->((0<=s_0/\s_0<=q0/\q0<=q0)/\(((((([])++((l_.take (Int.toNat s_0)).drop 0))++([x]))++(q1.drop (Int.toNat s_0))).length*88<=fB)/\((((([])++((l_.take (Int.toNat s_0)).drop 0))++([x]))++(q1.drop (Int.toNat s_0))).length<=bb->(fG d (((([])++((l_.take (Int.toNat s_0)).drop 0))++([x]))++(q1.drop (Int.toNat s_0)))))))))))))))
@[go_sem] def uK:List SV->Option Con:=(pD .district fun d=>(pR .deed fun l_=>(pD .deed fun x=>(pE (.det (lP d l_ x) (.tup [.nw .deed ((jB d l_ x).1),.v (.int .i64 ((jB d l_ x).2))]))))))
theorem Sv {p:Prop}(h:p:=by simp only[go_sem,Nat.reduceBEq,Nat.reduceLeDiff,Nat.reduceLT,decide_true,Nat.reduceAdd,Nat.reduceSub,Nat.reduceMul,Int.reduceLE,Int.reduceLT,Int.reduceToNat,Int.reduceNeg,reduceCtorEq];all_goals exact cl4):p:=h
theorem Aw:FnOk Tryz.prog 14 uK:=by
 have hG:ConsOk Tryz.prog (mkG [(16,fun l=>lg (cX [.st .district,.sl .deed] l))] []):=av (cgc (mZ.norm [.st .district,.sl .deed]) cg0) cg0;refine nI [(.tmp 6,.deed)] mixed al hG (fn:=Tryz.f14) (c:=ae Tryz.f14) kr kr kr kr (aS fun d=>(dN fun l_=>(aS fun x=>(aD (fun hp=>?_)))));dsimp only[aC]at hp;unfold lP at hp;refine⟨nbl rfl,(fun id st=>bif Nat.beq id 0 then some (LCR (ρ:=Unit) (σ:=Int) 2 [] [0,1] (fun k_0 s_0=>⟨[(1,.rs .deed l_),(3,.ptr 0 0),(5,.ptr 1 0),(9,.v (.int .i64 s_0)),(10,.v (.int .i64 (k_0:Int)))],[.cells (cellsOf .district d),.cells (cellsOf .deed x)]⟩) (gq l_ x) pT l_.length 0 (True) (fun _=>.ret) (fun x_0_0=>⟨[(6,.v (.slice none 0 0)),(7,.v (.int .i64 171))],[.dead,.dead]⟩) st)else none),?_,?_⟩
 ·unfold ae Tryz.f14;simp only[ak,true_and,and_true]
  ·refine dE (l_.length<=bb) mixed al hG kr (fun _=>rfl) (l_.length:Int) rfl gX (fun hb0 k_0 s_0 hlt0 _ hw hc=>⟨L0,ah _,?_⟩) (fun hb0 s_0 hc=>?_) fun hb0 k_0 s_0=>?_
   ·exact bY (jl [0,1])
   ·exact bZ (jl [0,1])
   ·exact zq7
 ·unfold ae Tryz.f14;try unfold jB
  exact Sv
def fc (d:District)(l_:List Deed)(x:Deed):Bool:=letI q0:=d6 d l_ x;(bif(!kF)then false else(bif((!(qr d l_)) ||(decide ((x.parts.length:Int) > 100)))then true else((((ai d l_) ==(dG d l_))&&(na (q0.1) ((jB d l_ x).1)))&&(q0.2==(jB d l_ x).2))))
def fA (d:District)(l_:List Deed)(x:Deed):Prop:=((j7)/\((!kF)=false->(((!(qr d l_)) ||(decide ((x.parts.length:Int) > 100)))=false->((ed d l_ x)/\((lP d l_ x)/\((dl d l_)/\((fG d l_)/\(((ai d l_) ==(dG d l_))=true->(mv ((d6 d l_ x).1) ((jB d l_ x).1))))))))))
@[go_sem] def il:List SV->Option Con:=(pD .district fun d=>(pR .deed fun l_=>(pD .deed fun x=>(pE (.det (fA d l_ x) (.v (.bool (fc d l_ x))))))))
theorem pb:FnOk Tryz.prog 3 il:=by
 have hG:ConsOk Tryz.prog (mkG [(11,s3),(12,fun l=>uI (cX [.st .district,.sl .deed] l)),(13,fun l=>jV (cX [.st .district,.sl .deed,.st .deed] l)),(14,fun l=>uK (cX [.st .district,.sl .deed,.st .deed] l)),(15,fun l=>eK (cX [.st .district,.sl .deed] l)),(16,fun l=>lg (cX [.st .district,.sl .deed] l)),(17,fun l=>tb (cX [.sl .deed,.sl .deed] l))] []):=av (cgc x9 (cgc (Au.norm [.st .district,.sl .deed]) (cgc (l5.norm [.st .district,.sl .deed,.st .deed]) (cgc (Aw.norm [.st .district,.sl .deed,.st .deed]) (cgc (fu.norm [.st .district,.sl .deed]) (cgc (mZ.norm [.st .district,.sl .deed]) (cgc (yd.norm [.sl .deed,.sl .deed]) cg0))))))) cg0;refine aR [.o] mixed al hG (fn:=Tryz.f3) (c:=ae Tryz.f3) kr kr kr kr (aS fun d=>(dN fun l_=>(aS fun x=>(aD (fun hp=>?_)))));dsimp only[aC]at hp;unfold fA at hp;refine⟨nbl rfl,L0,ah _,?_⟩
 ·unfold ae Tryz.f3;try unfold fc
  exact zq1
theorem F7 {l:List Deed}(hA:Asc l)(hl:l.length<=4096){q:Nat}(x:Deed)(h1:∀ i,i<q->(l.getD i default).no<x.no)(h2:∀ i,q<=i->i<l.length->x.no<=(l.getD i default).no)(hq:q<=l.length):
  ((∃ y∈l,y.no=x.no)->aj (gq l x) l.length 0 0=.inl ())/\(¬ (∃ y∈l,y.no=x.no)->aj (gq l x) l.length 0 0=.inr (q:Int)):=by
 have key:=xf (step:=gq l x) (fun k=>((min k q:Nat):Int)) l.length (fun k=>(l.getD k default).no≠x.no) (fun k hk _=>by
  unfold gq;refine⟨fun hC=>?_,fun hC=>⟨(),?_⟩⟩
  ·have e1:((l.getD k default).no==x.no)=false:=by simpa using hC
   rw[e1,cond_false];by_cases h:k<q
   ·rw[decide_eq_true (h1 k h),cond_true,a8 (by omega) (by omega)];congr 1;omega
   ·have:=h2 k (by omega) hk;rw[decide_eq_false (by omega),cond_false];congr 1;omega
  ·have e1:((l.getD k default).no==x.no)=true:=by simpa using hC
   rw[e1,cond_true]) l.length 0 (by omega) (fun j hj=>by omega)
 have e0:((min 0 q:Nat):Int)=0:=by simp
 rw[e0]at key;have e1:((min l.length q:Nat):Int)=(q:Int):=by omega
 rw[e1]at key;constructor
 ·rintro⟨y,hy,e⟩;obtain⟨r,hr⟩:=key.2 fun ha=>by
   obtain⟨i,hi,e'⟩:=List.getElem_of_mem hy;exact ha i (Nat.zero_le _) hi (by rw[ji l _ hi,e',e])
  exact hr
 ·intro hn;exact key.1 fun k _ hk e=>hn ⟨l.getD k default,by rw[ji l _ hk];exact List.getElem_mem hk,e⟩
theorem L4 (d:District)(l:List Deed)(x:Deed):lP d l x/\jB d l x=Lb d l x:=by
 unfold Lb lP jB;simp only[EE];by_cases hc:ai d l=0
 ·have hD:=pW hc;obtain⟨_,q,q1,_,q3,q4⟩:=ED hD.asc (Nat.le_trans hD.len (by decide)) x.no;obtain⟨r1,r2⟩:=F7 hD.asc (Nat.le_trans hD.len (by decide)) x q3 q4 q1;have hl:=hD.len;have hmB:fB=140737488355328:=rfl;have hins:((([]++(l.take (Int.toNat (q:Int))).drop 0)++[x])++(l.take (Int.toNat (l.length:Int))).drop (Int.toNat (q:Int)))=t_ x l:=by
   rw[Int.toNat_natCast,Int.toNat_natCast,List.nil_append,List.drop_zero,List.take_length,List.append_assoc,<-xE hD.asc x q3 q4 q1];rfl
  rw[if_neg (by simp[hc]),hc];by_cases hx:∃ y∈l,y.no=x.no
  ·rw[r1 hx,if_pos hx];exact⟨⟨oy _ _,fun _ s h=>by cases h⟩,rfl⟩
  ·rw[r2 hx,if_neg hx];refine⟨⟨oy _ _,fun _ s h=>?_⟩,?_⟩
   ·cases h;refine⟨⟨by omega,by omega,by omega⟩,?_,fun _=>⟨?_,fun _=>⟨⟨by omega,by omega,by omega⟩,?_,fun _=>?_⟩⟩⟩
    ·rw[hmB];simp;omega
    ·rw[hmB];simp;omega
    ·rw[hins,II,hmB];omega
    ·exact oy _ _
   ·simp only[hins];by_cases hy:ai d (t_ x l)=0
    ·rw[if_neg (by simp[hy]),hy];rfl
    ·have hne:(ai d (t_ x l) !=0)=true:=by simpa using hy
     rw[if_pos hy,hne];rfl
 ·have hne:(ai d l !=0)=true:=by simpa using hc
  rw[if_pos hc,hne];exact⟨⟨oy _ _,fun h=>by cases h⟩,rfl⟩
theorem Og (d:District)(l:List Deed)(x:Deed):fA d l x:=
 ⟨Od,fun _ _=>⟨(EF d l x).1,(L4 d l x).1,gB d l,oy d l,fun _=>Of _ _⟩⟩
theorem Oh (d:District)(l:List Deed)(x:Deed):fc d l x=true:=by
 unfold fc;rw[N_,(EF d l x).2,(L4 d l x).2,EE,F6];simp
end Go.Sx
end
section
namespace Go.Sx
open Go.Deep Go.RowKit
section
variable {F:Nat->Prop}{own:Own}{w:World}
def RC (F:Nat->Prop)(own:Own)(w:World)(ks:List Kd)(cs:List Value):Prop:=
 ∃ l:List SV,nL ks l=true/\l.length=cs.length/\∀ (j:Nat) (s:SV) (v:Value),l[j]? =some s->cs[j]? =some v->Rel F own w s v
theorem Ca:∀ {a b:List Kd} {l m:List SV},nL a l=true->nL b m=true->nL (a++b) (l++m)=true
 | [],b,l,m,h1,h2=>by rw[nS h1];exact h2
 |k::a,b,l,m,h1,h2=>by
  obtain⟨x,r,rfl,e1,e2⟩:=ko h1;simp only[List.cons_append,nL,e1,Ca e2 h2,Bool.and_self]
theorem RC.nil:RC F own w [] []:=⟨[],rfl,rfl,fun j s v h=>by cases h⟩
theorem RC.app {a b:List Kd}{c d:List Value}(h1:RC F own w a c)(h2:RC F own w b d):RC F own w (a++b) (c++d):=by
 obtain⟨l,f1,n1,r1⟩:=h1;obtain⟨m,f2,n2,r2⟩:=h2;refine⟨l++m,Ca f1 f2,by simp[n1,n2],fun j s v hs hv=>?_⟩;by_cases hj:j<l.length
 ·rw[List.getElem?_append_left hj]at hs;rw[List.getElem?_append_left (by omega)]at hv;exact r1 j s v hs hv
 ·rw[List.getElem?_append_right (by omega)]at hs;rw[List.getElem?_append_right (by omega),<-n1]at hv;exact r2 _ s v hs hv
theorem RC.one {k:Kd}{s:SV}{v:Value}(h1:fit k s=true)(h2:Rel F own w s v):RC F own w [k] [v]:=
 ⟨[s],by simp[nL,h1],rfl,fun j s' v' hs hv=>by
  cases j with
  |zero=>simp only[List.getElem?_cons_zero,Option.some.injEq]at hs hv;subst hs;subst hv;exact h2
  |succ j=>simp at hs⟩
end
def Oi:Kd->Kd->Bool
 | .s,.s=>true
 | .b,.b=>true
 | .n a,.n b=>decide (a=b)
 | .r a,.r b=>decide (a=b)
 | .m a c,.m b d=>decide (a=b)&&decide (c=d)
 |_,_=>false
theorem Lc:∀ {a b:Kd},Oi a b=true->a=b:=by
 intro a b h;cases a <;>cases b <;>simp_all [Oi]
def IM:List Kd->List Kd->Bool
 | [],[] =>true
 |a::l,b::m=>Oi a b&&IM l m
 |_,_=>false
theorem EG:∀ {a b:List Kd},IM a b=true->a=b
 | [],[],_=>rfl
 |a::l,b::m,h=>by
  simp only[IM,Bool.and_eq_true]at h;rw[Lc h.1,EG h.2]
def xF (P:Program)(g:TypeId->Option (List Kd)):List Field->Nat->Nat->Option (List Kd)
 | [],off,tot=>bif Nat.beq off tot then some []else none
 |f::r,off,tot=>match g f.type with
  |some a=>bif Nat.beq f.offset off&&Nat.beq a.length (P.cellsOf f.type)then(xF P g r (off+a.length) tot).map (a++ ·)else none
  |none=>none
def Dz (a:List Kd):Nat->List Kd
 |0=>[]
 |n+1=>a++Dz a n
def xG (P:Program):Nat->TypeId->Option (List Kd)
 |0,_=>none
 |n+1,t=>match P.underlying t with
  |some .bool=>some [.b]
  |some (.int k) =>some [.n k]
  |some .string=>some [.s]
  |some (.slice e) =>match AC P e,xG P n e with
   |some k,some ks=>bif IM ks (ct k)&&Nat.beq (P.cellsOf e) (aa k)&&Nat.ble 1 (aa k)then some [.r k]else none
   |_,_=>none
  |some (.struct fs) =>xF P (xG P n) fs.toList 0 (P.cellsOf t)
  |some (.array m e) =>match xG P n e with
   |some a=>bif Nat.beq a.length (P.cellsOf e)&&Nat.beq (P.cellsOf t) (m*a.length)then some (Dz a m)else none
   |none=>none
  |_=>none
section
variable {H:Type}{enc:TypeId×Value->H}{P:Program}{F:Nat->Prop}{own:Own}{w:World}{base:Nat}{spare:Nat->Bool}{held:Bool}{S:DataW H->Prop}
theorem EH {g:TypeId->Option (List Kd)}(hg:∀ t ks,g t=some ks->∀ (fuel:Nat) (cs:List Value) (x:DataW H×List MemPlace),DataW.trod enc P w base spare held fuel t cs=some x->S x.1->RC F own w ks cs)
  (fuel:Nat) (cs:List Value):∀ (fs:List Field) (off:Nat) (ks:List Kd),xF P g fs off cs.length=some ks->(∀ f∈fs,∃ x,DataW.trod enc P w base spare held fuel f.type ((cs.drop f.offset).take (P.cellsOf f.type))=some x/\S x.1)->RC F own w ks (cs.drop off)
 | [],off,ks,h,_=>by
  unfold xF at h;cases hb:Nat.beq off cs.length with
  |false=>rw[hb]at h;cases h
  |true=>
   rw[hb]at h;have:off=cs.length:=Nat.eq_of_beq_eq_true hb;subst this;cases h;rw[List.drop_length];exact RC.nil
 |f::r,off,ks,h,hx=>by
  unfold xF at h;cases ha:g f.type with
  |none=>rw[ha]at h;cases h
  |some a=>
   rw[ha]at h;dsimp only at h;cases hb:Nat.beq f.offset off&&Nat.beq a.length (P.cellsOf f.type)with
   |false=>rw[hb]at h;cases h
   |true=>
    rw[hb]at h;simp only[cond_true,Option.map_eq_some_iff]at h;obtain⟨ks2,h2,rfl⟩:=h;rw[Bool.and_eq_true]at hb;have e1:f.offset=off:=Nat.eq_of_beq_eq_true hb.1;have e2:a.length=P.cellsOf f.type:=Nat.eq_of_beq_eq_true hb.2;obtain⟨x,hx1,hs1⟩:=hx f (by simp);have h3:=hg _ _ ha _ _ _ hx1 hs1;have h4:=EH hg fuel cs r (off+a.length) ks2 h2 fun f hf=>hx f (by simp[hf]);have:=h3.app h4;rw[e1,<-e2]at this
    rwa[<-List.drop_drop,List.take_append_drop]at this
theorem EI {e:TypeId}{a:List Kd}(ha:∀ (fuel:Nat) (cs:List Value) (x:DataW H×List MemPlace),DataW.trod enc P w base spare held fuel e cs=some x->S x.1->RC F own w a cs)
  (fuel:Nat):∀ (m:Nat) (cs:List Value),cs.length=m*a.length->(∀ i,i<m->∃ x,DataW.trod enc P w base spare held fuel e ((cs.drop (i*a.length)).take a.length)=some x/\S x.1)->RC F own w (Dz a m) cs
 |0,cs,h,_=>by
  have:cs=[]:=by simpa using h
  subst this;exact RC.nil
 |m+1,cs,h,hx=>by
  obtain⟨x,hx1,hs1⟩:=hx 0 (by omega);rw[Nat.zero_mul,List.drop_zero]at hx1;have h3:=ha _ _ _ hx1 hs1;have h4:=EI ha fuel m (cs.drop a.length) (by rw[List.length_drop,h,Nat.succ_mul];omega) fun i hi=>by
   obtain⟨x,hx2,hs2⟩:=hx (i+1) (by omega);refine⟨x,?_,hs2⟩;rw[List.drop_drop]
   rwa[Nat.succ_mul,Nat.add_comm]at hx2
  have:=h3.app h4
  rwa[List.take_append_drop]at this
structure Small (S:DataW H->Prop):Prop where
 agg:∀ l,S (.agg l)->∀ d∈l,S d
 slice:∀ l m,S (.slice l m)->l.length<=bb/\∀ d∈l,S d
theorem kO (hS:Small S)(hown:∀ b,¬bG F own b):∀ (n:Nat) (t:TypeId) (ks:List Kd),xG P n t=some ks->∀ (fuel:Nat) (cs:List Value) (x:DataW H×List MemPlace),DataW.trod enc P w base spare held fuel t cs=some x->S x.1->RC F own w ks cs
 |0,_,_,h,_,_,_,_,_=>by cases h
 |n+1,t,ks,h,fuel,cs,x,hx,hs=>by
  unfold xG at h;split at h
  ·rename_i ht;cases h;obtain⟨b,rfl,rfl⟩:=DataW.trod_bool ht hx;exact RC.one (s:=.v (.bool b)) rfl (.v _)
  ·rename_i k ht;cases h;obtain⟨m,rfl,rfl,_⟩:=DataW.trod_int ht hx;exact RC.one (s:=.v (.int k m)) (by simp[fit]) (.v _)
  ·rename_i ht;cases h;obtain⟨b,rfl,rfl,_⟩:=DataW.trod_string ht hx;exact RC.one (s:=.v (.string b)) rfl (.v _)
  ·rename_i e ht;split at h
   ·rename_i k ks2 hk hks;cases hb:IM ks2 (ct k)&&Nat.beq (P.cellsOf e) (aa k)&&Nat.ble 1 (aa k)with
    |false=>rw[hb]at h;cases h
    |true=>
     rw[hb]at h;cases h;simp only[Bool.and_eq_true]at hb;have e1:=EG hb.1.1;have e2:P.cellsOf e=aa k:=Nat.eq_of_beq_eq_true hb.1.2;have e3:1<=aa k:=nbl hb.2;subst e1;rcases open_slice ht hx with⟨rfl,rfl⟩ | ⟨a,len,cap,m,f2,D,Pl,rfl,hb1,hl,hm,hmm,rfl,hel⟩
     ·exact RC.one (s:=.rs k []) (by simp[fit]) .rs0
     ·have hlm:len<=m:=by subst hmm;split <;>omega
      obtain⟨hs1,hs2⟩:=hS.slice _ _ hs;simp only[List.length_map,List.length_range]at hs1;have helt:∀ i,i<len->∃ cs',cs'.length=aa k/\(∀ j v,cs'[j]? =some v->w.cell? ((a.add (i*aa k)).add j)=some v)/\RC F own w (ct k) cs':=fun i hi=>by
       obtain⟨cs',h1,h2⟩:=hel i (by omega);have h3:=kO hS hown n e (ct k) hks f2 cs' _ h2 (hs2 _ (List.mem_map_of_mem (List.mem_range.2 hi)));unfold World.cells? at h1;split at h1
       ·refine⟨cs',by rw[mapM_some_length h1,List.length_range,e2],fun j v hj=>?_,h3⟩;have hlt:j<P.cellsOf e:=by
         have:=(List.getElem?_eq_some_iff.1 hj).1
         rwa[mapM_some_length h1,List.length_range]at this
        have:=mapM_some_get h1 j j (by simp[hlt]);rw[e2]at this;rw[this,hj]
       ·cases h1
      by_cases h0:len=0
      ·subst h0;exact RC.one (s:=.rs k []) (by simp[fit]) .rs0
      ·have hsp:a.spot=none:=by
        obtain⟨cs',h1,h2,_⟩:=helt 0 (by omega);have:=h2 0 (cs'[0]'(by omega)) (by rw[List.getElem?_eq_getElem]);rw[Nat.zero_mul]at this;simp only[Addr.add,if_true]at this;unfold World.cell? at this;split at this
        ·cases hsp:a.spot with
         |none=>rfl
         |some q=>rw[hsp]at this;simp at this
        ·cases this
       obtain⟨ab,ao,asp⟩:=a;dsimp only at hsp;subst hsp
       haveI:Inhabited k.T:=⟨dA k⟩
       obtain⟨X,hX⟩:=choose_lt (p:=fun i (x:k.T) =>∀ (j:Nat) (s:SV),(cellsOf k x)[j]? =some s->∃ v,w.cell? ⟨ab,ao+i*aa k+j,none⟩=some v/\Rel F own w s v) (n:=len) fun i hi=>by
        obtain⟨cs',h1,h2,l,h3,h4,h5⟩:=helt i hi;refine⟨mkE k l,fun j s hj=>?_⟩;rw[lp (k:=k) (l:=l) (x:=mkE k l) (by unfold nM;rw[h3];rfl)]at hj;have hlt:j<cs'.length:=by
         have:=(List.getElem?_eq_some_iff.1 hj).1;omega
        refine⟨cs'[j],?_,h5 j s _ hj (List.getElem?_eq_getElem hlt)⟩;have:=h2 j cs'[j] (List.getElem?_eq_getElem hlt);have hadd:∀ p q,((⟨ab,ao,none⟩:Addr).add p).add q=⟨ab,ao+p+q,none⟩:=fun p q=>by
         unfold Addr.add;by_cases hp:p=0 <;>by_cases hq:q=0 <;>simp[hp,hq]
        rwa[hadd]at this
       have hL:((List.range len).map X).length=len:=by simp
       refine RC.one (s:=.rs k ((List.range len).map X)) (by simp[fit]) ?_;have hget:∀ (i:Nat) (x:k.T),((List.range len).map X)[i]? =some x->i<len/\x=X i:=fun i x hi=>by
        obtain⟨h1,h2⟩:=List.getElem?_eq_some_iff.1 hi;rw[hL]at h1;simp only[List.getElem_map,List.getElem_range]at h2;subst h2;exact⟨h1,rfl⟩
       have:=Rel.rs (F:=F) (own:=own) (w:=w) (k:=k) (l:=(List.range len).map X) (b:=ab) (o:=ao) (cap:=cap) (fun i j=>(w.cell? ⟨ab,ao+i*aa k+j,none⟩).getD undef) (by rw[hL];exact hl) (by rw[hL];exact hs1)
        (fun i x hi j s hj=>by
         obtain⟨h1,rfl⟩:=hget i x hi;obtain⟨v,h2,_⟩:=hX i h1 j s hj;exact⟨hown _,by rw[h2];rfl⟩)
        (fun i x hi j s hj=>by
         obtain⟨h1,rfl⟩:=hget i x hi;obtain⟨v,h2,h3⟩:=hX i h1 j s hj;rw[h2];exact h3)
       rwa[hL]at this
   ·cases h
  ·rename_i fs ht;obtain⟨xs,m,rfl,rfl,hl,hlen,hf⟩:=DataW.trod_struct ht hx;rw[<-hl]at h;have:=EH (kO hS hown n) m cs fs.toList 0 ks h fun f hfm=>by
    obtain⟨i,hi,rfl⟩:=List.getElem_of_mem hfm;have hi':i<fs.size:=by simpa using hi
    have h1:=hf i fs[i] (by simp[hi']);rw[List.getElem?_eq_getElem (by omega)]at h1;refine⟨_,by simpa using h1,hS.agg _ hs _ (List.mem_map_of_mem (List.getElem_mem _))⟩
   simpa using this
  ·rename_i m e ht;split at h
   ·rename_i a ha;cases hb:Nat.beq a.length (P.cellsOf e)&&Nat.beq (P.cellsOf t) (m*a.length)with
    |false=>rw[hb]at h;cases h
    |true=>
     rw[hb]at h;cases h;rw[Bool.and_eq_true]at hb;have e1:a.length=P.cellsOf e:=Nat.eq_of_beq_eq_true hb.1;have e2:P.cellsOf t=m*a.length:=Nat.eq_of_beq_eq_true hb.2;obtain⟨xs,f2,rfl,rfl,hl,hlen,hf⟩:=DataW.trod_array ht hx;refine EI (kO hS hown n e a ha) f2 m cs (by rw[hl,e2]) fun i hi=>?_;have h1:=hf i hi;rw[List.getElem?_eq_getElem (by omega),<-e1]at h1;exact⟨_,h1,hS.agg _ hs _ (List.mem_map_of_mem (List.getElem_mem _))⟩
   ·cases h
  ·cases h
end
end Go.Sx
end
section
namespace Go.Sx
open Go.Proofs
section
variable {F:Nat->Prop}{own:Own}{w:World}
theorem EJ {k:Tag}{cs:Array Value}(h:RC F own w (ct k) cs.toList):∃ x:k.T,Rel F own w (.agg (cellsOf k x)) (.agg cs):=by
 obtain⟨l,h3,h4,h5⟩:=h;refine⟨mkE k l,?_⟩;rw[lp (k:=k) (l:=l) (x:=mkE k l) (by unfold nM;rw[h3];rfl)];refine .agg (by simpa using h4.symm) fun j s hj=>?_;have hlt:j<cs.size:=by
  have:=(List.getElem?_eq_some_iff.1 hj).1;simpa[h4]using this
 exact h5 j s _ hj (by simp[Array.getD,hlt])
theorem Oj {k:Tag}{v:Value}(h:RC F own w [.r k] [v]):∃ l:List k.T,Rel F own w (.rs k l) v:=by
 obtain⟨l,h3,h4,h5⟩:=h;obtain⟨x,r,rfl,h6,h7⟩:=ko h3;have h8:=h5 0 x v rfl rfl;cases x with
 |rs k' l'=>
  have:k=k':=by
   simp only[fit]at h6;exact r6 h6
  subst this;exact⟨l',h8⟩
 |_=>simp[fit]at h6
end
end Go.Sx
end
section
namespace Go.Sx
open Go.ChangeShapes Go.RowKit Go.WideShapes
section
variable {H:Type}{enc:TypeId×Value->H}{P:Program}
def Ld (P:Program):List TypeId->Bool
 | [] =>true
 |t::r=>P.readableRec t&&Nat.blt t P.types.size&&Ld P r
theorem za (hl:laidOutB P=true){W W':World}(hg:Below W.heap.size W W'):∀ {ts:List TypeId} {vs:List Value} {ds:List (DataW H)} {ps:List MemPlace},Ld P ts=true->
  DataW.TrodAll enc P W 0 (fun _=>true) true ts vs ds ps->(∀ x∈ps,x.block<W.heap.size)->DataW.TrodAll enc P W' 0 (fun b=>decide (b<W.heap.size)) true ts vs ds ps
 | [],vs,ds,ps,_,h,_=>by
  obtain⟨rfl,rfl,rfl⟩:=trodAll_nil h;exact trodAll_mk0
 |t::ts,vs,ds,ps,hk,h,hlt=>by
  unfold Ld at hk;rw[Bool.and_eq_true,Bool.and_eq_true]at hk;obtain⟨v,vs',d,ds',p,q,rfl,rfl,rfl,h1,h2⟩:=trodAll_cons h;refine trodAll_cons_mk (WideElems.Trod_stays hl hk.1.1 (by simpa[Nat.blt_eq]using hk.1.2) h1 (fun x hx=>hg.same (hlt x (List.mem_append_left _ hx))) (fun x hx=>by simpa using hlt x (List.mem_append_left _ hx))) ?_;exact za hl hg hk.2 h2 fun x hx=>hlt x (List.mem_append_right _ hx)
theorem IN (hl:laidOutB P=true){f:Func}{s:ChangeSpec}{W W':World}{args:Array Value}{ds gs:List (DataW H)}{before:List MemPlace}{t:TypeId}
  (hk:Ld P f.params.toList=true) (hW:DataW.Whole enc P f.params.toList s.vars false W args.toList ds gs before)
  (hr:f.resultTypes= #[t]) (ht:P.underlying t=some .bool) (hv:s.vars=[]) (h1:(s.fn H (ds++gs)).results=[.lit (.bool true)]) (h2:(s.fn H (ds++gs)).args=ds) (h3:(s.fn H (ds++gs)).vars=[])
  (hg:Below W.heap.size W W'):s.post enc P f false true false false W args (.bool true) W':=by
 have hlt:=hW.lt;have hW0:=hW;obtain⟨p,q,hA,hV,rfl,_,_⟩:=hW;rw[hv]at hV;obtain⟨rfl,rfl⟩:=trodVars_none hV;refine⟨ds,[],p++[],[],p,[],hW0,?_,?_,?_,?_,fun h=>by cases h⟩
 ·rw[h1,hr];exact trodAll_cons_mk (shut_bool ht _) trodAll_mk0
 ·rw[h2];exact za hl hg hk hA fun x hx=>hlt x (by simpa using hx)
 ·rw[h3,hv];rfl
 ·exact World.keptBut_mono (fun x hx=>⟨hx,.inr (.inl (by simpa using hx))⟩) (hg.frame (· ∈p++[]))
end
end Go.Sx
end
section
namespace Go.Proofs.YthcbieoehjhjfaaGreat.bulks
theorem one_le {H:Type}(d:DataW H):1<=Rows.uptoBulk d:=by
 cases d with
 |lit l=>cases l <;>simp[Rows.uptoBulk]
 |nil=>simp[Rows.uptoBulk]
 |ptr d=>simp[Rows.uptoBulk]
 |slice mb spare=>simp[Rows.uptoBulk]
 |agg parts=>simp[Rows.uptoBulk]
 |iface t d=>simp[Rows.uptoBulk]
 |map entries=>simp[Rows.uptoBulk]
 |held h=>simp[Rows.uptoBulk]
theorem part_le {H:Type}{d:DataW H}{l:List (DataW H)}(h:d∈l):Rows.uptoBulk d<=Rows.uptoBulkAll l:=by
 induction l with
 |nil=>cases h
 |cons x r ih=>
  simp only[Rows.uptoBulkAll];cases List.mem_cons.1 h with
  |inl e=>subst e;omega
  |inr e=>have:=ih e;omega
theorem append {H:Type}(l r:List (DataW H)):Rows.uptoBulkAll (l++r)=Rows.uptoBulkAll l+Rows.uptoBulkAll r:=by
 induction l with
 |nil=>simp[Rows.uptoBulkAll]
 |cons x l ih=>simp only[List.cons_append,Rows.uptoBulkAll,ih];omega
theorem length_le {H:Type}(l:List (DataW H)):l.length<=Rows.uptoBulkAll l:=by
 induction l with
 |nil=>simp[Rows.uptoBulkAll]
 |cons x r ih=>have:=one_le x;simp only[Rows.uptoBulkAll,List.length_cons];omega
theorem slice_le {H:Type}(mb spare:List (DataW H)):mb.length+spare.length+1<=Rows.uptoBulk (.slice mb spare):=by
 have h1:=length_le mb;have h2:=length_le spare;simp only[Rows.uptoBulk];omega
theorem slice_elems {H:Type}(mb spare:List (DataW H)):Rows.uptoBulkAll mb+1<=Rows.uptoBulk (.slice mb spare):=by
 simp only[Rows.uptoBulk];omega
theorem bound {H:Type}{l:List (DataW H)}(hk:Rows.uptoSmall H l=true):Rows.uptoBulkAll l<=1048576:=by
 simpa[Rows.uptoSmall]using hk
theorem room {n b:Nat}(hn:n<=2097152)(hb:b<=4096):(n+n / 4+192)*b<=281474976710656:=by
 have h:(n+n / 4+192)*b<=2621632*4096:=Nat.mul_le_mul (by omega) hb;omega
end Go.Proofs.YthcbieoehjhjfaaGreat.bulks
end
