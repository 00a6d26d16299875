/- Part of the proof that the law RefuseEither returns true and leaves its arguments as they were, for all arguments of bulk at most 1048576 (the Upto form). -/
import Derived.Test.YtaikmgjfkejlkaaGreatE110
import Derived.Test.YtaikmgjfkejlkaaGreatE107
import Derived.Test.YtaikmgjfkejlkaaGreatE108
import Derived.Test.YtaikmgjfkejlkaaGreatE109
import Derived.Shelf.SlSortCmp.NoneTotal
import Derived.Ground.SlsfProg
import Derived.Test.YtaikmgjfkejlkaaGreatE103
import Derived.Test.YtaikmgjfkejlkaaGreatProg
set_option linter.all false
set_option maxHeartbeats 4000000
set_option maxRecDepth 100000
section
namespace Go.Sx
open Go.Proofs
open IntKind (i64)
variable {l0 l1:List Nat}{p:Prop}
theorem Nk(a0:JL l0)(a1:JL l1)(h:JL l0->JL l1->p:=by intro ja jb;(first|done|(repeat' (first|with_reducible refine And.intro ?_ ?_|((with_reducible show _≠_);first|assumption|omega|(simp_all [cy,ei];done) |grind) |with_reducible intro _)) <;>(first|done|with_reducible exact Empty.elim ‹Empty› |with_reducible assumption|rfl|omega|assumption|decide|exact fk ja|exact fk jb|(simp only[*,cond_true,cond_false,alj,als,go_sem];done) |(simp only[*,cond_true,cond_false,alj,als,go_sem];(repeat' (first|with_reducible refine And.intro ?_ ?_|((with_reducible show _≠_);first|assumption|omega|(simp_all [cy,ei];done) |grind) |with_reducible intro _)) <;>(first|done|assumption|rfl|omega|decide|exact fk ja|exact fk jb|(simp_all [cy,ei];done))) |(simp_all [okI,cy,ei];done) |(simp_all [cy,ei];(first|done|exact fk2 ja|exact fk2 jb)) |exact fk2 ja|exact fk2 jb|(simp_all only[cy,ei,cond_true,cond_false];(first|done|exact fk ja|exact fk jb|exact fk2 ja|exact fk2 jb|(simp only[go_sem];((repeat' (first|with_reducible refine And.intro ?_ ?_|((with_reducible show _≠_);first|assumption|omega|(simp_all [cy,ei];done) |grind) |with_reducible intro _)) <;>(first|done|rfl|exact fk ja|exact fk jb|exact fk2 ja|exact fk2 jb)))))))):p:=h a0 a1
theorem Nl(a0:JL l0)(h:JL l0->p:=by intro ja;(first|done|(repeat' (first|with_reducible refine And.intro ?_ ?_|((with_reducible show _≠_);first|assumption|omega|(simp_all [cy,ei];done) |grind) |with_reducible intro _)) <;>(first|done|with_reducible exact Empty.elim ‹Empty› |with_reducible assumption|rfl|omega|assumption|decide|exact fk ja|(simp only[*,cond_true,cond_false,alj,als,go_sem];done) |(simp only[*,cond_true,cond_false,alj,als,go_sem];(repeat' (first|with_reducible refine And.intro ?_ ?_|((with_reducible show _≠_);first|assumption|omega|(simp_all [cy,ei];done) |grind) |with_reducible intro _)) <;>(first|done|assumption|rfl|omega|decide|exact fk ja|(simp_all [cy,ei];done))) |(simp_all [okI,cy,ei];done) |(simp_all [cy,ei];(first|done|exact fk2 ja)) |exact fk2 ja|(simp_all only[cy,ei,cond_true,cond_false];(first|done|exact fk ja|exact fk2 ja|(simp only[go_sem];((repeat' (first|with_reducible refine And.intro ?_ ?_|((with_reducible show _≠_);first|assumption|omega|(simp_all [cy,ei];done) |grind) |with_reducible intro _)) <;>(first|done|rfl|exact fk ja|exact fk2 ja)))))))):p:=h a0
theorem F8(a0:JL l0)(a1:JL l1)(h:JL l0->JL l1->p:=by intro ja jb;simp only[go_sem,hc,hw];all_goals exact Nk ja jb):p:=h a0 a1
theorem F9(a0:JL l0)(a1:JL l1)(h:JL l0->JL l1->p:=by intro ja jb;simp only[go_sem,hc];all_goals exact Nk ja jb):p:=h a0 a1
theorem Nm(a0:JL l0)(h:JL l0->p:=by intro ja;simp only[go_sem,hc,hw];all_goals exact Nl ja):p:=h a0
theorem Nn(a0:JL l0)(h:JL l0->p:=by intro ja;simp only[go_sem,hc];all_goals exact Nl ja):p:=h a0
@[go_sem] def eo (a1:List bn)(k_0:Nat)(x4:List Int×List Int)(k_1:Nat)(s_1:List Int×Int):Empty⊕(List Int×Int):=letI q3:=a1.getD k_0 default;letI q0:=(q3.parts).getD k_1 default;letI q1:=gk (q0.share) (x4.2.getD (Int.toNat (q3.since)) 0);letI q2:=Int.toNat (q0.gl);.inr ((s_1.1.set q2 (i64.wrap ((s_1.1.getD q2 0)+q1.1))),(i64.wrap (s_1.2 - q1.1)))
def lj (a1:List bn)(k_0:Nat)(x4:List Int×List Int)(k_1:Nat)(s_1:List Int×Int):Prop:=letI q2:=a1.getD k_0 default;letI q0:=(q2.parts).getD k_1 default;letI q1:=0<=q0.gl/\q0.gl< (s_1.1.length:Int);((q2.parts).length<=aN->((nh (q0.share) (x4.2.getD (Int.toNat (q2.since)) 0))/\(q1/\q1)))
@[go_sem] def nM (a1:List bn)(k_0:Nat)(s_1:List Int×Int)(k_2:Nat)(s_2:List Int):Empty⊕(List Int):=.inr (s_2.set (Int.toNat ((((a1.getD k_0 default).parts).getD k_2 default).gl)) (i64.wrap ((s_2.getD (Int.toNat ((((a1.getD k_0 default).parts).getD k_2 default).gl)) 0)+1)))
def ll (a1:List bn)(k_0:Nat)(s_1:List Int×Int)(k_2:Nat)(s_2:List Int):Prop:=letI q2:=(a1.getD k_0 default).parts;letI q0:=q2.getD k_2 default;letI q1:=0<=q0.gl/\q0.gl< (s_2.length:Int);((0<=(k_2:Int)/\(k_2:Int) < (q2.length:Int))/\(q1/\q1))
@[go_sem] def iq (a1:List bn)(a2:Int)(k_0:Nat)(x4:List Int×List Int):Empty⊕(List Int×List Int):=letI q1:=a1.getD k_0 default;letI q2:=Int.toNat (q1.since);letI q3:=x4.2.getD q2 0;letI q4:=x4.2.set q2 0;letI q5:=Int.toNat (q1.to);letI q0:=bif(q1.kind==1)then(q4.set q5 (i64.wrap ((q4.getD q5 0)+q3)))else q4;(bif(q1.right !=a2)then .inr (x4.1,x4.2)else(bif(q3==0)then .inr ((x4.1++([q1.no])),x4.2)else(bif(q1.kind==2)then(match aj (eo a1 k_0 x4) ((q1.parts).length) 0 (q0,q3)with| .inl x=>x.elim| .inr s_1=>(match aj (nM a1 k_0 s_1) (Int.toNat s_1.2) 0 s_1.1 with| .inl x=>x.elim| .inr s_2=>.inr (x4.1,s_2)))else .inr (x4.1,q0))))
def ij (a1:List bn)(a2:Int)(k_0:Nat)(x4:List Int×List Int):Prop:=letI q0:=a1.getD k_0 default;letI q2:=Int.toNat (q0.since);letI q3:=x4.2.set q2 0;letI q4:=0<=q0.since/\q0.since< (x4.2.length:Int);letI q5:=x4.2.getD q2 0;letI q6:=0<=q0.to/\q0.to< (q3.length:Int);letI q7:=eo a1 k_0 x4;letI q8:=(q0.parts).length;letI q9:=Int.toNat (q0.to);letI q1:=((bif(q0.kind==1)then(q3.set q9 (i64.wrap ((q3.getD q9 0)+q5)))else q3),q5);(a1.length<=aN->((q0.right !=a2)=false->(q4/\(((q5==0)=true->((x4.1++([q0.no])).length*8<=d8))/\((q5==0)=false->(q4/\(((q0.kind==1)=true->(q6/\q6))/\((q0.kind==2)=true->(okI q7 (lj a1 k_0 x4) q8 0 q1/\(∀ s_1,aj q7 q8 0 q1=.inr s_1->((s_1.2<9223372036854775808)/\okI (nM a1 k_0 s_1) (ll a1 k_0 s_1) (Int.toNat s_1.2) 0 s_1.1)))))))))))
def eQ (a0:ah)(a1:List bn)(a2:Int):List Int×List Int:=letI q0:=a0.ai.getD (Int.toNat a2) default;(match aj (iq a1 a2) a1.length 0 ([],((List.replicate (Int.toNat (a0.zs.length:Int)) (0:Int)).set (Int.toNat (q0.gl)) q0.dd))with| .inl x=>x.elim| .inr x4=>(x4.2,x4.1))
def oU (a0:ah)(a1:List bn)(a2:Int):Prop:=letI q0:=(a0.zs.length:Int);letI q1:=a0.ai.getD (Int.toNat a2) default;letI q2:=List.replicate (Int.toNat q0) (0:Int);letI q3:=0<=a2/\a2< (a0.ai.length:Int);(a0.zs.length<=aN->((q0=q0/\0<=q0/\q0*((8:Nat):Int)<=((d8:Nat):Int))/\(q0<=((aN:Nat):Int)->(q3/\(q3/\((0<=q1.gl/\q1.gl< (q2.length:Int))/\okI (iq a1 a2) (ij a1 a2) a1.length 0 ([],(q2.set (Int.toNat (q1.gl)) q1.dd))))))))
@[go_sem] def F_:List SV->Option Con:=(pD .al λa0=>(pR .B1 λa1=>(pI λa2=>(pE (.det (oU a0 a1 a2) (.tup [.nw .int ((eQ a0 a1 a2).1),.nw .int ((eQ a0 a1 a2).2)]))))))
theorem DE:P1 Tryz.prog 186 F_:=by
 have hG:=mG (cp FF W2) W2;refine fW hG Tryz.f186 [(.tmp 6,.int),(.tmp 7,.int)] (az λa0=>(bM λa1=>(aG λW=>(am (λhp=>?_)))));dsimp only[an]at hp;unfold oU at hp;refine⟨nbl rfl,(λid st=>bif Nat.beq id 0 then some (LCR (ρ:=Empty) (σ:=(List Int×List Int)) 2 [.slot 9 (.row .int ([]))] [0,1,2] (λE O=>⟨[(1,.rs .B1 a1),(2,.v (.int .i64 W)),(8,.os 1),(9,.os 2),(10,.v (.int .i64 (E:Int)))],[.dead,.row .int O.2,.row .int O.1]⟩) (iq a1 W) (ij a1 W) a1.length ([],((List.replicate (Int.toNat (a0.zs.length:Int)) (0:Int)).set (Int.toNat ((a0.ai.getD (Int.toNat W) (default:aoU)).gl)) (a0.ai.getD (Int.toNat W) (default:aoU)).dd)) (True) ((·.elim)) ((·.elim)) st)else none),?_,?_⟩;unfold ae Tryz.f186;simp only[ak,true_and,and_true];refine d9 (a1.length<=aN) mixed aJ hG kr (λ_=>rfl) (a1.length:Int) rfl fH (λhb0 E O apq hq0 hw hc=>⟨(λid st=>bif Nat.beq id 1000069 then some (JC (⟨[(1,.rs .B1 a1),(2,.v (.int .i64 W)),(8,.os 1),(9,.os 2),(10,.v (.int .i64 (E:Int))),(11,.ptr 3 0),(12,.v (.int .i64 (O.2.getD (Int.toNat ((a1.getD E (default:bn)).since)) (0:Int))))],[.dead,.row .int (bif((a1.getD E (default:bn)).kind==1)then((O.2.set (Int.toNat ((a1.getD E (default:bn)).since)) 0).set (Int.toNat ((a1.getD E (default:bn)).to)) (i64.wrap (((O.2.set (Int.toNat ((a1.getD E (default:bn)).since)) 0).getD (Int.toNat ((a1.getD E (default:bn)).to)) (0:Int))+(O.2.getD (Int.toNat ((a1.getD E (default:bn)).since)) (0:Int)))))else(O.2.set (Int.toNat ((a1.getD E (default:bn)).since)) 0)),.row .int O.1,.cells (cellsOf .B1 (a1.getD E (default:bn)))]⟩))else bif Nat.beq id 2 then some (LCR (ρ:=Empty) (σ:=(List Int×Int)) 4 [] [0,1,2,3] (λY V=>⟨[(1,.rs .B1 a1),(2,.v (.int .i64 W)),(8,.os 1),(9,.os 2),(10,.v (.int .i64 (E:Int))),(11,.ptr 3 0),(12,.v (.int .i64 (O.2.getD (Int.toNat ((a1.getD E (default:bn)).since)) (0:Int)))),(13,.v (.int .i64 V.2)),(14,.v (.int .i64 (Y:Int)))],[.dead,.row .int V.1,.row .int O.1,.cells (cellsOf .B1 (a1.getD E (default:bn)))]⟩) (eo a1 E O) (lj a1 E O) (((a1.getD E (default:bn)).parts).length) ((bif((a1.getD E (default:bn)).kind==1)then((O.2.set (Int.toNat ((a1.getD E (default:bn)).since)) 0).set (Int.toNat ((a1.getD E (default:bn)).to)) (i64.wrap (((O.2.set (Int.toNat ((a1.getD E (default:bn)).since)) 0).getD (Int.toNat ((a1.getD E (default:bn)).to)) (0:Int))+(O.2.getD (Int.toNat ((a1.getD E (default:bn)).since)) (0:Int)))))else(O.2.set (Int.toNat ((a1.getD E (default:bn)).since)) 0)),(O.2.getD (Int.toNat ((a1.getD E (default:bn)).since)) (0:Int))) (True) ((·.elim)) ((·.elim)) st)else bif Nat.beq id 4 then some (LCR (ρ:=Empty) (σ:=(List Int)) 4 [] [0,1,2,3] (λk_2 X=>⟨[(1,.rs .B1 a1),(2,.v (.int .i64 W)),(8,.os 1),(9,.os 2),(10,.v (.int .i64 (E:Int))),(11,.ptr 3 0),(13,.v (.int .i64 (cy (aj (eo a1 E O) (((a1.getD E (default:bn)).parts).length) 0 ((bif((a1.getD E (default:bn)).kind==1)then((O.2.set (Int.toNat ((a1.getD E (default:bn)).since)) 0).set (Int.toNat ((a1.getD E (default:bn)).to)) (i64.wrap (((O.2.set (Int.toNat ((a1.getD E (default:bn)).since)) 0).getD (Int.toNat ((a1.getD E (default:bn)).to)) (0:Int))+(O.2.getD (Int.toNat ((a1.getD E (default:bn)).since)) (0:Int)))))else(O.2.set (Int.toNat ((a1.getD E (default:bn)).since)) 0)),(O.2.getD (Int.toNat ((a1.getD E (default:bn)).since)) (0:Int))))).2)),(18,.v (.int .i64 (k_2:Int)))],[.dead,.row .int X,.row .int O.1,.cells (cellsOf .B1 (a1.getD E (default:bn)))]⟩) (nM a1 E (cy (aj (eo a1 E O) (((a1.getD E (default:bn)).parts).length) 0 ((bif((a1.getD E (default:bn)).kind==1)then((O.2.set (Int.toNat ((a1.getD E (default:bn)).since)) 0).set (Int.toNat ((a1.getD E (default:bn)).to)) (i64.wrap (((O.2.set (Int.toNat ((a1.getD E (default:bn)).since)) 0).getD (Int.toNat ((a1.getD E (default:bn)).to)) (0:Int))+(O.2.getD (Int.toNat ((a1.getD E (default:bn)).since)) (0:Int)))))else(O.2.set (Int.toNat ((a1.getD E (default:bn)).since)) 0)),(O.2.getD (Int.toNat ((a1.getD E (default:bn)).since)) (0:Int)))))) (ll a1 E (cy (aj (eo a1 E O) (((a1.getD E (default:bn)).parts).length) 0 ((bif((a1.getD E (default:bn)).kind==1)then((O.2.set (Int.toNat ((a1.getD E (default:bn)).since)) 0).set (Int.toNat ((a1.getD E (default:bn)).to)) (i64.wrap (((O.2.set (Int.toNat ((a1.getD E (default:bn)).since)) 0).getD (Int.toNat ((a1.getD E (default:bn)).to)) (0:Int))+(O.2.getD (Int.toNat ((a1.getD E (default:bn)).since)) (0:Int)))))else(O.2.set (Int.toNat ((a1.getD E (default:bn)).since)) 0)),(O.2.getD (Int.toNat ((a1.getD E (default:bn)).since)) (0:Int)))))) (Int.toNat (cy (aj (eo a1 E O) (((a1.getD E (default:bn)).parts).length) 0 ((bif((a1.getD E (default:bn)).kind==1)then((O.2.set (Int.toNat ((a1.getD E (default:bn)).since)) 0).set (Int.toNat ((a1.getD E (default:bn)).to)) (i64.wrap (((O.2.set (Int.toNat ((a1.getD E (default:bn)).since)) 0).getD (Int.toNat ((a1.getD E (default:bn)).to)) (0:Int))+(O.2.getD (Int.toNat ((a1.getD E (default:bn)).since)) (0:Int)))))else(O.2.set (Int.toNat ((a1.getD E (default:bn)).since)) 0)),(O.2.getD (Int.toNat ((a1.getD E (default:bn)).since)) (0:Int))))).2) ((cy (aj (eo a1 E O) (((a1.getD E (default:bn)).parts).length) 0 ((bif((a1.getD E (default:bn)).kind==1)then((O.2.set (Int.toNat ((a1.getD E (default:bn)).since)) 0).set (Int.toNat ((a1.getD E (default:bn)).to)) (i64.wrap (((O.2.set (Int.toNat ((a1.getD E (default:bn)).since)) 0).getD (Int.toNat ((a1.getD E (default:bn)).to)) (0:Int))+(O.2.getD (Int.toNat ((a1.getD E (default:bn)).since)) (0:Int)))))else(O.2.set (Int.toNat ((a1.getD E (default:bn)).since)) 0)),(O.2.getD (Int.toNat ((a1.getD E (default:bn)).since)) (0:Int))))).1) ((cy (aj (eo a1 E O) (((a1.getD E (default:bn)).parts).length) 0 ((bif((a1.getD E (default:bn)).kind==1)then((O.2.set (Int.toNat ((a1.getD E (default:bn)).since)) 0).set (Int.toNat ((a1.getD E (default:bn)).to)) (i64.wrap (((O.2.set (Int.toNat ((a1.getD E (default:bn)).since)) 0).getD (Int.toNat ((a1.getD E (default:bn)).to)) (0:Int))+(O.2.getD (Int.toNat ((a1.getD E (default:bn)).since)) (0:Int)))))else(O.2.set (Int.toNat ((a1.getD E (default:bn)).since)) 0)),(O.2.getD (Int.toNat ((a1.getD E (default:bn)).since)) (0:Int))))).2<9223372036854775808) ((·.elim)) ((·.elim)) st)else none),?_,?_⟩) (λhb0 O hc=>?_) λhb0 E O=>?_;simp only[ak,true_and,and_true];refine⟨?_,?_⟩;refine d9 (((a1.getD E (default:bn)).parts).length<=aN) mixed aJ hG kr (λ_=>rfl) (((a1.getD E (default:bn)).parts).length:Int) rfl fH (λhb1 Y V apU hq1 hw hc=>⟨L0,ag _,?_⟩) (λhb1 V hc=>?_) λhb1 Y V=>?_;unfold lj at hq1;try simp only[hw,ak1]at hq1
 exact Nm (jl [0,1,2,3]);exact Nn (jl [0,1,2,3]);exact Pz;refine b_ mixed aJ hG kr (λ_=>rfl) ((cy (aj (eo a1 E O) (((a1.getD E (default:bn)).parts).length) 0 ((bif((a1.getD E (default:bn)).kind==1)then((O.2.set (Int.toNat ((a1.getD E (default:bn)).since)) 0).set (Int.toNat ((a1.getD E (default:bn)).to)) (i64.wrap (((O.2.set (Int.toNat ((a1.getD E (default:bn)).since)) 0).getD (Int.toNat ((a1.getD E (default:bn)).to)) (0:Int))+(O.2.getD (Int.toNat ((a1.getD E (default:bn)).since)) (0:Int)))))else(O.2.set (Int.toNat ((a1.getD E (default:bn)).since)) 0)),(O.2.getD (Int.toNat ((a1.getD E (default:bn)).since)) (0:Int))))).2) rfl id (λhb2 k_2 X hlt2 hq2 hw hc=>⟨L0,ag _,?_⟩) (λhb2 X hc=>?_);unfold ll at hq2;try simp only[hw,ak1]at hq2
 exact Nm (jl [0,1,2,3]);exact Nn (jl [0,1,2,3]);unfold ij at hq0;try simp only[hw,ak1]at hq0
 exact F8 (jl [0,1,2]) (jl [0,1,5]);exact F9 (jl [0,1,2]) (jl [0,1,5]);exact zq8;unfold ae Tryz.f186;try unfold eQ
 exact zq2
@[go_sem] def oh (a0:ah)(a1:List bn)(a2:Int)(a3:Int)(k_0:Nat)(k_1:Nat)(s_1:List aox):Empty⊕(List aox):=letI q0:=((eQ a0 (dw a1 a2 a3) (k_0:Int)).1).getD k_1 0;(bif(decide (q0 > 0))then .inr (s_1++([({ right:=(k_0:Int),gl:=(k_1:Int),dd:=q0,aoA:=(a0.ai.getD k_0 default).aoA}:aox)]))else .inr s_1)
def nk (a0:ah)(a1:List bn)(a2:Int)(a3:Int)(k_0:Nat)(k_1:Nat)(s_1:List aox):Prop:=letI q0:=(eQ a0 (dw a1 a2 a3) (k_0:Int)).1;(q0.length<=aN->((decide ((q0.getD k_1 0) > 0))=true->((s_1++([({ right:=(k_0:Int),gl:=(k_1:Int),dd:=(q0.getD k_1 0),aoA:=(a0.ai.getD k_0 default).aoA}:aox)])).length*32<=d8)))
@[go_sem] def oi (a0:ah)(a1:List bn)(a2:Int)(a3:Int)(k_0:Nat)(x4:List aox):Empty⊕(List aox):=(bif((a0.ai.getD k_0 default).kind !=1)then .inr x4 else(match aj (oh a0 a1 a2 a3 k_0) (((eQ a0 (dw a1 a2 a3) (k_0:Int)).1).length) 0 x4 with| .inl x=>x.elim| .inr s_1=>.inr s_1))
def nq (a0:ah)(a1:List bn)(a2:Int)(a3:Int)(k_0:Nat)(x4:List aox):Prop:=letI q0:=dw a1 a2 a3;(a0.ai.length<=aN->(((a0.ai.getD k_0 default).kind !=1)=false->((oU a0 q0 (k_0:Int))/\okI (oh a0 a1 a2 a3 k_0) (nk a0 a1 a2 a3 k_0) (((eQ a0 q0 (k_0:Int)).1).length) 0 x4)))
def j8 (a0:ah)(a1:List bn)(a2:Int)(a3:Int):List aox×Int:=letI q0:=kf a0 a1;(bif(q0 !=0)then([],q0)else(bif((((decide (a2<0)) ||(decide (a2>=a0.hours))) ||(decide (a3<0))) ||(decide (a3 > 1048576)))then([],1)else(match aj (oi a0 a1 a2 a3) a0.ai.length 0 ([])with| .inl x=>x.elim| .inr x4=>(x4,0))))
def sX (a0:ah)(a1:List bn)(a2:Int)(a3:Int):Prop:=((nj a0 a1)/\(((kf a0 a1) !=0)=false->(((((decide (a2<0)) ||(decide (a2>=a0.hours))) ||(decide (a3<0))) ||(decide (a3 > 1048576)))=false->((j7 a1 a2 a3)/\okI (oi a0 a1 a2 a3) (nq a0 a1 a2 a3) a0.ai.length 0 ([])))))
@[go_sem] def PO:List SV->Option Con:=(pD .al λa0=>(pR .B1 λa1=>(pI λa2=>(pI λa3=>(pE (.det (sX a0 a1 a2 a3) (.tup [.nw .holding ((j8 a0 a1 a2 a3).1),.v (.int .i64 ((j8 a0 a1 a2 a3).2))])))))))
theorem No:P1 Tryz.prog 127 PO:=by
 have hG:=mG (cn [.st .al,.sl .B1] xx (cn [.sl .B1,.o,.o] AD (cn [.st .al,.sl .B1,.o] DE W2))) W2;refine fW hG Tryz.f127 [(.tmp 8,.holding)] (az λa0=>(bM λa1=>(aG λV=>(aG λW=>(am (λhp=>?_))))));dsimp only[an]at hp;unfold sX at hp;refine⟨nbl rfl,(λid st=>bif Nat.beq id 0 then some (LCR (ρ:=Empty) (σ:=(List aox)) 2 [.slot 12 (.row .holding ([]))] [0,1,2] (λE O=>⟨[(4,.ptr 0 0),(11,.os 1),(12,.os 2),(13,.v (.int .i64 (E:Int)))],[.cells (cellsOf .al a0),.row .B1 (dw a1 V W),.row .holding O]⟩) (oi a0 a1 V W) (nq a0 a1 V W) a0.ai.length ([]) (True) ((·.elim)) ((·.elim)) st)else none),?_,?_⟩;unfold ae Tryz.f127;simp only[ak,true_and,and_true];refine d9 (a0.ai.length<=aN) mixed aJ hG kr (λ_=>rfl) (a0.ai.length:Int) rfl fH (λhb0 E O apq hq0 hw hc=>⟨(λid st=>bif Nat.beq id 2 then some (LCR (ρ:=Empty) (σ:=(List aox)) 5 [] [0,1,2,3,4,2] (λY X=>⟨[(4,.ptr 0 0),(11,.os 1),(12,.os 5),(13,.v (.int .i64 (E:Int))),(14,.os 3),(16,.v (.int .i64 (Y:Int)))],[.cells (cellsOf .al a0),.row .B1 (dw a1 V W),.dead,.row .int ((eQ a0 (dw a1 V W) (E:Int)).1),.dead,.row .holding X]⟩) (oh a0 a1 V W E) (nk a0 a1 V W E) (((eQ a0 (dw a1 V W) (E:Int)).1).length) O (True) ((·.elim)) ((·.elim)) st)else none),?_,?_⟩) (λhb0 O hc=>?_) λhb0 E O=>?_;simp only[ak,true_and,and_true];refine d9 (((eQ a0 (dw a1 V W) (E:Int)).1).length<=aN) mixed aJ hG kr (λ_=>rfl) (((eQ a0 (dw a1 V W) (E:Int)).1).length:Int) rfl fH (λhb1 Y X apU hq1 hw hc=>⟨L0,ag _,?_⟩) (λhb1 X hc=>?_) λhb1 Y X=>?_;unfold nk at hq1;try simp only[hw,ak1]at hq1
 exact F8 (jl [0,1,2,3,4,7]) (jl [0,1,2,3,4,5]);exact F9 (jl [0,1,2,3,4,7]) (jl [0,1,2,3,4,5]);exact Pz;unfold nq at hq0;try simp only[hw,ak1]at hq0
 exact F8 (jl [0,1,2]) (jl [0,1,5]);exact F9 (jl [0,1,2]) (jl [0,1,5]);exact zq8;unfold ae Tryz.f127;try unfold j8
 exact zq2
@[go_sem] def oV (a:List Int)(b:List Int)(k_0:Nat)(x4:Unit):Unit⊕Unit:=(bif((a.getD k_0 0) !=(b.getD k_0 0))then .inl ()else .inr ())
def mU (a:List Int)(b:List Int)(k_0:Nat)(x4:Unit):Prop:=(a.length<=aN->(0<=(k_0:Int)/\(k_0:Int) < (b.length:Int)))
def sY (a:List Int)(b:List Int):Bool:=(bif((a.length:Int) !=(b.length:Int))then false else(match aj (oV a b) a.length 0 ()with| .inl u0=>false| .inr x4=>true))
def p_ (a:List Int)(b:List Int):Prop:=(a.length<=aN->(b.length<=aN->(((a.length:Int) !=(b.length:Int))=false->okI (oV a b) (mU a b) a.length 0 ())))
@[go_sem] def B4:List SV->Option Con:=(pR .int λa=>(pR .int λb=>(pE (.det (p_ a b) (.v (.bool (sY a b)))))))
theorem AE:P1 Tryz.prog 43 B4:=by
 have hG:=mG W2 W2;refine fN hG Tryz.f43 [.o] (bM λa=>(bM λb=>(am (λX=>?_))));dsimp only[an]at X;unfold p_ at X;refine⟨nbl rfl,(λid st=>bif Nat.beq id 0 then some (LCR (ρ:=Unit) (σ:=Unit) 0 [] [] (λE O=>⟨[(0,.rs .int a),(1,.rs .int b),(5,.v (.int .i64 (E:Int)))],[]⟩) (oV a b) (mU a b) a.length () (True) (λ_=>.ret) (λW=>⟨[(4,.v (.bool false))],[]⟩) st)else none),?_,?_⟩;unfold ae Tryz.f43;simp only[ak,true_and,and_true];refine d9 (a.length<=aN) mixed aJ hG kr (λ_=>rfl) (a.length:Int) rfl fH (λhb0 E O Y V hw hc=>⟨L0,ag _,?_⟩) (λhb0 O hc=>?_) λhb0 E O=>?_;unfold mU at V;try simp only[hw,ak1]at V
 exact bE (jl []);exact bF (jl []);exact zq8;unfold ae Tryz.f43;try unfold sY
 exact zq2
@[go_sem] def AF (l_:List bn)(k_0:Nat)(x4:Unit):Unit⊕Unit:=(bif(decide ((((l_.getD k_0 default).parts).length:Int) > 100))then .inl ()else .inr ())
def B5 (d:ah)(l_:List bn):Bool:=letI q0:=(l_.length:Int);letI q1:=(d.ai.length:Int);letI q2:=(d.zs.length:Int);(bif((decide (q0 > 512))&&(decide (q0<=700)))then(xV d)else(bif((((decide (q0 > 60)) ||(!(xV d))) ||((decide (q1 > 40))&&(decide (q1<=256)))) ||((decide (q2 > 60))&&(decide (q2<=600))))then false else(match aj (AF l_) l_.length 0 ()with| .inl u0=>false| .inr x4=>true)))
@[go_sem] def Np:List SV->Option Con:=(pD .al λd=>(pR .B1 λl_=>(pE (.det True (.v (.bool (B5 d l_)))))))
theorem KP:P1 Tryz.prog 65 Np:=by
 have hG:=mG (cn [.st .al] Ky W2) W2;refine fN hG Tryz.f65 [.o] (az λd=>(bM λV=>(am (λY=>?_))));dsimp only[an]at Y;refine⟨nbl rfl,(λid st=>bif Nat.beq id 0 then some (LCR (ρ:=Unit) (σ:=Unit) 1 [] [0] (λE O=>⟨[(1,.rs .B1 V),(5,.v (.int .i64 (E:Int)))],[.dead]⟩) (AF V) pT V.length () (True) (λ_=>.ret) (λW=>⟨[(4,.v (.bool false))],[.dead]⟩) st)else none),?_,?_⟩;unfold ae Tryz.f65;simp only[ak,true_and,and_true];refine d9 (V.length<=aN) mixed aJ hG kr (λ_=>rfl) (V.length:Int) rfl fH (λhb0 E O X _ hw hc=>⟨L0,ag _,?_⟩) (λhb0 O hc=>?_) λhb0 E O=>?_;exact bE (jl [0]);exact bF (jl [0]);exact zq8;unfold ae Tryz.f65;try unfold B5
 exact zq2
def oW (a:Claim)(b:Claim):Bool:=(bif(a.hour !=b.hour)then(decide (a.hour<b.hour))else(bif(a.aoA !=b.aoA)then(decide (a.aoA<b.aoA))else(bif(a.right !=b.right)then(decide (a.right<b.right))else(decide (a.gl<b.gl)))))
@[go_sem] def Ga:List SV->Option Con:=(pD .Q1 λa=>(pD .Q1 λb=>(pE (.det True (.v (.bool (oW a b)))))))
theorem DF:P1 Tryz.prog 187 Ga:=by
 have hG:=mG W2 W2;refine fN hG Tryz.f187 [.o] (az λa=>(az λb=>(am (λE=>?_))));dsimp only[an]at E;refine⟨nbl rfl,L0,ag _,?_⟩;unfold ae Tryz.f187;try unfold oW
 exact zq2
def x7 (d:ah)(l_:List bn)(fr:Int)(to:Int):Bool:=letI q0:=(d.ai.length:Int);(bif((!(B5 d l_)) ||((decide (q0 > 40))&&(decide (q0<=256))))then false else(((((decide (fr<0)) ||(decide (fr > to))) ||(decide (to>=d.hours))) ||(decide (d.hours > 4096))) ||(decide ((i64.wrap (to - fr)) <60))))
@[go_sem] def Nq:List SV->Option Con:=(pD .al λd=>(pR .B1 λl_=>(pI λfr=>(pI λto=>(pE (.det True (.v (.bool (x7 d l_ fr to)))))))))
theorem KQ:P1 Tryz.prog 25 Nq:=by
 have hG:=mG (cn [.st .al,.sl .B1] KP W2) W2;refine fN hG Tryz.f25 [.o] (az λd=>(bM λO=>(aG λfr=>(aG λto=>(am (λE=>?_))))));dsimp only[an]at E;refine⟨nbl rfl,L0,ag _,?_⟩;unfold ae Tryz.f25;try unfold x7
 exact zq2
def qc (x:aoU)(hour:Int):Bool:=(bif(((x.kind !=1) ||(decide (hour<x.since))) ||(decide (hour > x.to)))then false else(decide ((Int.tmod (i64.wrap (hour - x.since)) x.every) <x.length)))
def vO (x:aoU)(hour:Int):Prop:=((((x.kind !=1) ||(decide (hour<x.since))) ||(decide (hour > x.to)))=false->x.every≠0)
@[go_sem] def KR:List SV->Option Con:=(pD .right λx=>(pI λhour=>(pE (.det (vO x hour) (.v (.bool (qc x hour)))))))
theorem HY:P1 Tryz.prog 128 KR:=by
 have hG:=mG W2 W2;refine fN hG Tryz.f128 [.o] (az λx=>(aG λhour=>(am (λE=>?_))));dsimp only[an]at E;unfold vO at E;refine⟨nbl rfl,L0,ag _,?_⟩;unfold ae Tryz.f128;try unfold qc
 exact zq2
def cj (x:aoU)(kind:Int)(gl:Int)(reach:Int)(hour:Int):Bool:=(((((x.kind==kind)&&(x.gl==gl))&&(x.reach==reach))&&(decide (x.since<=hour)))&&(decide (hour<=x.to)))
@[go_sem] def HZ:List SV->Option Con:=(pD .right λx=>(pI λkind=>(pI λgl=>(pI λreach=>(pI λhour=>(pE (.det True (.v (.bool (cj x kind gl reach hour))))))))))
theorem xy:P1 Tryz.prog 188 HZ:=by
 have hG:=mG W2 W2;refine fN hG Tryz.f188 [.o] (az λx=>(aG λkind=>(aG λgl=>(aG λreach=>(aG λhour=>(am (λE=>?_)))))));dsimp only[an]at E;refine⟨nbl rfl,L0,ag _,?_⟩;unfold ae Tryz.f188;try unfold cj
 exact zq2
@[go_sem] def sZ (d:ah)(gl:Int)(reach:Int)(hour:Int)(k_0:Nat)(x4:Unit):Unit⊕Unit:=(bif(cj (d.ai.getD k_0 default) 3 gl reach hour)then .inl ()else .inr ())
def l9 (d:ah)(gl:Int)(reach:Int)(hour:Int):Bool:=(match aj (sZ d gl reach hour) d.ai.length 0 ()with| .inl u0=>true| .inr x4=>false)
@[go_sem] def H0:List SV->Option Con:=(pD .al λd=>(pI λgl=>(pI λreach=>(pI λhour=>(pE (.det True (.v (.bool (l9 d gl reach hour)))))))))
theorem Gb:P1 Tryz.prog 189 H0:=by
 have hG:=mG (cp xy W2) W2;refine fN hG Tryz.f189 [.o] (az λd=>(aG λgl=>(aG λreach=>(aG λhour=>(am (λX=>?_))))));dsimp only[an]at X;refine⟨nbl rfl,(λid st=>bif Nat.beq id 0 then some (LCR (ρ:=Unit) (σ:=Unit) 1 [] [0] (λE O=>⟨[(1,.v (.int .i64 gl)),(2,.v (.int .i64 reach)),(3,.v (.int .i64 hour)),(4,.ptr 0 0),(9,.v (.int .i64 (E:Int)))],[.cells (cellsOf .al d)]⟩) (sZ d gl reach hour) pT d.ai.length () (True) (λ_=>.ret) (λV=>⟨[(8,.v (.bool true))],[.dead]⟩) st)else none),?_,?_⟩;unfold ae Tryz.f189;simp only[ak,true_and,and_true];refine d9 (d.ai.length<=aN) mixed aJ hG kr (λ_=>rfl) (d.ai.length:Int) rfl fH (λhb0 E O W _ hw hc=>⟨L0,ag _,?_⟩) (λhb0 O hc=>?_) λhb0 E O=>?_;exact bE (jl [0]);exact bF (jl [0]);exact zq8;unfold ae Tryz.f189;try unfold l9
 exact zq2
@[go_sem] def vP (d:ah)(gl:Int)(reach:Int)(hour:Int)(k_0:Nat)(x4:Unit):Unit⊕Unit:=(bif(((d.ai.getD k_0 default).gl !=gl)&&(cj (d.ai.getD k_0 default) 2 ((d.ai.getD k_0 default).gl) reach hour))then .inl ()else .inr ())
def qd (d:ah)(gl:Int)(reach:Int)(hour:Int):Bool:=(match aj (vP d gl reach hour) d.ai.length 0 ()with| .inl u0=>(l9 d gl reach hour) | .inr x4=>true)
@[go_sem] def Nr:List SV->Option Con:=(pD .al λd=>(pI λgl=>(pI λreach=>(pI λhour=>(pE (.det True (.v (.bool (qd d gl reach hour)))))))))
theorem KS:P1 Tryz.prog 131 Nr:=by
 have hG:=mG (cp xy (cn [.st .al,.o,.o,.o] Gb W2)) W2;refine fN hG Tryz.f131 [.o] (az λd=>(aG λgl=>(aG λreach=>(aG λhour=>(am (λX=>?_))))));dsimp only[an]at X;refine⟨nbl rfl,(λid st=>bif Nat.beq id 0 then some (LCR (ρ:=Unit) (σ:=Unit) 1 [] [0] (λE O=>⟨[(1,.v (.int .i64 gl)),(2,.v (.int .i64 reach)),(3,.v (.int .i64 hour)),(4,.ptr 0 0),(9,.v (.int .i64 (E:Int)))],[.cells (cellsOf .al d)]⟩) (vP d gl reach hour) pT d.ai.length () (True) (λ_=>.ret) (λV=>⟨[(8,.v (.bool (l9 d gl reach hour)))],[.dead]⟩) st)else none),?_,?_⟩;unfold ae Tryz.f131;simp only[ak,true_and,and_true];refine d9 (d.ai.length<=aN) mixed aJ hG kr (λ_=>rfl) (d.ai.length:Int) rfl fH (λhb0 E O W _ hw hc=>⟨L0,ag _,?_⟩) (λhb0 O hc=>?_) λhb0 E O=>?_;exact bE (jl [0]);exact bF (jl [0]);exact zq8;unfold ae Tryz.f131;try unfold qd
 exact zq2
@[go_sem] def gJ (d:ah)(k_0:Nat)(x4:List Int):(List Int)⊕(List Int):=(bif(decide ((x4.getD 0 0) > 0))then .inr (([(d.reaches.getD (Int.toNat (x4.getD 0 0)) default).up])++x4)else .inl x4)
def jh (d:ah)(k_0:Nat)(x4:List Int):Prop:=letI q0:=x4.getD 0 0;letI q1:=0<=0/\0< (x4.length:Int);(q1/\((decide (q0 > 0))=true->(q1/\((0<=q0/\q0< (d.reaches.length:Int))/\((([(d.reaches.getD (Int.toNat q0) default).up])++x4).length*8<=d8)))))
def iW (d:ah)(reach:Int):List Int:=(match aj (gJ d) 66 0 ([reach])with| .inl u0=>u0| .inr x4=>default)
def rX (d:ah)(reach:Int):Prop:=(okI (gJ d) (jh d) 66 0 ([reach])/\(∀ z_,aj (gJ d) 66 0 ([reach])≠ .inr z_))
@[go_sem] def KT:List SV->Option Con:=(pD .al λd=>(pI λreach=>(pE (.det (rX d reach) (.nw .int (iW d reach))))))
theorem H1:P1 Tryz.prog 130 KT:=by
 have hG:=mG W2 W2;refine fW hG Tryz.f130 [(.tmp 4,.int)] (az λd=>(aG λreach=>(am (λX=>?_))));dsimp only[an]at X;unfold rX at X;refine⟨nbl rfl,(λid st=>bif Nat.beq id 0 then some (LCV (ρ:=(List Int)) (σ:=(List Int)) 2 [] [0,1,1] (λV O=>⟨[(2,.ptr 0 0),(5,.os 2)],[.cells (cellsOf .al d),.dead,.row .int O]⟩) (gJ d) (jh d) 66 ([reach]) (λ_=>.normal) (λE=>⟨[(5,.os 2)],[.dead,.dead,.row .int E]⟩) st)else none),?_,?_⟩;unfold ae Tryz.f130;simp only[ak,true_and,and_true];refine eW mixed aJ hG kr (λ_=>rfl) λV O W=>⟨L0,ag _,?_⟩;unfold jh at W;exact qW (jl [0,1,4]) (jl [0,1,2]);unfold ae Tryz.f130;try unfold iW
 exact zq2
@[go_sem] def nV (d:ah)(gl:Int)(hour:Int)(k_0:Nat)(x4:Unit):Int⊕Unit:=(bif(!(qd d gl ((iW d ((d.zs.getD (Int.toNat gl) default).reach)).getD k_0 0) hour))then .inl ((iW d ((d.zs.getD (Int.toNat gl) default).reach)).getD k_0 0)else .inr ())
def ji (d:ah)(gl:Int)(hour:Int):Int:=(match aj (nV d gl hour) ((iW d ((d.zs.getD (Int.toNat gl) default).reach)).length) 0 ()with| .inl u0=>u0| .inr x4=>(-1))
def lm (d:ah)(gl:Int)(hour:Int):Prop:=((0<=gl/\gl< (d.zs.length:Int))/\(rX d ((d.zs.getD (Int.toNat gl) default).reach)))
@[go_sem] def AG:List SV->Option Con:=(pD .al λd=>(pI λgl=>(pI λhour=>(pE (.det (lm d gl hour) (.v (.int .i64 (ji d gl hour))))))))
theorem zt:P1 Tryz.prog 68 AG:=by
 have hG:=mG (cn [.st .al,.o] H1 (cn [.st .al,.o,.o,.o] KS W2)) W2;refine fN hG Tryz.f68 [.o] (az λd=>(aG λgl=>(aG λhour=>(am (λW=>?_)))));dsimp only[an]at W;unfold lm at W;refine⟨nbl rfl,(λid st=>bif Nat.beq id 0 then some (LCR (ρ:=Int) (σ:=Unit) 2 [] [0,1] (λO V=>⟨[(1,.v (.int .i64 gl)),(2,.v (.int .i64 hour)),(3,.ptr 0 0),(7,.os 1),(8,.v (.int .i64 (O:Int)))],[.cells (cellsOf .al d),.row .int (iW d ((d.zs.getD (Int.toNat gl) (default:apE)).reach))]⟩) (nV d gl hour) pT ((iW d ((d.zs.getD (Int.toNat gl) (default:apE)).reach)).length) () (True) (λ_=>.ret) (λE=>⟨[(6,.v (.int .i64 E))],[.dead,.dead]⟩) st)else none),?_,?_⟩;unfold ae Tryz.f68;simp only[ak,true_and,and_true];refine d9 ((iW d ((d.zs.getD (Int.toNat gl) (default:apE)).reach)).length<=aN) mixed aJ hG kr (λ_=>rfl) ((iW d ((d.zs.getD (Int.toNat gl) (default:apE)).reach)).length:Int) rfl fH (λhb0 O V X _ hw hc=>⟨L0,ag _,?_⟩) (λhb0 V hc=>?_) λhb0 O V=>?_;exact bE (jl [0,1]);exact bF (jl [0,1]);exact zq8;unfold ae Tryz.f68;try unfold ji
 exact zq2
@[go_sem] def oX (l_:List Claim)(x:Claim)(k_0:Nat)(x4:Int):Int⊕Int:=(bif((decide (x4< (l_.length:Int)))&&(oW (l_.getD (Int.toNat x4) default) x))then .inr (i64.wrap (x4+1))else .inl x4)
def oY (l_:List Claim)(x:Claim)(k_0:Nat)(x4:Int):Prop:=(l_.length<=aN->((decide (x4< (l_.length:Int)))=true->(0<=x4/\x4< (l_.length:Int))))
def qe (l_:List Claim)(x:Claim):List Claim:=(match aj (oX l_ x) 200000 0 0 with| .inl u0=>(((([])++((l_.take (Int.toNat u0)).drop 0))++([x]))++((l_.take (Int.toNat (l_.length:Int))).drop (Int.toNat u0))) | .inr x4=>default)
def tY (l_:List Claim)(x:Claim):Prop:=letI q0:=(l_.length:Int);letI q1:=oX l_ x;(okI q1 (oY l_ x) 200000 0 0/\(∀ z_,aj q1 200000 0 0≠ .inr z_)/\(∀ u0,aj q1 200000 0 0=.inl u0->((0<=0/\0<=u0/\u0<=q0)/\(((([])++((l_.take (Int.toNat u0)).drop 0)).length*40<=d8)/\((([])++((l_.take (Int.toNat u0)).drop 0)).length<=aN->((((([])++((l_.take (Int.toNat u0)).drop 0))++([x])).length*40<=d8)/\(((([])++((l_.take (Int.toNat u0)).drop 0))++([x])).length<=aN->((0<=u0/\u0<=q0/\q0<=q0)/\((((([])++((l_.take (Int.toNat u0)).drop 0))++([x]))++((l_.take (Int.toNat q0)).drop (Int.toNat u0))).length*40<=d8)))))))))
@[go_sem] def Ns:List SV->Option Con:=(pR .Q1 λl_=>(pD .Q1 λx=>(pE (.det (tY l_ x) (.nw .Q1 (qe l_ x))))))
theorem KU:P1 Tryz.prog 129 Ns:=by
 have hG:=mG (cp DF W2) W2;refine fW hG Tryz.f129 [(.tmp 4,.Q1)] (bM λV=>(az λx=>(am (λY=>?_))));dsimp only[an]at Y;unfold tY at Y;refine⟨nbl rfl,(λid st=>bif Nat.beq id 0 then some (LCV (ρ:=Int) (σ:=Int) 1 [] [0] (λW O=>⟨[(0,.rs .Q1 V),(3,.ptr 0 0),(5,.v (.int .i64 O))],[.cells (cellsOf .Q1 x)]⟩) (oX V x) (oY V x) 200000 0 (λ_=>.normal) (λE=>⟨[(0,.rs .Q1 V),(3,.ptr 0 0),(5,.v (.int .i64 E))],[.cells (cellsOf .Q1 x)]⟩) st)else none),?_,?_⟩;unfold ae Tryz.f129;simp only[ak,true_and,and_true];refine eW mixed aJ hG kr (λ_=>rfl) λW O X=>⟨L0,ag _,?_⟩;unfold oY at X;exact db (jl [0]);unfold ae Tryz.f129;try unfold qe
 exact zq2
@[go_sem] def kU (d:ah)(l_:List bn)(h_:Int)(known:Int)(k_0:Nat)(x4:List Claim):Empty⊕(List Claim):=letI q0:=((j8 d l_ h_ known).1).getD k_0 default;(bif(qc (d.ai.getD (Int.toNat (q0.right)) default) h_)then .inr (qe x4 ({ right:=q0.right,gl:=q0.gl,hour:=h_,dd:=q0.dd,aoA:=q0.aoA}:Claim))else .inr x4)
def rA (d:ah)(l_:List bn)(h_:Int)(known:Int)(k_0:Nat)(x4:List Claim):Prop:=letI q2:=(j8 d l_ h_ known).1;letI q0:=q2.getD k_0 default;letI q1:=d.ai.getD (Int.toNat (q0.right)) default;(q2.length<=aN->((0<=q0.right/\q0.right< (d.ai.length:Int))/\((vO q1 h_)/\((qc q1 h_)=true->(tY x4 ({ right:=q0.right,gl:=q0.gl,hour:=h_,dd:=q0.dd,aoA:=q0.aoA}:Claim))))))
def gF (d:ah)(l_:List bn)(h_:Int)(known:Int):List Claim:=(match aj (kU d l_ h_ known) (((j8 d l_ h_ known).1).length) 0 ([])with| .inl x=>x.elim| .inr x4=>x4)
def rY (d:ah)(l_:List bn)(h_:Int)(known:Int):Prop:=((sX d l_ h_ known)/\okI (kU d l_ h_ known) (rA d l_ h_ known) (((j8 d l_ h_ known).1).length) 0 ([]))
@[go_sem] def KV:List SV->Option Con:=(pD .al λd=>(pR .B1 λl_=>(pI λh_=>(pI λknown=>(pE (.det (rY d l_ h_ known) (.nw .Q1 (gF d l_ h_ known))))))))
theorem H2:P1 Tryz.prog 67 KV:=by
 have hG:=mG (cn [.st .al,.sl .B1,.o,.o] No (cp HY (cn [.sl .Q1,.st .Q1] KU W2))) W2;refine fW hG Tryz.f67 [(.tmp 8,.Q1)] (az λd=>(bM λW=>(aG λO=>(aG λknown=>(am (λY=>?_))))));dsimp only[an]at Y;unfold rY at Y;refine⟨nbl rfl,(λid st=>bif Nat.beq id 0 then some (LCR (ρ:=Empty) (σ:=(List Claim)) 2 [.slot 11 (.row .Q1 ([]))] [0,1,2] (λV E=>⟨[(2,.v (.int .i64 O)),(4,.ptr 0 0),(9,.os 1),(11,.os 2),(12,.v (.int .i64 (V:Int)))],[.cells (cellsOf .al d),.row .holding ((j8 d W O known).1),.row .Q1 E]⟩) (kU d W O known) (rA d W O known) (((j8 d W O known).1).length) ([]) (True) ((·.elim)) ((·.elim)) st)else none),?_,?_⟩;unfold ae Tryz.f67;simp only[ak,true_and,and_true];refine d9 (((j8 d W O known).1).length<=aN) mixed aJ hG kr (λ_=>rfl) (((j8 d W O known).1).length:Int) rfl fH (λhb0 V E apq X hw hc=>⟨L0,ag _,?_⟩) (λhb0 E hc=>?_) λhb0 V E=>?_;unfold rA at X;try simp only[hw,ak1]at X
 exact sP (jl [0,1,4]) (jl [0,1,2]);exact sQ (jl [0,1,4]) (jl [0,1,2]);exact zq8;unfold ae Tryz.f67;try unfold gF
 exact zq2
def ma (d:ah)(l_:List bn)(fr:Int)(to:Int)(known:Int):Int:=(bif((kf d l_) !=0)then(kf d l_)else(bif(((((decide (fr<0)) ||(decide (fr > to))) ||(decide (to>=d.hours))) ||(decide (known<0))) ||(decide (known > 1048576)))then 1 else(bif(decide ((i64.wrap ((i64.wrap ((i64.wrap (to - fr))+1))*(d.ai.length:Int))) > 4096))then 2 else 0)))
def qt (d:ah)(l_:List bn)(fr:Int)(to:Int)(known:Int):Prop:=(nj d l_)
@[go_sem] def H3:List SV->Option Con:=(pD .al λd=>(pR .B1 λl_=>(pI λfr=>(pI λto=>(pI λknown=>(pE (.det (qt d l_ fr to known) (.v (.int .i64 (ma d l_ fr to known))))))))))
theorem Gc:P1 Tryz.prog 66 H3:=by
 have hG:=mG (cn [.st .al,.sl .B1] xx W2) W2;refine fN hG Tryz.f66 [.o] (az λd=>(bM λO=>(aG λfr=>(aG λto=>(aG λknown=>(am (λE=>?_)))))));dsimp only[an]at E;unfold qt at E;refine⟨nbl rfl,L0,ag _,?_⟩;unfold ae Tryz.f66;try unfold ma
 exact zq2
@[go_sem] def qZ (d:ah)(l_:List bn)(known:Int)(x4:List Claim×Int)(k_1:Nat)(s_1:List Claim):Empty⊕(List Claim):=(bif(decide ((ji d (((gF d l_ x4.2 known).getD k_1 default).gl) x4.2) <0))then .inr (s_1++([((gF d l_ x4.2 known).getD k_1 default)]))else .inr s_1)
def uc (d:ah)(l_:List bn)(known:Int)(x4:List Claim×Int)(k_1:Nat)(s_1:List Claim):Prop:=letI q1:=gF d l_ x4.2 known;letI q0:=q1.getD k_1 default;(q1.length<=aN->((lm d (q0.gl) x4.2)/\((decide ((ji d (q0.gl) x4.2) <0))=true->((s_1++([q0])).length*40<=d8))))
@[go_sem] def mb (d:ah)(l_:List bn)(to:Int)(known:Int)(k_0:Nat)(x4:List Claim×Int):(List Claim)⊕(List Claim×Int):=(bif(decide (x4.2<=to))then(match aj (qZ d l_ known x4) ((gF d l_ x4.2 known).length) 0 x4.1 with| .inl x=>x.elim| .inr s_1=>.inr (s_1,(i64.wrap (x4.2+1))))else .inl x4.1)
def nr (d:ah)(l_:List bn)(to:Int)(known:Int)(k_0:Nat)(x4:List Claim×Int):Prop:=((decide (x4.2<=to))=true->((rY d l_ x4.2 known)/\okI (qZ d l_ known x4) (uc d l_ known x4) ((gF d l_ x4.2 known).length) 0 x4.1))
def mc (d:ah)(l_:List bn)(fr:Int)(to:Int)(known:Int):List Claim×Int:=letI q0:=ma d l_ fr to known;(bif(q0 !=0)then([],q0)else(match aj (mb d l_ to known) 4098 0 ([],fr)with| .inl u0=>(bif(decide ((u0.length:Int) > 4096))then([],2)else(u0,0)) | .inr x4=>default))
def vQ (d:ah)(l_:List bn)(fr:Int)(to:Int)(known:Int):Prop:=((qt d l_ fr to known)/\(((ma d l_ fr to known) !=0)=false->(okI (mb d l_ to known) (nr d l_ to known) 4098 0 ([],fr)/\(∀ z_,aj (mb d l_ to known) 4098 0 ([],fr)≠ .inr z_))))
@[go_sem] def PT:List SV->Option Con:=(pD .al λd=>(pR .B1 λl_=>(pI λfr=>(pI λto=>(pI λknown=>(pE (.det (vQ d l_ fr to known) (.tup [.rs .Q1 ((mc d l_ fr to known).1),.v (.int .i64 ((mc d l_ fr to known).2))]))))))))
theorem Nt:P1 Tryz.prog 27 PT:=by
 have hG:=mG (cn [.st .al,.sl .B1,.o,.o,.o] Gc (cn [.st .al,.sl .B1,.o,.o] H2 (cn [.st .al,.o,.o] zt W2))) W2;refine fN hG Tryz.f27 [.sl .Q1,.o] (az λd=>(bM λO=>(aG λfr=>(aG λto=>(aG λknown=>(am (λhp=>?_)))))));dsimp only[an]at hp;unfold vQ at hp;refine⟨nbl rfl,(λid st=>bif Nat.beq id 0 then some (LCV (ρ:=(List Claim)) (σ:=(List Claim×Int)) 1 [.slot 13 (.row .Q1 ([]))] [0,1] (λY E=>⟨[(1,.rs .B1 O),(3,.v (.int .i64 to)),(4,.v (.int .i64 known)),(5,.ptr 0 0),(13,.os 1),(14,.v (.int .i64 E.2))],[.cells (cellsOf .al d),.row .Q1 E.1]⟩) (mb d O to known) (nr d O to known) 4098 ([],fr) (λ_=>.normal) (λW=>⟨[(13,.os 1)],[.dead,.row .Q1 W]⟩) st)else none),?_,?_⟩;unfold ae Tryz.f27;simp only[ak,true_and,and_true];refine eW mixed aJ hG kr (λ_=>rfl) λY E hq0=>⟨(λid st=>bif Nat.beq id 2 then some (LCR (ρ:=Empty) (σ:=(List Claim)) 3 [] [0,1,2,1] (λX V=>⟨[(1,.rs .B1 O),(3,.v (.int .i64 to)),(4,.v (.int .i64 known)),(5,.ptr 0 0),(13,.os 3),(14,.v (.int .i64 E.2)),(15,.os 2),(16,.v (.int .i64 (X:Int)))],[.cells (cellsOf .al d),.dead,.row .Q1 (gF d O E.2 known),.row .Q1 V]⟩) (qZ d O known E) (uc d O known E) ((gF d O E.2 known).length) E.1 (True) ((·.elim)) ((·.elim)) st)else none),?_,?_⟩;simp only[ak,true_and,and_true];refine d9 ((gF d O E.2 known).length<=aN) mixed aJ hG kr (λ_=>rfl) ((gF d O E.2 known).length:Int) rfl fH (λhb1 X V apU hq1 hw hc=>⟨L0,ag _,?_⟩) (λhb1 V hc=>?_) λhb1 X V=>?_;unfold uc at hq1;try simp only[hw,ak1]at hq1
 exact sP (jl [0,1,2,5]) (jl [0,1,2,3]);exact sQ (jl [0,1,2,5]) (jl [0,1,2,3]);exact Pz;unfold nr at hq0;exact qW (jl [0,3]) (jl [0,1]);unfold ae Tryz.f27;try unfold mc
 exact zq2
variable {α:Type}
theorem Rk{β:Type}(l:List α)(d:α)(P:α->Bool){step:Nat->Unit->Unit⊕Unit}(h:∀ k,k<l.length->step k ()=bif P (l.getD k d)then .inl ()else .inr ())(a b:β):
  (match aj step l.length 0 ()with| .inl _=>a| .inr _=>b)=bif l.any P then a else b:=by
 cases O:l.any P with
 |false=>
  have:aj step l.length 0 ()=.inr ():=gT.2 λj E=>by
   grind
  grind
 |true=>
  obtain⟨x,V,W⟩:=al4.1 O;obtain⟨j,E,e⟩:=alE.1 V;have hn:aj step l.length 0 ()≠ .inr ():=λhr=>by
   have:=gT.1 hr j E;grind
  grind
theorem SY (d:ah)(f r h:Int):l9 d f r h=d.ai.any λy=>cj y 3 f r h:=by
 unfold l9;have:=Rk d.ai default (λy=>cj y 3 f r h) (step:=sZ d f r h) (λk E=>rfl) true false;grind
theorem YY (d:ah)(f r h:Int):qd d f r h=(!(d.ai.any λy=>(y.gl !=f)&&cj y 2 y.gl r h) ||d.ai.any λy=>cj y 3 f r h):=by
 unfold qd;have:=Rk d.ai default (λy=>(y.gl !=f)&&cj y 2 y.gl r h) (step:=vP d f r h) (λk E=>rfl) (l9 d f r h) true;grind [SY]
theorem j9 (y:aoU)(k f r h:Int):cj y k f r h=true↔y.kind=k/\y.gl=f/\y.reach=r/\y.since<=h/\h<=y.to:=by
 simp_all [cj,and_assoc]
structure Seen (R:List aoU)(h:Int)(s:List (aou×Bool)×List (Int×Int)×List (aou×Bool))(own:List aou):Prop where
 apy:∀ u,aq .X1 .bool s.1 u=R.any λy=>cj y 3 u.gl u.reach h
 owned:∀ u,aq .X1 .bool s.2.2 u=decide (u∈own)
 mem:∀ u,u∈own↔(R.any λy=>cj y 2 u.gl u.reach h)=true
 nodup:own.Nodup
 count:∀ r:Int,aq .int .int s.2.1 r=((own.filter λu=>u.reach==r).length:Int)
 len:own.length<=R.length
theorem q_(l:List α)(x:α)(P:α->Bool):(l++[x]).any P=(l.any P||P x):=by simp
theorem SZ (d:ah)(h:Int)(hl:d.ai.length<=256):∃ s own,aj (kG d h) d.ai.length 0 ([],[],[])=.inr s/\Seen d.ai h s own:=by
 have key:=jA (step:=kG d h) (λk s=>∃ own,Seen (d.ai.take k) h s own) d.ai.length 0 ([],[],[]) ⟨[],⟨λu=>rfl,λu=>rfl,λu=>by simp,amx,λr=>rfl,ak2 _⟩⟩ (λj s _ hj ⟨own,E⟩ =>by
  have hj:j<d.ai.length:=by omega
  have V:=ce d.ai (default:aoU) hj;obtain⟨s1,s2,X⟩:=s;generalize ey:d.ai.getD j (default:aoU)=y at V;simp only[kG,ey];have Y:=E.len;rw[al0]at Y;by_cases W:y.since<=h/\h<=y.to
  ·have e1:((decide (h<y.since)) ||(decide (h > y.to)))=false:=by
    grind
   rw[e1,cond_false];by_cases hk:y.kind=3
   ·have e2:(y.kind==3)=true:=by grind
    rw[e2,cond_true];refine⟨_,rfl,own,⟨λu=>?_,E.owned,λu=>?_,E.nodup,E.count,by grind⟩⟩;rw[og,V,q_,<-E.apy u];by_cases hu:u= { gl:=y.gl,reach:=y.reach}
    simp_all [j9];have:cj y 3 u.gl u.reach h=false:=by
     cases hq:cj y 3 u.gl u.reach h with
     |false=>rfl
     |true=>
      obtain⟨_,q1,q2,_⟩:=(j9 _ _ _ _ _).1 hq;simp_all
    grind
    ·rw[E.mem u,V,q_];have:cj y 2 u.gl u.reach h=false:=by
      cases hq:cj y 2 u.gl u.reach h with
      |false=>rfl|true=>have:=((j9 _ _ _ _ _).1 hq).1;omega
     grind
   ·have e2:(y.kind==3)=false:=by grind
    rw[e2,cond_false];have hea:∀ u:aou,cj y 3 u.gl u.reach h=false:=λu=>by
     cases hq:cj y 3 u.gl u.reach h with
     |false=>rfl|true=>exact absurd ((j9 _ _ _ _ _).1 hq).1 hk
    have O:∀ u,aq .X1 .bool s1 u=(d.ai.take (j+1)).any λy=>cj y 3 u.gl u.reach h:=λu=>by
     rw[V,q_,hea,amu];exact E.apy u
    by_cases h2:y.kind=2
    by_cases hm:({ gl:=y.gl,reach:=y.reach}:aou)∈own
    have e3:((y.kind==2)&&(!(aq .X1 .bool X ({ gl:=y.gl,reach:=y.reach}:aou))))=false:=by
     rw[show aq .X1 .bool X ({ gl:=y.gl,reach:=y.reach}:aou)=true from(E.owned _).trans (decide_eq_true hm)];simp
    rw[e3,cond_false];refine⟨_,rfl,own,⟨O,E.owned,λu=>?_,E.nodup,E.count,by grind⟩⟩;rw[V,q_,alx,<-E.mem u];refine⟨.inl,λhq=>hq.elim id λhq=>?_⟩;obtain⟨_,q1,q2,_⟩:=(j9 _ _ _ _ _).1 hq;simp_all;have e3:((y.kind==2)&&(!(aq .X1 .bool X ({ gl:=y.gl,reach:=y.reach}:aou))))=true:=by
     rw[show aq .X1 .bool X ({ gl:=y.gl,reach:=y.reach}:aou)=false from(E.owned _).trans (decide_eq_false hm),h2];rfl
    rw[e3,cond_true];refine⟨_,rfl,{ gl:=y.gl,reach:=y.reach}::own,⟨O,λu=>?_,λu=>?_,alH.2 ⟨hm,E.nodup⟩,λr=>?_,by grind⟩⟩;rw[og];by_cases hu:u= { gl:=y.gl,reach:=y.reach}
    grind
    rw[if_neg hu,show aq .X1 .bool X u=_ from E.owned u];grind
    rw[V,q_,alx,<-E.mem u,ala];constructor
    rintro (hu|hu);exact .inr ((j9 _ _ _ _ _).2 ⟨h2,by rw[hu],by rw[hu],W.1,W.2⟩);grind
    rintro (hu|hq);exact .inr hu;obtain⟨_,q1,q2,_⟩:=(j9 _ _ _ _ _).1 hq;simp_all;rw[og,anN];have hc:=E.count;by_cases hr:r=y.reach
    have e4:(({ gl:=y.gl,reach:=y.reach}:aou).reach==r)=true:=by simp[hr]
    have hb:(own.filter λu=>u.reach==r).length<=own.length:=alT _ _;rw[if_pos hr,e4,if_pos rfl,<-hr,show aq .int .int s2 r=_ from hc r,aA (by omega) (by omega)];simp;grind
    ·have e3:((y.kind==2)&&(!(aq .X1 .bool X ({ gl:=y.gl,reach:=y.reach}:aou))))=false:=by
      grind
     rw[e3,cond_false];refine⟨_,rfl,own,⟨O,E.owned,λu=>?_,E.nodup,E.count,by grind⟩⟩;have:cj y 2 u.gl u.reach h=false:=by
      cases hq:cj y 2 u.gl u.reach h with
      |false=>rfl|true=>exact absurd ((j9 _ _ _ _ _).1 hq).1 h2
     rw[V,q_,this,amu];exact E.mem u
  ·have e1:((decide (h<y.since)) ||(decide (h > y.to)))=true:=by
    grind
   rw[e1,cond_true];have hno:∀ k f r,cj y k f r h=false:=λk f r=>by
    cases hq:cj y k f r h with
    |false=>rfl|true=>exact absurd ((j9 _ _ _ _ _).1 hq).2.2.2 W
   refine⟨_,rfl,own,⟨λu=>?_,E.owned,λu=>?_,E.nodup,E.count,by grind⟩⟩;rw[V,q_,hno,amu];exact E.apy u;rw[V,q_,hno,amu];exact E.mem u)
 grind
theorem YZ {F:List aou}(hn:F.Nodup){u:aou}(E:u∈F):F.length=1↔∀ v∈F,v=u:=by
 match F,hn,E with
 | [a],_,E=>
  grind
 |a::b::t,hn,E=>
  refine⟨λh=>by simp at h,λh=>?_⟩;simp_all
theorem acV (d:ah)(h f r:Int)(hl:d.ai.length<=256):lX (cK d h) { gl:=f,reach:=r} =qd d f r h:=by
 obtain⟨s,own,e,E⟩:=SZ d h hl;have V:cK d h=({ apD:=s.2.1,owned:=s.2.2,apy:=s.1}:ao4):=by grind [cK]
 rw[V,YY];unfold lX;simp only;rw[show aq .X1 .bool s.1 ({ gl:=f,reach:=r}:aou)=_ from E.apy _,show aq .X1 .bool s.2.2 ({ gl:=f,reach:=r}:aou)=_ from E.owned _,show aq .int .int s.2.1 r=_ from E.count r];have hlen:=E.len;have hb:(own.filter λu=>u.reach==r).length<=own.length:=alT _ _;have hn:(own.filter λu=>u.reach==r).Nodup:=E.nodup.filter _;have hF:∀ v,v∈(own.filter λu=>u.reach==r)↔v∈own/\v.reach=r:=λv=>by grind
 have hA:(d.ai.any λy=>(y.gl !=f)&&cj y 2 y.gl r h)=true↔∃ v,v∈(own.filter λu=>u.reach==r)/\v≠{ gl:=f,reach:=r}:=by
  rw[al4];constructor
  rintro⟨y,hy,W⟩;rw[akZ,bne_iff_ne]at W;refine⟨{ gl:=y.gl,reach:=r},(hF _).2 ⟨(E.mem _).2 (al4.2 ⟨y,hy,W.2⟩),rfl⟩,λe=>W.1 ?_⟩;injection e;rintro⟨v,V,Y⟩;obtain⟨h1,h2⟩:=(hF v).1 V;obtain⟨y,hy,W⟩:=al4.1 ((E.mem v).1 h1);obtain⟨q0,q1,q2,q3⟩:=(j9 _ _ _ _ _).1 W;refine⟨y,hy,?_⟩;rw[akZ,bne_iff_ne];exact⟨λe=>Y (by cases v;grind),(j9 _ _ _ _ _).2 ⟨q0,rfl,by rw[q2,h2],q3⟩⟩
 by_cases X:({ gl:=f,reach:=r}:aou)∈own
 have O:({ gl:=f,reach:=r}:aou)∈(own.filter λu=>u.reach==r):=(hF _).2 ⟨X,rfl⟩;rw[decide_eq_true X,cond_true];congr 1
 have h1:=YZ hn O;have hpos:0< (own.filter λu=>u.reach==r).length:=List.length_pos_of_mem O;rw[aA (by omega) (by omega),alZ,beq_iff_eq,alm,<-amH,hA];grind
 rw[decide_eq_false X,cond_false];congr 1
 rw[alZ,beq_iff_eq,alm,<-amH,hA];constructor
 grind
 intro h0;have:(own.filter λu=>u.reach==r)=[]:=ang.2 λv V=>h0 ⟨v,V,λe=>X (by grind)⟩;grind
@[go_sem] def cw (l_:List Int)(k_0:Nat)(x4:List Int×Int×Int):(List Int)⊕(List Int×Int×Int):=letI q0:=Int.toNat x4.2.1;letI q1:=Int.toNat x4.2.2;(bif(decide (x4.2.1<x4.2.2))then .inr (((x4.1.set q0 (x4.1.getD q1 0)).set q1 (x4.1.getD q0 0)),(i64.wrap (x4.2.1+1)),(i64.wrap (x4.2.2 - 1)))else .inl x4.1)
def dh (l_:List Int)(k_0:Nat)(x4:List Int×Int×Int):Prop:=letI q1:=(x4.1.length:Int);letI q0:=0<=x4.2.1/\x4.2.1<q1;((decide (x4.2.1<x4.2.2))=true->((0<=x4.2.2/\x4.2.2<q1)/\(q0/\(q0/\(0<=x4.2.2/\x4.2.2< ((x4.1.set (Int.toNat x4.2.1) (x4.1.getD (Int.toNat x4.2.2) 0)).length:Int))))))
def f8 (l_:List Int):List Int:=(match aj (cw l_) (l_.length+1) 0 (l_,0,(i64.wrap ((l_.length:Int) - 1)))with| .inl u0=>u0| .inr x4=>default)
def gK (l_:List Int):Prop:=letI q0:=(l_,0,(i64.wrap ((l_.length:Int) - 1)));letI q1:=cw l_;(l_.length<=aN->(okI q1 (dh l_) (l_.length+1) 0 q0/\(∀ z_,aj q1 (l_.length+1) 0 q0≠ .inr z_)))
@[go_sem] noncomputable def nt:List SV->List Ob->Option aoJ:=λl h=>MO .int (λl_=>(pQ (.os 0) (pE (fK (gK l_) (.tup []) [.row .int (f8 l_)]))) l) h
theorem tD:aoH Tryz.prog 161 nt:=by
 have hG:=mG W2 W2;refine fR hG Tryz.f161 (λl o con h=>?_);unfold nt at h;obtain⟨V,rfl,h⟩:=MQ h;obtain⟨r0,rfl,Y⟩:=Fe h;obtain⟨rfl,rfl⟩:=w8 Y;clear h Y;refine⟨_,_,_,rfl,λhp=>?_⟩;unfold gK at hp;refine⟨nbl rfl,(λid st=>bif Nat.beq id 0 then some (LCV (ρ:=(List Int)) (σ:=(List Int×Int×Int)) 1 [] [0] (λW E=>⟨[(0,.os 0),(2,.v (.int .i64 E.2.1)),(3,.v (.int .i64 E.2.2))],[.row .int E.1]⟩) (cw V) (dh V) (V.length+1) (V,0,(i64.wrap ((V.length:Int) - 1))) (λ_=>.normal) (λO=>⟨[],[.row .int O]⟩) st)else none),?_,?_⟩;unfold ae Tryz.f161;simp only[ak,true_and,and_true];refine eW mixed aJ hG kr (λ_=>rfl) λW E X=>⟨L0,ag _,?_⟩;unfold dh at X;exact db (jl [0]);unfold ae Tryz.f161;try unfold f8
 exact db (jl [0])
@[go_sem] def rB (d:ah)(l_:List Int)(k_0:Nat)(x4:Unit):Unit⊕Unit:=(bif((decide ((l_.getD k_0 0) <0)) ||(decide ((l_.getD k_0 0)>=(d.reaches.length:Int))))then .inl ()else .inr ())
def jB (d:ah)(l_:List Int):Int:=(bif((aw d) !=0)then(aw d)else(match aj (rB d l_) l_.length 0 ()with| .inl u0=>1| .inr x4=>0))
@[go_sem] def Gd:List SV->Option Con:=(pD .al λd=>(pR .int λl_=>(pE (.det True (.v (.int .i64 (jB d l_)))))))
theorem DG:P1 Tryz.prog 158 Gd:=by
 have hG:=mG (cn [.st .al] nI W2) W2;refine fN hG Tryz.f158 [.o] (az λd=>(bM λE=>(am (λY=>?_))));dsimp only[an]at Y;refine⟨nbl rfl,(λid st=>bif Nat.beq id 0 then some (LCR (ρ:=Unit) (σ:=Unit) 1 [] [0] (λO V=>⟨[(2,.ptr 0 0),(13,.rs .int E),(14,.v (.int .i64 (E.length:Int))),(15,.v (.int .i64 (O:Int)))],[.cells (cellsOf .al d)]⟩) (rB d E) pT E.length () (E.length<=aN) (λ_=>.ret) (λW=>⟨[(4,.v (.int .i64 1))],[.dead]⟩) st)else none),?_,?_⟩;unfold ae Tryz.f158;simp only[ak,true_and,and_true];refine b_ mixed aJ hG kr (λ_=>rfl) (E.length:Int) rfl fH (λhb0 O V X _ hw hc=>⟨L0,ag _,?_⟩) (λhb0 V hc=>?_);exact bE (jl [0]);exact bF (jl [0]);unfold ae Tryz.f158;try unfold jB
 exact zq2
def mf (d:ah)(reach:Int):List Int×Int:=(bif((jB d ([reach])) !=0)then([],(jB d ([reach])))else((f8 (ez d reach)),0))
def qu (d:ah)(reach:Int):Prop:=(((jB d ([reach])) !=0)=false->((0<=reach/\n_ d reach/\(ez d reach).length*8<=d8)/\(gK (ez d reach))))
@[go_sem] def H4:List SV->Option Con:=(pD .al λd=>(pI λreach=>(pE (.det (qu d reach) (.tup [.nw .int ((mf d reach).1),.v (.int .i64 ((mf d reach).2))])))))
theorem Ge:P1 Tryz.prog 101 H4:=by
 have hG:=mG (cn [.st .al,.sl .int] DG W2) (co Aq (co Km (co tD W2)));refine fW hG Tryz.f101 [(.tmp 4,.int)] (az λd=>(aG λreach=>(am (λE=>?_))));dsimp only[an]at E;unfold qu at E;refine⟨nbl rfl,L0,ag _,?_⟩;unfold ae Tryz.f101;try unfold mf
 exact zq2
theorem yS {ρ τ:Type}{step:τ->Unit->ρ⊕Unit}:∀ {L:List τ},cB step L ()=.inr ()↔∀ x∈L,step x ()=.inr ()
 | [] =>by simp[cB]
 |x::r=>by
  simp only[cB,ala,forall_eq_or_imp];cases h:step x ()with
  |inl y=>simp|inr y=>simp only[true_and];exact yS
theorem Nu(l:List α)(d r:α)(i k:Nat)(hi:i<l.length):(l.set i r).getD k d=if k=i then r else l.getD k d:=by
 grind
theorem KW (l:List Int)(hl:l.length<=aN):okI (cw l) (dh l) (l.length+1) 0 (l,0,(i64.wrap ((l.length:Int) - 1)))/\aj (cw l) (l.length+1) 0 (l,0,(i64.wrap ((l.length:Int) - 1)))=.inl l.reverse:=by
 unfold aN at hl;rw[aA (by omega) (by omega)];have key:∀ (n k:Nat) (s:List Int),n+k=l.length+1->s.length=l.length->2*k<=l.length+1->(∀ p,p<l.length->s.getD p 0=if p<k\/l.length<=p+k then l.getD (l.length - 1 - p) 0 else l.getD p 0)->
   okI (cw l) (dh l) n k (s,(k:Int),(l.length:Int) - 1 - k)/\(1<=n->aj (cw l) n k (s,(k:Int),(l.length:Int) - 1 - k)=.inl l.reverse):=by
  intro n;induction n with
  |zero=>omega
  |succ n ih=>
   intro k s hn hs hk E;have hstep:cw l k (s,(k:Int),(l.length:Int) - 1 - k)=if(k:Int) < (l.length:Int) - 1 - k then .inr ((s.set k (s.getD (l.length - 1 - k) 0)).set (l.length - 1 - k) (s.getD k 0),((k+1:Nat):Int),(l.length:Int) - 1 - ((k+1:Nat):Int))else .inl s:=by
    unfold cw;simp only;by_cases hlt:(k:Int) < (l.length:Int) - 1 - k
    rw[decide_eq_true hlt,if_pos hlt,aA (by omega) (by omega),aA (by omega) (by omega)];simp only[cond_true,ak1];have e:((l.length:Int) - 1 - k).toNat=l.length - 1 - k:=by omega
    grind
    grind
   by_cases hlt:(k:Int) < (l.length:Int) - 1 - k
   have O:∀ p,p<l.length->((s.set k (s.getD (l.length - 1 - k) 0)).set (l.length - 1 - k) (s.getD k 0)).getD p 0=if p<k+1\/l.length<=p+(k+1)then l.getD (l.length - 1 - p) 0 else l.getD p 0:=λp W=>by
    rw[Nu _ _ _ _ _ (by grind),Nu _ _ _ _ _ (by omega)];have h1:=E k (by omega);have h2:=E (l.length - 1 - k) (by omega);rw[if_neg (by omega)]at h1 h2;by_cases X:p=l.length - 1 - k
    rw[if_pos X,if_pos (by omega),h1];congr 1;omega
    rw[if_neg X];by_cases Y:p=k
    grind
    rw[if_neg Y,E p W];omega
   have:=ih (k+1) _ (by omega) (by grind) (by omega) O;refine⟨⟨?_,λs' V=>?_⟩,λ_=>?_⟩;unfold dh;simp only;intro _;have e1:(s.set (Int.toNat (k:Int)) (s.getD (Int.toNat ((l.length:Int) - 1 - k)) 0)).length=l.length:=by grind
   omega;grind
   simp only[aj,hstep,if_pos hlt];grind
   refine⟨⟨?_,λs' V=>?_⟩,λ_=>?_⟩;grind [dh]
   grind
   simp only[aj,hstep,if_neg hlt];congr 1
   apply anM;grind
   intro p h1 h2;rw[List.getElem_reverse];have:=E p (by omega);rw[iC s 0 h1,iC l 0 (by omega)]at this;rw[this];by_cases q:p<k\/l.length<=p+k
   rw[if_pos q];rw[if_neg q,iC l 0 (by omega)];congr 1;omega
 have h0:=key (l.length+1) 0 l (by omega) rfl (by omega) (λp E=>by omega);grind
theorem acW (l:List Int)(E:l.length<=aN):f8 l=l.reverse:=by
 grind [f8,KW]
theorem ahA (l:List Int):gK l:=λE=>⟨(KW l E).1,λz O=>by grind [KW]⟩
variable {d:ah}
theorem aaq(hr:aoL d){n:Int}(E:0<=n)(h1:n< (d.reaches.length:Int)):(0<n/\0<=(d.reaches.getD n.toNat (eG .reach)).up/\(d.reaches.getD n.toNat (eG .reach)).up<n)\/(n=0/\(d.reaches.getD n.toNat (eG .reach)).up= -1):=by
 have:=((KI _ _).1 (hr.reach n.toNat (by omega))).1;grind
theorem Nv {d:ah}(hr:aoL d):∀ (f:Nat) (n:Int),n< (d.reaches.length:Int)->n<f->MR d f n/\(upL d f n).length<=f/\∀ x∈upL d f n,0<=x/\x< (d.reaches.length:Int)
 |0,n,h1,h2=>⟨by unfold MR;omega,ak2 _,λx O=>by cases O⟩
 |f+1,n,h1,h2=>by
  by_cases E:0<=n
  have V:(d.reaches.getD n.toNat (eG .reach)).up<n:=by rcases aaq hr E h1 with⟨_,_,h⟩ | ⟨h,h'⟩ <;>omega
  obtain⟨i1,W,X⟩:=Nv hr f (d.reaches.getD n.toNat (eG .reach)).up (by omega) (by omega);refine⟨λ_=>⟨h1,i1⟩,?_,λx O=>?_⟩;rw[upL,if_pos E,ak5];omega;rw[upL,if_pos E]at O;grind
  refine⟨λh=>absurd h E,by rw[DY E];simp,λx O=>by grind [DY]⟩
theorem B6 (d:ah)(l:List Int):jB d l=0↔aw d=0/\∀ x∈l,0<=x/\x< (d.reaches.length:Int):=by
 unfold jB;cases h1:(aw d !=0)with
 |true=>grind
 |false=>
  simp at h1;simp only[cond_false,h1,true_and];let f:Int->Unit->Unit⊕Unit:=λx _=>(bif((decide (x<0)) ||(decide (x>=(d.reaches.length:Int))))then .inl ()else .inr ())
  have e:aj (rB d l) l.length 0 ()=cB f l ():=rP f 0 l ();grind [yS]
structure apI (d:ah)(reach:Int):Prop where
 chk:aw d=0
 r0:0<=reach
 r1:reach< (d.reaches.length:Int)
theorem apI.right{reach:Int}(h:apI d reach):aoL d:=jz (by rw[h.chk];rfl)
theorem Nw (d:ah)(reach:Int):jB d [reach]=0↔apI d reach:=by
 rw[B6];exact⟨λ⟨h1,h2⟩ =>⟨h1,(h2 reach (by simp)).1,(h2 reach (by simp)).2⟩,λh=>⟨h.chk,λx E=>by rw[alz]at E;subst E;exact⟨h.r0,h.r1⟩⟩⟩
theorem apI.up{reach:Int}(h:apI d reach):n_ d reach/\(ez d reach).length<=64/\∀ x∈ez d reach,0<=x/\x< (d.reaches.length:Int):=by
 have:=Nv h.right (reach.toNat+1) reach h.r1 (by omega);have h1:=h.right.reaches;have h2:=h.r1;exact⟨this.1,by grind [ez],this.2.2⟩
theorem yT (d:ah)(reach:Int):qu d reach:=λh=>by
 have E:=(Nw d reach).1 (by simpa using h);have O:=E.up;exact⟨⟨E.r0,O.1,by unfold d8;omega⟩,ahA _⟩
theorem Gf{reach:Int}(h:apI d reach):mf d reach=((ez d reach).reverse,0):=by
 unfold mf;rw[(Nw d reach).2 h,acW _ (by have:=h.up.2.1;unfold aN;omega)];rfl
theorem Gg {d:ah}(hr:aoL d):∀ (f m i:Nat) (n:Int) (E:List Int),0<=n->n< (d.reaches.length:Int)->n<f->n<m->E.length+n<=64->
  okI (gJ d) (jh d) m i (n::E)/\aj (gJ d) m i (n::E)=.inl ((upL d f n).reverse++E)
 |0,_,_,n,_,h0,_,h2,_,_=>by omega
 |f+1,0,_,n,_,h0,_,_,h3,_=>by omega
 |f+1,m+1,i,n,E,h0,h1,h2,h3,h4=>by
  have hg:(n::E).getD 0 (0:Int)=n:=rfl;rcases aaq hr h0 h1 with⟨Y,O,V⟩ | ⟨X,V⟩;have hstep:gJ d i (n::E)=.inr ((d.reaches.getD n.toNat (eG .reach)).up::n::E):=by
   grind [gJ]
  obtain⟨i1,i2⟩:=Gg hr f m (i+1) (d.reaches.getD n.toNat (eG .reach)).up (n::E) O (by omega) (by omega) (by omega) (by grind);refine⟨⟨?_,λs W=>?_⟩,?_⟩;grind [jh,d8]
  grind
  simp_all [aj,upL];subst X;have hstep:gJ d i ((0:Int)::E)=.inl (0::E):=rfl;refine⟨⟨?_,λs W=>?_⟩,?_⟩;grind [jh]
  grind
  simp_all [aj,upL,DY]
theorem acX{reach:Int}(h:apI d reach):rX d reach/\iW d reach=(ez d reach).reverse:=by
 have h1:=h.right.reaches;have h2:=h.r1;have O:=h.r0;obtain⟨a,b⟩:=Gg h.right (reach.toNat+1) 66 0 reach [] h.r0 h.r1 (by omega) (by omega) (by grind);rw[ali]at b;exact⟨⟨a,λz E=>by grind⟩,by unfold iW;rw[b];rfl⟩
theorem Nx (x:Int)(l:List Int):fZ (x::l)=if x=0 then fZ l else x:=by
 have key:∀ l:List Int,fZ l=match cB (ρ:=Int) (λ(x:Int) (_:Unit) =>bif(x !=0)then .inl x else .inr ()) l ()with| .inl y=>y| .inr _=>0:=λl=>by
  unfold fZ;have:=rP (ρ:=Int) (λ(x:Int) (_:Unit) =>bif(x !=0)then .inl x else .inr ()) 0 l ();rw[<-this];rfl
 rw[key,key];simp only[cB];by_cases h:x=0
 subst h;rfl;have:(x !=0)=true:=by simpa using h
 rw[if_neg h,this];rfl
def PU:fZ []=0:=rfl
theorem Gh:∀ l:List (Int×Int),(fZ (l.map λp=>bj p.1 p.2) <0↔mD l)
 | [] =>by simp[PU,mD]
 |(a,b)::r=>by
  have hc:=jy a b;simp only[alt,Nx,hc,mD];rcases anz a b with h|h|h;simp[h];subst h;simp only[an9,if_false,if_true,true_and,false_or,gt_iff_lt];exact Gh r;have h1:¬a<b:=by omega
  have h2:a≠b:=by omega
  simp[h1,h2,h]
def rZ (a b:Claim):Prop:=mD [(a.hour,b.hour),(a.aoA,b.aoA),(a.right,b.right),(a.gl,b.gl)]
def AH (a b:Claim):c5 a b<0↔rZ a b:=Gh [(a.hour,b.hour),(a.aoA,b.aoA),(a.right,b.right),(a.gl,b.gl)]
def Gi (a b:Y2):fI a b<0↔rZ a.Q1 b.Q1:=AH a.Q1 b.Q1
open Go.Shelf Go.Sort in
theorem I4:SWO (ltOf fI):=KG Gi (λx=>by simp only[rZ,mD,and_false,or_false];omega) (λx y z h1 h2=>by simp only[rZ,mD,and_false,or_false]at *;omega) (λx y z h1 h2=>by simp only[rZ,mD,and_false,or_false]at *;omega)
def hrs (a b:Int):List Int:=(List.range (b+1 - a).toNat).map λk:Nat=>a+(k:Int)
variable {a:Int}
theorem Y0{b:Int}(h:b<a):hrs a b=[]:=by unfold hrs;grind
theorem Ny{b:Int}(h:a<=b+1):hrs a (b+1)=hrs a b++[b+1]:=by
 unfold hrs;rw[show(b+1+1 - a).toNat=(b+1 - a).toNat+1 by omega,anX,amo,List.map_singleton,show a+(((b+1 - a).toNat:Nat):Int)=b+1 by omega]
theorem Y3{b x:Int}:x∈hrs a b↔a<=x/\x<=b:=by
 unfold hrs;rw[al3];constructor
 grind
 rintro⟨h1,h2⟩;exact⟨(x - a).toNat,by grind,by omega⟩
theorem acY (a b:Int):(hrs a b).Pairwise (· < ·):=by
 unfold hrs;rw[amS];exact List.pairwise_lt_range.imp λh=>by omega
theorem Rl (a b:Int):(hrs a b).length=(b+1 - a).toNat:=by unfold hrs;simp
theorem Y4 {α β:Type}{R:β->β->Prop}{S:α->α->Prop}{f:α->List β}{l:List α}(V:l.Pairwise S)(h1:∀ a∈l,(f a).Pairwise R)(h2:∀ a∈l,∀ b∈l,S a b->∀ x∈f a,∀ y∈f b,R x y):(l.flatMap f).Pairwise R:=by
 rw[an1];refine⟨h1,?_⟩;exact V.imp_of_mem λ{a b} E W O=>h2 a E b W O
theorem S0 {α β:Type}{f g:α->List β}{l:List α}(h:∀ a∈l,(f a).Perm (g a)):(l.flatMap f).Perm (l.flatMap g):=by
 induction l with
 |nil=>rfl
 |cons a l E=>
  grind
open Go.Shelf Go.Sort in
theorem zu {α:Type}{cf:α->α->Int}(E:SWO (ltOf cf)){s m:List α}(O:s.Perm m)(hm:m.Pairwise λx y=>cf x y<0):apart cf s/\srt cf s=m:=by
 have Y:∀ x y,ltOf cf x y=true↔cf x y<0:=λx y=>by unfold ltOf;grind
 have W:∀ x∈m,∀ y∈m,ltOf cf x y=false->ltOf cf y x=false->x=y:=λx X y hy h1 h2=>by
  obtain⟨i,hi,rfl⟩:=alE.1 X;obtain⟨j,hj,rfl⟩:=alE.1 hy;grind [List.pairwise_iff_getElem]
 refine⟨λx X y hy h1 h2=>W x (O.subset X) y (O.subset hy) h1 h2,?_⟩;unfold srt;have hq:(s.mergeSort λx y=>!(ltOf cf y x)).Perm m:=(al5 _ _).trans O;refine al9 (le:=λx y=>(!ltOf cf y x)=true) ?_ ?_ ?_ hq;grind
 refine alW ?_ ?_ s;intro a b c h1 h2;simp only[alm]at h1 h2 |-;exact E.3 c b a h2 h1;intro a b;simp only[alx,alm];cases h1:ltOf cf b a with
 |false=>grind
 |true=>
  right;cases h2:ltOf cf a b with
  |false=>rfl|true=>have:=E.2 _ _ _ h1 h2;rw[E.1]at this;cases this
 refine hm.imp λ{a b} V=>?_;simp only[alm];cases h2:ltOf cf b a with
 |false=>rfl|true=>have:=E.2 _ _ _ ((Y _ _).2 V) h2;rw[E.1]at this;cases this
end Go.Sx
end
section
namespace Go.Proofs
open Go.Shelf Go.Sx
def Tryz.aqh:Go.Shelf.Ren:=⟨λ|6=>231|15=>133|14=>286|28=>199|29=>200|20=>319|21=>320|22=>321|23=>322|24=>323|25=>324|26=>325|27=>326|46=>340|47=>260|48=>261|49=>341|50=>342|57=>346|n=>n,λ|22=>218|24=>222|25=>325|3=>3|39=>229|0=>0|53=>294|55=>296|4=>4|46=>288|45=>287|50=>267|5=>5|9=>9|66=>342|70=>60|76=>375|77=>376|n=>n,λ|n=>n⟩
theorem Tryz.aqF:Go.Proofs.SlLaysF0.n6 Tryz.prog Tryz.aqh:=⟨kr,⟨Tryz.f231.name,by decide,kr⟩,⟨Tryz.f286.name,by decide,kr⟩,kr,⟨Tryz.f319.name,by decide,kr⟩,⟨Tryz.f320.name,by decide,kr⟩,⟨Tryz.f321.name,by decide,kr⟩,⟨Tryz.f322.name,by decide,kr⟩,⟨Tryz.f323.name,by decide,kr⟩,⟨Tryz.f324.name,by decide,kr⟩,⟨Tryz.f325.name,by decide,kr⟩,⟨Tryz.f326.name,by decide,kr⟩,kr,kr,⟨Tryz.f340.name,by decide,kr⟩,kr,kr,⟨Tryz.f341.name,by decide,kr⟩,⟨Tryz.f342.name,by decide,kr⟩,⟨Tryz.f346.name,by decide,kr⟩,kr,λ_=>kr,λ_=>kr,λ_=>kr,kr,λ_=>kr,λ_=>kr,λ_=>kr,kr,λ_=>kr,λ_=>kr,λ_=>kr,kr,λ_=>kr,λ_=>kr,λ_=>kr,kr,λ_=>kr,λ_=>kr,λ_=>kr,kr,λ_=>kr,λ_=>kr,λ_=>kr,kr,λ_=>kr,λ_=>kr,λ_=>kr,kr,λ_=>kr,λ_=>kr,λ_=>kr,kr,λ_=>kr,λ_=>kr,λ_=>kr,kr,λ_=>kr,λ_=>kr,λ_=>kr,kr,λ_=>kr,λ_=>kr,λ_=>kr,kr,λ_=>kr,λ_=>kr,λ_=>kr,kr,λ_=>kr,λ_=>kr,λ_=>kr,kr,λ_=>kr,λ_=>kr,λ_=>kr,kr,λ_=>kr,λ_=>kr,λ_=>kr,kr,λ_=>kr,λ_=>kr,λ_=>kr,kr,λ_=>kr,λ_=>kr,λ_=>kr⟩
end Go.Proofs
end
section
namespace Go.Sx
open Go.Lib Go.Proofs Go.RowKit Go.Shelf Go.Sort
noncomputable def CZ:List SV->List Ob->Option aoJ:=iS .holding 232 [] c6
@[go_sem]def Wc {l0:List aox}:CZ [.os 0,.fn 232 [] []] [.row .holding l0]=some (fK (apart c6 l0) (.tup []) [.row .holding (srt c6 l0)]):=na
theorem H5:xe .holding:=λx s E=>by
 simp only[cellsOf,ala,alV,or_false]at E;rcases E with rfl|rfl|rfl|rfl;all_goals exact⟨_,rfl,rfl⟩
theorem C0 (x y:aox):wh (.agg (cellsOf .holding x):: .agg (cellsOf .holding y)::[])=some (.det True (.v (.int .i64 (c6 x y)))):=by
 simp only[go_sem,Nat.reduceBEq]
theorem KX:aoH Tryz.prog 231 CZ:=
 qM (k:=.holding) Tryz.aqF (λw=>by kernel_rfl) (λw=>by kernel_rfl) H5 (by decide) (g:=232) (caps:=[]) BV (cf:=c6) C0 CV (λs E=>by cases E) ⟨default,default,C0 _ _⟩
end Go.Sx
end
section
namespace Go.Sx
open Go.Proofs
open IntKind (i64)
variable {p:Prop}
theorem clQ(h:p:=by((repeat' (first|with_reducible refine And.intro ?_ ?_|with_reducible intro _)) <;>(first|done|with_reducible exact Empty.elim ‹Empty› |with_reducible assumption|rfl|((try simp only[Ko,VL]at *);first|with_reducible assumption|(simp_all only[cy,ei];done) |grind|(simp_all only[cy,ei];grind))))):p:=h
@[go_sem] def fe (a0:ah)(a1:List bn)(a2:Int)(a3:Int)(k_0:A1×Int)(x4:List aox):Empty⊕(List aox):=(bif(decide (k_0.2 > 0))then .inr (x4++([({ right:=k_0.1.right,gl:=k_0.1.gl,dd:=k_0.2,aoA:=(a0.ai.getD (Int.toNat k_0.1.right) default).aoA}:aox)]))else .inr x4)
def mH (a0:ah)(a1:List bn)(a2:Int)(a3:Int)(k_0:A1×Int)(x4:List aox):Prop:=((decide (k_0.2 > 0))=true->((0<=k_0.1.right/\k_0.1.right< (a0.ai.length:Int))/\((x4++([({ right:=k_0.1.right,gl:=k_0.1.gl,dd:=k_0.2,aoA:=(a0.ai.getD (Int.toNat k_0.1.right) default).aoA}:aox)])).length*32<=d8)))
def aD (a0:ah)(a1:List bn)(a2:Int)(a3:Int):List aox×Int:=letI q0:=a_ a0 a1;(bif(q0 !=0)then([],q0)else(bif((!(aU a2 0 (i64.wrap (a0.hours - 1)))) ||(!(aU a3 0 1048576)))then([],1)else(match cB (fe a0 a1 a2 a3) ((fh a0 (eO a1 a2 a3)).1) ([])with| .inl x=>x.elim| .inr x4=>((srt c6 x4),0))))
def qw (a0:ah)(a1:List bn)(a2:Int)(a3:Int):Prop:=letI q0:= !(aU a2 0 (i64.wrap (a0.hours - 1)));letI q1:=aD a0 a1 a2 a3;letI q2:=a_ a0 a1;letI q3:= !(aU a3 0 1048576);letI q4:=eO a1 a2 a3;letI q5:=fe a0 a1 a2 a3;((jZ a0 a1)/\(((q2 !=0)=true->(([],q2)=q1))/\((q2 !=0)=false->(((q0||q3)=true->(([],1)=q1))/\((q0||q3)=false->((iv a1 a2 a3)/\((lh a0 q4)/\(∀ L_0,L_0.Perm ((fh a0 q4).1)->(okL q5 (mH a0 a1 a2 a3) L_0 ([])/\(∀ x4,cB q5 L_0 ([])=.inr x4->((apart c6 x4)/\(((srt c6 x4),0)=q1))))))))))))
@[go_sem] def yU:List SV->Option Con:=(pD .al λa0=>(pR .B1 λa1=>(pI λa2=>(pI λa3=>(pE (.det (qw a0 a1 a2 a3) (.tup [.nw .holding ((aD a0 a1 a2 a3).1),.v (.int .i64 ((aD a0 a1 a2 a3).2))])))))))
theorem aar{l0 l1:List Nat}(a0:JL l0)(a1:JL l1)(h:JL l0->JL l1->p:=by intro ja jb;simp only[go_sem,alV];all_goals exact gw ja jb):p:=h a0 a1
theorem ahB(h:p:=by simp only[go_sem];all_goals exact clQ):p:=h
theorem Gj:P1 Tryz.prog 157 yU:=by
 have hG:=mG (cn [.st .al,.sl .B1] tX (cp sO (cn [.st .al,.o] zp (cn [.sl .B1,.o,.o] xn W2)))) (co KX W2);refine fW hG Tryz.f157 [(.tmp 8,.holding)] (az λa0=>(bM λa1=>(aG λW=>(aG λX=>(am (λhp=>?_))))));dsimp only[an]at hp;unfold qw at hp;refine⟨nbl rfl,(λid st=>bif Nat.beq id 0 then some (LCP (τ:=A1×Int) (ρ:=Empty) (σ:=(List aox)) 4 [.slot 8 (.row .holding ([]))] [0,1,2,3,4] (λE O V=>⟨[(4,.ptr 0 0),(8,.os 4),(41,.ptr 3 0)],[.cells (cellsOf .al a0),.mp .pq .int ((fh a0 (eO a1 W X)).1) (some (3,none)),.dead,.mi (some 1) (((fh a0 (eO a1 W X)).1).length) E O,.row .holding V]⟩) (fe a0 a1 W X) (mH a0 a1 W X) ((fh a0 (eO a1 W X)).1) ([]) ((·.elim)) ((·.elim)) (λV=>⟨[(8,.os 4)],[.dead,.dead,.dead,.dead,.row .holding V]⟩) st)else none),?_,?_⟩
 ·unfold ae Tryz.f157;simp only[ak,true_and,and_true]
  ·refine ML (eG .pq,eG .int) 3 mixed aJ hG kr (λ_=>rfl) λE O V hp0=>⟨L0,ag _,?_⟩
   ·by_cases Y:E=[]
    subst Y;exact aar (jl [0,1,2,3,7]) (jl [0,1,2,3,4])
    ·simp only[go_sem,Y];intro j hj0;obtain⟨apq,hq0⟩:=hp0 j hj0;unfold mH at hq0;all_goals exact gw (jl [0,1,2,3,7]) (jl [0,1,2,3,4])
 unfold ae Tryz.f157;exact ahB
@[go_sem] def B7 (x:Claim):List SV:=[.agg (cellsOf .Q1 x)]
@[go_sem] def H6:List SV->Option Con:=(pD .al λd=>(pR .B1 λl_=>(pI λhour=>(pI λknown=>(pE (.det True (.fn 156 [] [.ep (cellsOf .al d) 0,.ep [.rs .B1 l_] 0,.ep [.v (.int .i64 hour)] 0,.ep [.v (.int .i64 known)] 0])))))))
theorem Gk:P1 Tryz.prog 100 H6:=by
 have hG:=mG W2 W2;refine fN hG Tryz.f100 [.o] (az λd=>(bM λO=>(aG λhour=>(aG λknown=>(am (λE=>?_))))));refine⟨nbl rfl,L0,ag _,?_⟩;unfold ae Tryz.f100;simp only[go_sem,sJ,sK,Nat.reduceBEq,Nat.reduceLeDiff,Nat.reduceAdd,Nat.reduceSub,Nat.reduceMul]
@[go_sem] def iM (d:ah)(l_:List bn)(hour:Int)(known:Int)(k_0:Nat)(x4:List Claim):Empty⊕(List Claim):=letI q0:=((aD d l_ hour known).1).getD k_0 default;letI q1:=d.ai.getD (Int.toNat (q0.right)) default;(bif(((decide (hour<q1.since)) ||(decide (hour > q1.to))) ||(decide ((Int.tmod (i64.wrap (hour - q1.since)) (q1.every))>=q1.length)))then .inr x4 else .inr (x4++[({ right:=q0.right,gl:=q0.gl,hour:=hour,dd:=q0.dd,aoA:=q0.aoA}:Claim)]))
def nW (d:ah)(l_:List bn)(hour:Int)(known:Int)(aoM:List (List SV))(k_0:Nat)(x4:List Claim):Prop:=letI q1:=((aD d l_ hour known).1).getD k_0 default;letI q0:=d.ai.getD (Int.toNat (q1.right)) default;letI q2:=decide (hour<q0.since);letI q3:=decide (hour > q0.to);((0<=q1.right/\q1.right< (d.ai.length:Int))/\(((q2||q3)=false->q0.every≠0)/\(((q2||q3) ||(decide ((Int.tmod (i64.wrap (hour - q0.since)) (q0.every))>=q0.length)))=false->(aoM[x4.length]? =some (B7 ({ right:=q1.right,gl:=q1.gl,hour:=hour,dd:=q1.dd,aoA:=q1.aoA}:Claim))))))
def fD (d:ah)(l_:List bn)(hour:Int)(known:Int):List Claim:=(match aj (iM d l_ hour known) (((aD d l_ hour known).1).length) 0 ([]:List Claim)with| .inl x=>x.elim| .inr x4=>x4)
def kH (d:ah)(l_:List bn)(hour:Int)(known:Int)(aoM:List (List SV)):Prop:=letI q0:=(aD d l_ hour known).1;letI q1:=iM d l_ hour known;((qw d l_ hour known)/\(q0.length<=aN->(okI q1 (nW d l_ hour known aoM) (q0.length) 0 ([]:List Claim)/\(∀ x4,aj q1 (q0.length) 0 ([]:List Claim)=.inr x4->(aoM.length=x4.length)))))
theorem B8 (d:ah)(O:List bn)(hour:Int)(known:Int)(E:List (List SV))(hp:kH d O hour known E):Ak Tryz.prog 156 (λy=>[y,.ep (cellsOf .al d) 0,.ep [.rs .B1 O] 0,.ep [.v (.int .i64 hour)] 0,.ep [.v (.int .i64 known)] 0]) [] E:=by
 unfold kH at hp;refine BD mixed aJ (fn:=Tryz.f156) (c:=ae Tryz.f156) kr kr kr kr rfl (n:=0) rfl (G:=λY=>Al [(157,λl=>yU (y3 [.st .al,.sl .B1,.o,.o] l))] [] (Dg E Y)) (λY hy=>?_) (λargs w=>by kernel_rfl);have hG:=mGY (cn [.st .al,.sl .B1,.o,.o] Gj W2) W2 hy;refine⟨hG,nbl rfl,(λid st=>bif Nat.beq id 0 then some (LCY (ρ:=Empty) (σ:=(List Claim)) 2 [] [0,1] (λW V=>⟨[(0,.os 0),(1,.ep (cellsOf .al d) 0),(3,.ep [.v (.int .i64 hour)] 0),(19,.os 1),(20,.v (.int .i64 (((aD d O hour known).1).length:Int))),(21,.v (.int .i64 (W:Int)))],[.ab (Y.1 (V.length+1)),.row .holding ((aD d O hour known).1)]⟩) (iM d O hour known) (nW d O hour known E) (((aD d O hour known).1).length) ([]:List Claim) (((aD d O hour known).1).length<=aN) ((·.elim)) ((·.elim)) ⟨[],[.ab (Y.1 0),.dead]⟩ st)else none),?_,?_⟩;unfold ae Tryz.f156;simp only[ak,true_and,and_true];refine sL mixed aJ hG kr (λ_=>rfl) (((aD d O hour known).1).length:Int) rfl fH (λhb0 W V apq X hw hc=>⟨L0,ag _,?_⟩) (λhb0 V hc=>?_);unfold nW at X;try simp only[hw,ak1]at X
 exact oL (jl [0,1]);exact oM (jl [0,1]);unfold ae Tryz.f156;exact M5 (jl [0])
end Go.Sx
end
section
namespace Go.Proofs
open Go.Shelf Go.Sx
def Tryz.aqb:Go.Shelf.Ren:=⟨λ|6=>105|15=>133|14=>162|28=>199|29=>200|20=>235|21=>236|22=>237|23=>238|24=>239|25=>240|26=>241|27=>242|46=>287|47=>260|48=>261|49=>288|50=>289|57=>327|n=>n,λ|22=>115|24=>119|25=>186|3=>3|39=>229|0=>0|53=>294|55=>296|4=>4|46=>288|45=>287|50=>267|5=>5|9=>9|66=>342|70=>60|76=>375|77=>376|n=>n,λ|n=>n⟩
theorem Tryz.aqB:Go.Proofs.SlLaysF0.n6 Tryz.prog Tryz.aqb:=⟨kr,⟨Tryz.f105.name,by decide,kr⟩,⟨Tryz.f162.name,by decide,kr⟩,kr,⟨Tryz.f235.name,by decide,kr⟩,⟨Tryz.f236.name,by decide,kr⟩,⟨Tryz.f237.name,by decide,kr⟩,⟨Tryz.f238.name,by decide,kr⟩,⟨Tryz.f239.name,by decide,kr⟩,⟨Tryz.f240.name,by decide,kr⟩,⟨Tryz.f241.name,by decide,kr⟩,⟨Tryz.f242.name,by decide,kr⟩,kr,kr,⟨Tryz.f287.name,by decide,kr⟩,kr,kr,⟨Tryz.f288.name,by decide,kr⟩,⟨Tryz.f289.name,by decide,kr⟩,⟨Tryz.f327.name,by decide,kr⟩,kr,λ_=>kr,λ_=>kr,λ_=>kr,kr,λ_=>kr,λ_=>kr,λ_=>kr,kr,λ_=>kr,λ_=>kr,λ_=>kr,kr,λ_=>kr,λ_=>kr,λ_=>kr,kr,λ_=>kr,λ_=>kr,λ_=>kr,kr,λ_=>kr,λ_=>kr,λ_=>kr,kr,λ_=>kr,λ_=>kr,λ_=>kr,kr,λ_=>kr,λ_=>kr,λ_=>kr,kr,λ_=>kr,λ_=>kr,λ_=>kr,kr,λ_=>kr,λ_=>kr,λ_=>kr,kr,λ_=>kr,λ_=>kr,λ_=>kr,kr,λ_=>kr,λ_=>kr,λ_=>kr,kr,λ_=>kr,λ_=>kr,λ_=>kr,kr,λ_=>kr,λ_=>kr,λ_=>kr,kr,λ_=>kr,λ_=>kr,λ_=>kr,kr,λ_=>kr,λ_=>kr,λ_=>kr,kr,λ_=>kr,λ_=>kr,λ_=>kr⟩
end Go.Proofs
end
section
namespace Go.Sx
open Go.Lib Go.Proofs Go.RowKit Go.Shelf Go.Sort
noncomputable def C2:List SV->List Ob->Option aoJ:=iS .aom 106 [] fI
@[go_sem]def Wd {l0:List Y2}:C2 [.os 0,.fn 106 [] []] [.row .aom l0]=some (fK (apart fI l0) (.tup []) [.row .aom (srt fI l0)]):=na
theorem Nz:xe .aom:=λx s E=>by
 simp only[cellsOf,ala,alV,or_false]at E;rcases E with rfl|rfl|rfl|rfl|rfl|rfl;all_goals exact⟨_,rfl,rfl⟩
theorem I5 (x y:Y2):xw (.agg (cellsOf .aom x):: .agg (cellsOf .aom y)::[])=some (.det True (.v (.int .i64 (fI x y)))):=by
 simp only[go_sem,Nat.reduceBEq]
theorem KY:aoH Tryz.prog 105 C2:=
 qM (k:=.aom) Tryz.aqB (λw=>by kernel_rfl) (λw=>by kernel_rfl) Nz (by decide) (g:=106) (caps:=[]) DC (cf:=fI) I5 I4 (λs E=>by cases E) ⟨default,default,I5 _ _⟩
end Go.Sx
end
section
namespace Go.Sx
open Go.Proofs
open IntKind (i64)
@[go_sem] def fU (a0:ah)(a1:List bn)(a4:Int)(x4:List Y2×Int)(z_1:Claim)(s_1:List Y2):Empty⊕(List Y2):=letI q0:=(mf a0 ((a0.zs.getD (Int.toNat z_1.gl) default).reach)).1;letI q1:=dM q0 (cK a0 x4.2) z_1;(bif(decide (q1>=0))then .inr (s_1++([({ Q1:=z_1,reach:=(q0.getD (Int.toNat q1) 0)}:Y2)]))else .inr (s_1++([({ Q1:=z_1,reach:=(-1)}:Y2)])))
def ir (a0:ah)(a1:List bn)(a4:Int)(x4:List Y2×Int)(z_1:Claim)(s_1:List Y2):Prop:=letI q1:=(a0.zs.getD (Int.toNat z_1.gl) default).reach;letI q2:=(mf a0 q1).1;letI q0:=dM q2 (cK a0 x4.2) z_1;((0<=z_1.gl/\z_1.gl< (a0.zs.length:Int))/\((qu a0 q1)/\(((decide (q0>=0))=true->((0<=q0/\q0< (q2.length:Int))/\((s_1++([({ Q1:=z_1,reach:=(q2.getD (Int.toNat q0) 0)}:Y2)])).length*48<=d8)))/\((decide (q0>=0))=false->((s_1++([({ Q1:=z_1,reach:=(-1)}:Y2)])).length*48<=d8)))))
@[go_sem] def jI (a0:ah)(a1:List bn)(a3:Int)(a4:Int)(k_0:Nat)(x4:List Y2×Int):(List Y2)⊕(List Y2×Int):=(bif(decide (x4.2<=a3))then(match cB (fU a0 a1 a4 x4) (fD a0 a1 x4.2 a4) x4.1 with| .inl x=>x.elim| .inr s_1=>.inr (s_1,(i64.wrap (x4.2+1))))else .inl x4.1)
def kI (a0:ah)(a1:List bn)(a3:Int)(a4:Int)(k_0:Nat)(x4:List Y2×Int):Prop:=((decide (x4.2<=a3))=true->((kH a0 a1 x4.2 a4 ((fD a0 a1 x4.2 a4).map B7))/\okL (fU a0 a1 a4 x4) (ir a0 a1 a4 x4) (fD a0 a1 x4.2 a4) x4.1))
def ff (a0:ah)(a1:List bn)(a2:Int)(a3:Int)(a4:Int):List Y2×Int:=letI q0:=a_ a0 a1;(bif(q0 !=0)then([],q0)else(bif(((((decide (a2<0)) ||(decide (a2 > a3))) ||(decide (a3>=a0.hours))) ||(decide (a4<0))) ||(decide (a4 > 1048576)))then([],1)else(bif(decide ((i64.wrap ((i64.wrap ((i64.wrap (a3 - a2))+1))*(a0.ai.length:Int))) > 4096))then([],2)else(match aj (jI a0 a1 a3 a4) 4098 0 ([],a2)with| .inl u0=>((srt fI u0),0) | .inr x4=>default))))
def oZ (a0:ah)(a1:List bn)(a2:Int)(a3:Int)(a4:Int):Prop:=letI q0:=jI a0 a1 a3 a4;((jZ a0 a1)/\(((a_ a0 a1) !=0)=false->((((((decide (a2<0)) ||(decide (a2 > a3))) ||(decide (a3>=a0.hours))) ||(decide (a4<0))) ||(decide (a4 > 1048576)))=false->(a0.ai.length<=aN->((decide ((i64.wrap ((i64.wrap ((i64.wrap (a3 - a2))+1))*(a0.ai.length:Int))) > 4096))=false->(okI q0 (kI a0 a1 a3 a4) 4098 0 ([],a2)/\(∀ z_,aj q0 4098 0 ([],a2)≠ .inr z_)/\(∀ u0,aj q0 4098 0 ([],a2)=.inl u0->(apart fI u0))))))))
@[go_sem] def KZ:List SV->Option Con:=(pD .al λa0=>(pR .B1 λa1=>(pI λa2=>(pI λa3=>(pI λa4=>(pE (.det (oZ a0 a1 a2 a3 a4) (.tup [.nw .aom ((ff a0 a1 a2 a3 a4).1),.v (.int .i64 ((ff a0 a1 a2 a3 a4).2))]))))))))
variable {p:Prop}
theorem ahC(h:p:=by simp only[go_sem,e1_0,e1_1,e1_2,e1_3,e1_4,e1_5,e1_6,e1_7]):p:=h
variable {l0 l1:List Nat}
theorem ahD(a0:JL l0)(a1:JL l1)(h:JL l0->JL l1->p:=by intro ja jb;simp only[go_sem,fQ,fU,psT,B7,alr,ak_];all_goals exact gw ja jb):p:=h a0 a1
theorem aas(a0:JL l0)(a1:JL l1)(h:JL l0->JL l1->p:=by intro ja jb;simp only[go_sem,fQ];all_goals exact gw ja jb):p:=h a0 a1
theorem ahE(h:p:=by simp only[go_sem,fQ];all_goals exact cl):p:=h
theorem H7:P1 Tryz.prog 56 KZ:=by
 have hG:=mG (cn [.st .al,.sl .B1] tX (cn [.st .al,.o] DA (cn [.st .al,.sl .B1,.o,.o] Gk (cn [.st .al,.o] Ge (cn [.sl .int,.o] rz W2))))) (co KY W2);refine fW hG Tryz.f56 [(.cell 10 0,.aom)] (az λa0=>(bM λa1=>(aG λa2=>(aG λX=>(aG λO=>(am (λhp=>?_)))))));dsimp only[an]at hp;unfold oZ at hp;refine⟨nbl rfl,(λid st=>bif Nat.beq id 0 then some (LCV (ρ:=(List Y2)) (σ:=(List Y2×Int)) 2 [.cell 1 0 (.row .aom ([]))] [0,1,2] (λk_0 E=>⟨[(1,.rs .B1 a1),(3,.v (.int .i64 X)),(4,.v (.int .i64 O)),(5,.ptr 0 0),(10,.ptr 1 0),(12,.v (.int .i64 E.2))],[.cells (cellsOf .al a0),.cells [.os 2],.row .aom E.1]⟩) (jI a0 a1 X O) (kI a0 a1 X O) 4098 ([],a2) (λ_=>.normal) (λW=>⟨[(10,.ptr 1 0)],[.dead,.cells [.os 2],.row .aom W]⟩) st)else none),?_,?_⟩
 ·unfold ae Tryz.f56;simp only[ak,true_and,and_true]
  ·refine eW mixed aJ hG kr (λ_=>rfl) λk_0 E hq0=>⟨(λid st=>bif Nat.beq id 2 then some (LC (ρ:=Empty) (σ:=List Y2) (lk 1 st.t=.rs .B1 a1/\lk 3 st.t=.v (.int .i64 X)/\lk 4 st.t=.v (.int .i64 O)/\lk 5 st.t=.ptr 0 0/\lk 10 st.t=.ptr 1 0/\lk 12 st.t=.v (.int .i64 E.2)/\lk 13 st.t=.ptr 6 0/\lk 68 st.t=.fn 156 [] [.ep (cellsOf .al a0) 0,.ep [.rs .B1 a1] 0,.ep [.v (.int .i64 E.2)] 0,.ep [.v (.int .i64 O)] 0]/\st.h=[.cells (cellsOf .al a0),.cells [.os 2],.row .aom E.1,.mp .int .int ((cK a0 E.2).apD) none,.mp .X1 .bool ((cK a0 E.2).owned) none,.mp .X1 .bool ((cK a0 E.2).apy) none,.cells [.os 3,.os 4,.os 5]]/\kH a0 a1 E.2 O ((fD a0 a1 E.2 O).map B7)/\okL (fU a0 a1 O E) (ir a0 a1 O E) (fD a0 a1 E.2 O) E.1) (cB (fU a0 a1 O E) (fD a0 a1 E.2 O) E.1) (λx=>x.elim) (λx=>x.elim) (λV=>⟨[(1,.rs .B1 a1),(3,.v (.int .i64 X)),(4,.v (.int .i64 O)),(5,.ptr 0 0),(10,.ptr 1 0),(12,.v (.int .i64 E.2)),(13,.ptr 6 0)],[.cells (cellsOf .al a0),.cells [.os 7],.dead,.mp .int .int ((cK a0 E.2).apD) none,.mp .X1 .bool ((cK a0 E.2).owned) none,.mp .X1 .bool ((cK a0 E.2).apy) none,.cells [.os 3,.os 4,.os 5],.row .aom V]⟩))else none),?_,?_⟩
   ·simp only[ak,true_and,and_true]
    ·refine sb mixed aJ hG (by decide) (by decide) kr kr λst lc hC hp=>?_;simp only[go_sem,Nat.reduceBEq,ak3]at hC;subst hC;obtain⟨t,h⟩:=st;dsimp only[LC]at hp;obtain⟨e1_0,e1_1,e1_2,e1_3,e1_4,e1_5,e1_6,e1_7,rfl,hb1,Y⟩:=hp;refine⟨156,[.ep (cellsOf .al a0) 0,.ep [.rs .B1 a1] 0,.ep [.v (.int .i64 E.2)] 0,.ep [.v (.int .i64 O)] 0],Claim,_,_,(fD a0 a1 E.2 O),B7,(fU a0 a1 O E),(ir a0 a1 O E),_,E.1,_,_,_,[(1,.rs .B1 a1),(3,.v (.int .i64 X)),(4,.v (.int .i64 O)),(5,.ptr 0 0),(10,.ptr 1 0),(12,.v (.int .i64 E.2)),(13,.ptr 6 0)],(λV=>[.cells (cellsOf .al a0),.cells [.os 7],.dead,.mp .int .int ((cK a0 E.2).apD) none,.mp .X1 .bool ((cK a0 E.2).owned) none,.mp .X1 .bool ((cK a0 E.2).apy) none,.cells [.os 3,.os 4,.os 5],.row .aom V]),(λx=>x.elim),[0,1,2,3,4,5,6,2],?_,rfl,Y,nbl rfl,?_,B8 a0 a1 E.2 O _ hb1,λz_1 V hq1=>⟨rfl,L0,λl=>?_,λl=>?_,?_⟩,λV=>?_,λy=>?_⟩;exact ahC
     ·simp only[go_sem,sH,jY,alp,ame,ak_,ali,alM,e1_0,e1_1,e1_2,e1_3,e1_4,e1_5,e1_6,e1_7];all_goals (first|done|decide|(repeat' (first|refine And.intro ?_ ?_|rfl|decide)))
     simp only[ak,and_self,true_and,and_true];simp only[ak,and_self,true_and,and_true];unfold ir at hq1;exact ahD (jl [0,1,2,3,4,5,6,12]) (jl [0,1,2,3,4,5,6,7]);exact aas (jl [0,1,2,3,4,5,6,12]) (jl [0,1,2,3,4,5,6,7]);exact aas (jl [0,1,2,3,4,5,6,12]) (jl [0,1,2,3,4,5,6,7])
   unfold kI at hq0;exact qW (jl [0,1,7]) (jl [0,1,2])
 unfold ae Tryz.f56;try unfold ff
 exact ahE
@[go_sem] def o4 (d:ah)(l_:List bn)(fr:Int)(to:Int)(known:Int)(k_0:Nat)(x4:List Claim):Empty⊕(List Claim):=(bif(decide ((((ff d l_ fr to known).1).getD k_0 default).reach<0))then .inr (x4++([(((ff d l_ fr to known).1).getD k_0 default).Q1]))else .inr x4)
def s4 (d:ah)(l_:List bn)(fr:Int)(to:Int)(known:Int)(k_0:Nat)(x4:List Claim):Prop:=((decide ((((ff d l_ fr to known).1).getD k_0 default).reach<0))=true->((x4++([(((ff d l_ fr to known).1).getD k_0 default).Q1])).length*40<=d8))
def aB (d:ah)(l_:List bn)(fr:Int)(to:Int)(known:Int):List Claim×Int:=letI q0:=ff d l_ fr to known;(bif(q0.2 !=0)then([],q0.2)else(match aj (o4 d l_ fr to known) ((q0.1).length) 0 ([])with| .inl x=>x.elim| .inr x4=>(bif(decide ((x4.length:Int) > 4096))then([],2)else(x4,0))))
def ra (d:ah)(l_:List bn)(fr:Int)(to:Int)(known:Int):Prop:=letI q0:=ff d l_ fr to known;((oZ d l_ fr to known)/\((q0.2 !=0)=false->((q0.1).length<=aN->okI (o4 d l_ fr to known) (s4 d l_ fr to known) ((q0.1).length) 0 ([]))))
@[go_sem] def NA:List SV->Option Con:=(pD .al λd=>(pR .B1 λl_=>(pI λfr=>(pI λto=>(pI λknown=>(pE (.det (ra d l_ fr to known) (.tup [.rs .Q1 ((aB d l_ fr to known).1),.v (.int .i64 ((aB d l_ fr to known).2))]))))))))
theorem AI:P1 Tryz.prog 17 NA:=by
 have hG:=mG (cn [.st .al,.sl .B1,.o,.o,.o] H7 W2) W2;refine fN hG Tryz.f17 [.sl .Q1,.o] (az λd=>(bM λE=>(aG λfr=>(aG λto=>(aG λknown=>(am (λX=>?_)))))));dsimp only[an]at X;unfold ra at X;refine⟨nbl rfl,(λid st=>bif Nat.beq id 0 then some (LCR (ρ:=Empty) (σ:=(List Claim)) 2 [.slot 10 (.row .Q1 ([]))] [0,1,2] (λV O=>⟨[(10,.os 2),(27,.os 1),(28,.v (.int .i64 (((ff d E fr to known).1).length:Int))),(29,.v (.int .i64 (V:Int)))],[.dead,.row .aom ((ff d E fr to known).1),.row .Q1 O]⟩) (o4 d E fr to known) (s4 d E fr to known) (((ff d E fr to known).1).length) ([]) (((ff d E fr to known).1).length<=aN) ((·.elim)) ((·.elim)) st)else none),?_,?_⟩;unfold ae Tryz.f17;simp only[ak,true_and,and_true];refine b_ mixed aJ hG kr (λ_=>rfl) (((ff d E fr to known).1).length:Int) rfl fH (λhb0 V O Y W hw hc=>⟨L0,ag _,?_⟩) (λhb0 O hc=>?_);unfold s4 at W;try simp only[hw,ak1]at W
 exact sP (jl [0,1,5]) (jl [0,1,2]);exact sQ (jl [0,1,5]) (jl [0,1,2]);unfold ae Tryz.f17;try unfold aB
 exact zq2
variable {n:Int}
theorem Rm{d:Int}(hd:1<=d)(V:d<=1073741824)(h1: -1152921504606846976<=n)(h2:n<=1152921504606846976):lL n d=n / d:=by
 unfold lL;have E:Int.tmod (Int.tmod n d+d) d=n % d:=by
  have a1: -d<Int.tmod n d:=am7 n (by omega);rw[amj (by omega),aod];rw[anO];split
  simp_all;have:n % d - (d.natAbs:Int)=n % d+d*(-1):=by omega
  simp_all
 have a1: -d<Int.tmod n d:=am7 n (by omega);have X:Int.tmod n d<d:=aoe n (by omega);rw[aA (by omega: -9223372036854775808<=Int.tmod n d+d) (by omega),E];have W:=am3 n (by omega:d≠0);have Y:=amK n (by omega:0<d);rw[aA (by omega: -9223372036854775808<=n - n % d) (by omega)];have O:n - n % d=d*(n / d):=by have:=amP n d;omega
 rw[O,anD _ (by omega)];have c1:n / d<=1152921504606846976:=by
  have:=amI (by omega:0<d) h2;have:=anh (b:=d) (by omega:(0:Int)<=1152921504606846976);omega
 have c2: -1152921504606846976<=n / d:=by
  rw[amr (by omega)];omega
 exact aA (by omega) (by omega)
def kJ {κ υ:Type}(l:List (κ×υ)):List κ:=l.map λp=>p.1
theorem I6 {κ υ:Type}[DecidableEq κ]:∀ {l:List (κ×υ)} {x:κ},x ∉ kJ l->iy l x=none
 | [],_,_=>rfl
 |(a,b)::r,x,h=>by
  unfold iy;rw[if_neg (λe=>h (by simp[kJ,e]))];exact I6 λE=>h (by grind [kJ])
theorem Gl {κ υ:Type}[DecidableEq κ]:∀ {l:List (κ×υ)},(kJ l).Nodup->∀ {x:κ} {y:υ},iy l x=some y↔(x,y)∈l
 | [],_,x,y=>by simp[iy]
 |(a,b)::r,h,x,y=>by
  have h':=alH.1 h;unfold iy;by_cases e:x=a
  grind
  rw[if_neg e,Gl h'.2];grind
theorem uY {κ υ:Type}[DecidableEq κ](x:κ)(y:υ):∀ (l:List (κ×υ)),(kJ l).Nodup->(kJ (tx l x y)).Nodup/\∀ z,z∈kJ (tx l x y)->z=x\/z∈kJ l
 | [],_=>by simp[tx,kJ]
 |(a,b)::r,h=>by
  have h':=alH.1 h;unfold tx;by_cases e:x=a
  subst e;rw[if_pos rfl];exact⟨h,λz hz=>.inr hz⟩;rw[if_neg e];obtain⟨V,E⟩:=uY x y r h'.2;refine⟨alH.2 ⟨λO=>?_,V⟩,λz hz=>?_⟩;rcases E _ O with h3|h3;grind
  exact h'.1 h3;rcases ala.1 hz with rfl|hz;exact .inr alc;rcases E z hz with h3|h3;exact .inl h3;exact .inr (ak6 _ h3)
theorem B9 {κ υ:Type}[DecidableEq κ](x:κ):∀ (l:List (κ×υ)),(kJ l).Nodup->(kJ (Bf l x)).Nodup/\(∀ z,z∈kJ (Bf l x)->z∈kJ l)/\∀ z,iy (Bf l x) z=if z=x then none else iy l z
 | [],_=>by simp[Bf,kJ,iy]
 |(a,b)::r,h=>by
  have h':=alH.1 h;unfold Bf;by_cases e:x=a
  subst e;rw[if_pos rfl];refine⟨h'.2,λz hz=>ak6 _ hz,λz=>?_⟩;by_cases hz:z=x
  subst hz;rw[if_pos rfl];exact I6 h'.1;simp_all [iy];rw[if_neg e];obtain⟨W,E,V⟩:=B9 x r h'.2;refine⟨alH.2 ⟨λO=>h'.1 (E _ O),W⟩,λz hz=>?_,λz=>?_⟩;rcases ala.1 hz with rfl|hz;exact alc;exact ak6 _ (E z hz);simp only[iy,V];grind
def tot:Nat->(Int->Int)->Int
 |0,_=>0|n+1,g=>tot n g+g (n:Int)
def jJ (g:Int->Int)(f v:Int):Int->Int:=λx=>if x=f then v else g x
theorem NB {g h:Int->Int}:∀ {n:Nat},(∀ f:Int,0<=f->f< (n:Int)->g f=h f)->tot n g=tot n h
 |0,_=>rfl
 |n+1,e=>by unfold tot;rw[NB (n:=n) λf h1 h2=>e f h1 (by omega),e n (by omega) (by omega)]
theorem vR (g:Int->Int)(f v:Int):∀ (n:Nat),0<=f->f< (n:Int)->tot n (jJ g f v)=tot n g - g f+v
 |0,h0,h1=>by omega
 |n+1,h0,h1=>by
  unfold tot;by_cases h:f=(n:Int)
  subst h;rw[NB (g:=jJ g n v) (h:=g) λx _ E=>by unfold jJ;omega];simp_all [jJ];rw[vR g f v n h0 (by omega)];unfold jJ;omega
theorem We {g:Int->Int}(h:∀ f,0<=g f):∀ n,0<=tot n g
 |0=>alJ _
 |n+1=>by have:=We h n;grind [tot]
theorem Gm {g:Int->Int}(h:∀ f,0<=g f):∀ (n:Nat) (f:Int),0<=f->f< (n:Int)->g f<=tot n g
 |0,f,h0,h1=>by omega
 |n+1,f,h0,h1=>by
  unfold tot;have h2:=We h n;by_cases e:f=(n:Int)
  grind
  have:=Gm h n f h0 (by omega);grind
structure Good (F:Nat)(L:Int)(g:Int->Int):Prop where
 nn:∀ f,0<=g f
 sup:∀ f,g f≠0->0<=f/\f< (F:Int)
 tot:tot F g<=L
variable {g:Int->Int}
theorem Good.le{F:Nat}{L:Int}(h:Good F L g)(E:0<=L)(f:Int):g f<=L:=by
 by_cases e:g f=0
 omega;obtain⟨a,b⟩:=h.sup f e;exact anT (Gm h.nn F f a b) h.tot
theorem Good.put{F:Nat}{L M:Int}(h:Good F L g){f v:Int}(W:0<=f)(h1:f< (F:Int))(O:0<=v)(V:Go.Sx.tot F g - g f+v<=M):Good F M (jJ g f v) where
 nn:=λx=>by unfold jJ;split;exact O;exact h.nn x
 sup:=λx E=>by
  unfold jJ at E;split at E
  omega;exact h.sup x E
 tot:=by grind [vR]
def loP (p:Part)(n:Int):Int:=p.share.n*n / p.share.d
variable {a:W1}
theorem Wf(h:aoW a)(X:0<=n)(h1:n<=1073741824):(eY a n).1=a.n*n / a.d/\(eY a n).2.1= -(-(a.n*n) / a.d)/\(eY a n).2.2=0:=by
 have Y: -1152921504606846976<=a.n*n/\a.n*n<=1152921504606846976:=by
  have:(a.n*n).natAbs<=1073741824*1073741824:=by rw[an5];exact ant (by have:=h.n0;have:=h.n;omega) (by omega)
  omega
 have hd:=h.d1;have E:=h.d;have W:=h.n0;have V:=h.n;unfold eY;rw[(gE a).2 h];have e:(decide (n< -1073741824) ||decide (n > 1073741824))=false:=by simp;omega
 simp only[bne_self_eq_false,cond_false,e];have O: -a.n*n= -(a.n*n):=Int.neg_mul _ _;rw[aA (n:=a.n*n) (by omega) (by omega),aA (n:=0 - a.n) (by omega) (by omega),show 0 - a.n= -a.n by omega,O,aA (n:= -(a.n*n)) (by omega) (by omega),Rm hd E (by omega) (by omega),Rm hd E (by omega) (by omega)];refine⟨rfl,?_,trivial⟩;have c1: -(a.n*n) / a.d<=1152921504606846976:=by
  have:=amI (by omega:0<a.d) (by omega: -(a.n*n)<=1152921504606846976);have:=anh (b:=a.d) (by omega:(0:Int)<=1152921504606846976);omega
 have c2: -1152921504606846976<= -(a.n*n) / a.d:=by
  rw[amr (by omega)];omega
 grind [aA]
theorem NC{p:Part}(h:aoW p.share)(O:0<p.share.n)(E:0<=n):0<=loP p n:=by
 unfold loP;exact Int.ediv_nonneg (amW (by omega) E) (by have:=h.d1;omega)
theorem Wg {x d:Rat}(hd:0<d)(h:0<=x*d):0<=x:=by
 rcases anV (0<=x)with h1|h1;exact h1;have h2:0< -x:=by grind
 have E:=Rat.mul_pos h2 hd;grind
theorem acZ {p:Part}(h:aoW p.share)(n:Int):((loP p n:Int):Rat)<=rv p.share*(n:Rat)/\rv p.share*(n:Rat)<=((loP p n:Int):Rat)+1:=by
 have hd:=h.d1;have V:(0:Rat) < (p.share.d:Rat):=by exact_mod_cast (by omega:(0:Int) <p.share.d)
 have dn:(p.share.d:Rat)≠0:=qU (by omega);have W:rv p.share*(p.share.d:Rat)=(p.share.n:Rat):=by grind [rv]
 have q:=amP (p.share.n*n) p.share.d;have q1:=am3 (p.share.n*n) (by omega:p.share.d≠0);have q2:=amK (p.share.n*n) (by omega:0<p.share.d);have X:p.share.d*loP p n<=p.share.n*n:=by unfold loP;omega
 have Y:p.share.n*n<=p.share.d*loP p n+p.share.d:=by unfold loP;omega
 have E:(p.share.d:Rat)*((loP p n:Int):Rat)<=(p.share.n:Rat)*(n:Rat):=by exact_mod_cast X
 have O:(p.share.n:Rat)*(n:Rat)<=(p.share.d:Rat)*((loP p n:Int):Rat)+(p.share.d:Rat):=by exact_mod_cast Y
 rw[<-W]at E O;generalize ((loP p n:Int):Rat)=lo at *;generalize (n:Rat)=m at *;generalize rv p.share=v at *;generalize (p.share.d:Rat)=d at *;constructor
 have:=Wg (x:=v*m - lo) V (by grind);grind
 have:=Wg (x:=lo+1 - v*m) V (by grind);grind
def d_ (l:List Part)(n:Int):Int:=(l.map λp=>loP p n).sum
variable {l:List Part}
theorem ac0(h:∀ p∈l,aoW p.share)(n:Int):((d_ l n:Int):Rat)<=BX l*(n:Rat)/\BX l*(n:Rat)<=((d_ l n+(l.length:Int):Int):Rat):=by
 induction l with
 |nil=>simp[d_,BX,Rat.zero_mul]
 |cons p r W=>
  obtain⟨i1,X⟩:=W λq V=>h q (ak6 _ V);obtain⟨j1,Y⟩:=acZ (h p alc) n;have e:d_ (p::r) n=loP p n+d_ r n:=by simp[d_]
  have E:((d_ (p::r) n:Int):Rat)=((loP p n:Int):Rat)+((d_ r n:Int):Rat):=by simp_all
  have O:((d_ (p::r) n+((p::r).length:Int):Int):Rat)=(((loP p n:Int):Rat)+1)+((d_ r n+(r.length:Int):Int):Rat):=by
   have:d_ (p::r) n+((p::r).length:Int)=(loP p n+1)+(d_ r n+(r.length:Int)):=by grind
   simp_all
  rw[E,O];simp only[BX];grind
theorem K1{d:ah}(h:apF d l)(n:Int):d_ l n<=n/\n<=d_ l n+(l.length:Int):=by
 obtain⟨h1,h2⟩:=ac0 (λp E=>(h.part p E).share) n;rw[h.sum,Rat.one_mul]at h1 h2;exact⟨by exact_mod_cast h1,by exact_mod_cast h2⟩
theorem Wh {p q:Nat}(E:0<q):Int.tmod (-(p:Int)) (-(q:Int))= -((p % q:Nat):Int):=by
 simp_all [amj]
theorem Gn (a1:Int):∀ (n i:Nat) (p q:Nat),q<n->∃ a b,aj (kR a1) n i (-(p:Int),-(q:Int))=.inl (a,b)/\((b= -1/\Nat.gcd p q=1)\/(b=0/\a= -((Nat.gcd p q:Nat):Int)))
 |0,_,_,_,h=>by omega
 |n+1,i,p,q,h=>by
  simp only[aj,kR];by_cases h1:1<q
  rw[decide_eq_true (by omega)];simp only[cond_true];rw[Wh (by omega)];have hlt:p % q<q:=am5 _ (by omega);obtain⟨a,b,e,h2⟩:=Gn a1 n (i+1) q (p % q) (by omega);grind [Nat.gcd_comm,Nat.gcd_rec]
  rw[decide_eq_false (by omega)];simp only[cond_false];refine⟨_,_,rfl,?_⟩;by_cases E:q=0
  grind
  have:q=1:=by omega
  simp_all
theorem S3{d:Int}(h0: -4611686018427387904<=n)(h1:n<=4611686018427387904)(h2: -4611686018427387904<=d)(h3:d<=4611686018427387904):oQ n d/\pN n d=mkR n d:=by
 unfold oQ pN;by_cases hd:d=0
 grind [mkR]
 have e:(d==0)=false:=by grind
 rw[e];simp only[cond_false];have ex:(bif(decide (n > 0))then(i64.wrap (0 - n))else n)= -((n.natAbs:Nat):Int):=by
  by_cases h:n > 0
  rw[decide_eq_true h,cond_true,aA (by omega) (by omega)];omega;grind
 have X:(bif(decide (d > 0))then(i64.wrap (0 - d))else d)= -((d.natAbs:Nat):Int):=by
  by_cases h:d > 0
  rw[decide_eq_true h,cond_true,aA (by omega) (by omega)];omega;grind
 rw[ex,X];obtain⟨a,b,Y,hr⟩:=Gn d (Int.natAbs d+2) 0 n.natAbs d.natAbs (by omega);rw[Y];have g0:0<Nat.gcd n.natAbs d.natAbs:=anC _ (by omega);have E:okI (kR d) (nL d) (Int.natAbs d+2) 0 (-((n.natAbs:Nat):Int),-((d.natAbs:Nat):Int)):=g8 _ _ _ λj s _ _ h=>by grind
 simp only;have l1:n.natAbs / Nat.gcd n.natAbs d.natAbs<=n.natAbs:=ank _ _;have l2:d.natAbs / Nat.gcd n.natAbs d.natAbs<=d.natAbs:=ank _ _;rcases hr with⟨rfl,hg⟩ | ⟨rfl,rfl⟩
 ·
  have t:∀ m:Nat,Int.tdiv (-(m:Int)) (-1)=(m:Int):=λm=>by grind
  refine⟨λ_=>⟨E,(λz h=>by cases h),λx W=>by grind⟩,?_⟩;unfold mkR;rw[if_neg hd,hg,Nat.div_one,Nat.div_one,t,t];simp only[BEq.rfl,cond_true];by_cases V:1073741824<n.natAbs\/1073741824<d.natAbs
  grind
  rw[if_neg V];have O:((decide (-((n.natAbs:Nat):Int) < (-1073741824))) ||(decide (-((d.natAbs:Nat):Int) < (-1073741824))))=false:=by
   grind
  rw[O,aA (n:=((n.natAbs:Nat):Int)) (by omega) (by omega),aA (n:=((d.natAbs:Nat):Int)) (by omega) (by omega),aA (n:=0 - ((n.natAbs:Nat):Int)) (by omega) (by omega)];grind
 have t:∀ m:Nat,Int.tdiv (-(m:Int)) (-((Nat.gcd n.natAbs d.natAbs:Nat):Int))=((m / Nat.gcd n.natAbs d.natAbs:Nat):Int):=λm=>by simp_all
 refine⟨λ_=>⟨E,(λz h=>by cases h),λx W=>by grind⟩,?_⟩;unfold mkR;rw[if_neg hd,t,t];have b0:((0:Int) == -1)=false:=by decide
 rw[b0];simp only[cond_false];generalize W:n.natAbs / Nat.gcd n.natAbs d.natAbs=x at *;generalize hy:d.natAbs / Nat.gcd n.natAbs d.natAbs=y at *;by_cases V:1073741824<x\/1073741824<y
 rw[if_pos V];have O:((decide (i64.wrap (x:Int) > 1073741824)) ||(decide (i64.wrap (y:Int) > 1073741824)))=true:=by
  rw[aA (by omega) (by omega),aA (by omega) (by omega),alx,decide_eq_true_eq,decide_eq_true_eq];omega
 grind
 rw[if_neg V];have O:((-((Nat.gcd n.natAbs d.natAbs:Nat):Int) == -1)&&((decide (-((n.natAbs:Nat):Int) < (-1073741824))) ||(decide (-((d.natAbs:Nat):Int) < (-1073741824)))))=false:=by
  grind
 have e2:((decide (i64.wrap (x:Int) > 1073741824)) ||(decide (i64.wrap (y:Int) > 1073741824)))=false:=by
  grind [aA]
 rw[O,e2,aA (n:=(x:Int)) (by omega) (by omega),aA (n:=(y:Int)) (by omega) (by omega),aA (n:=0 - (x:Int)) (by omega) (by omega)];grind
theorem ND (a b:W1):qP a b/\sg a b=g_ a b:=by
 rw[PD];unfold qP sg;have V:kq a b=((aV a==0)&&(aV b==0)):=by grind [kq,xr]
 rw[V];by_cases h:aV a=0/\aV b=0
 have E:=(gE a).1 h.1;have O:=(gE b).1 h.2;have m1:=Dx E.n0 E.n O.d1 O.d;have W:=Dx O.n0 O.n E.d1 E.d;have h1:=E.d1;have h2:=E.d;have X:=Dx (a:=a.d) (by omega) h2 O.d1 O.d;rw[if_pos h,h.1,h.2,aA (n:=a.n*b.d) (by omega) (by omega),aA (n:=b.n*a.d) (by omega) (by omega),aA (n:=a.d*b.d) (by omega) (by omega),aA (n:=a.n*b.d+b.n*a.d) (by omega) (by omega)];obtain⟨p,e⟩:=S3 (n:=a.n*b.d+b.n*a.d) (d:=a.d*b.d) (by omega) (by omega) (by omega) (by omega);rw[e];exact⟨⟨PC a b,λ_=>p⟩,rfl⟩;have:((aV a==0)&&(aV b==0))=false:=by
  grind
 rw[if_neg h,this];exact⟨⟨PC a b,(λh=>by cases h)⟩,rfl⟩
theorem Wi{d:Int}(hd:1<=d)(V:d<=1073741824)(h1: -1152921504606846976<=n)(h2:n<=1152921504606846976):oa n d=n / d:=by
 unfold oa;have q:=amP n d;have q1:=am3 n (by omega:d≠0);have Y:=amK n (by omega:0<d);have c1:n / d<=1152921504606846976:=by
  have:=amI (by omega:0<d) h2;have:=anh (b:=d) (by omega:(0:Int)<=1152921504606846976);omega
 have c2: -1152921504606846976<=n / d:=by
  rw[amr (by omega)];omega
 have W:d.sign=1:=Int.sign_eq_one_of_pos (by omega);have E:=Int.tdiv_eq_ediv (a:=n) (b:=d);have O:=anO (a:=n) (b:=d);by_cases hn:0<=n\/d ∣ n
 rw[if_pos hn]at E O;rw[E,O,decide_eq_false (by omega),cond_false,aA (by omega) (by omega)];omega;rw[if_neg hn]at E O;have X:n % d≠0:=λe=>hn (.inr (Int.dvd_of_emod_eq_zero e));rw[E,O,W,decide_eq_true (by omega),cond_true,aA (n:=n / d+1) (by omega) (by omega),aA (by omega) (by omega)];omega
theorem PW(h:aoW a)(O:0<=n)(h1:n<=1073741824):nh a n/\(gk a n).1=a.n*n / a.d:=by
 have V: -1152921504606846976<=a.n*n/\a.n*n<=1152921504606846976:=by
  have:(a.n*n).natAbs<=1073741824*1073741824:=by rw[an5];exact ant (by have:=h.n0;have:=h.n;omega) (by omega)
  omega
 have hd:=h.d1;have E:=h.d;refine⟨⟨xX a,λ_ _=>⟨⟨by omega,by omega⟩,⟨by omega,by omega⟩⟩⟩,?_⟩;unfold gk;rw[(sh a).2 h];have e:(decide (n< -1073741824) ||decide (n > 1073741824))=false:=by simp;omega
 simp only[alj,cond_false,e];grind [aA,Wi]
theorem Gp {ρ ρ' σ σ':Type}{f:Nat->σ->ρ⊕σ}{g:Nat->σ'->ρ'⊕σ'}(R:Nat->σ->σ'->Prop):∀ (n i:Nat) (s:σ) (t:σ'),R i s t->(∀ j s t,i<=j->j<i+n->R j s t->(∃ a b,f j s=.inl a/\g j t=.inl b)\/∃ s' t',f j s=.inr s'/\g j t=.inr t'/\R (j+1) s' t')->
  (∃ a b,aj f n i s=.inl a/\aj g n i t=.inl b)\/∃ s' t',aj f n i s=.inr s'/\aj g n i t=.inr t'/\R (i+n) s' t'
 |0,i,s,t,h,_=>.inr ⟨s,t,rfl,rfl,h⟩
 |n+1,i,s,t,h,hs=>by
  rcases hs i s t (ak2 _) (by omega) h with⟨a,b,E,O⟩ | ⟨s',t',E,O,h'⟩;grind [aj]
  simp only[aj,E,O];have:=Gp R n (i+1) s' t' h' λj s t h1 h2=>hs j s t (by omega) (by omega);grind
theorem Y5 (l:List Part)(k:Nat):aj (j6 l k) k 0 ()=.inr ()↔∀ i,i<k->(l.getD i default).gl≠(l.getD k default).gl:=by
 rw[gT];refine forall_congr' λi=>forall_congr' λ_=>?_;unfold j6;grind
theorem S4 (l:List Part)(k:Nat)(O:k<=l.length)(f:Int):f∈(l.take k).map (λx=>x.gl)↔∃ i,i<k/\(l.getD i default).gl=f:=by
 rw[al3];constructor
 rintro⟨x,E,rfl⟩;obtain⟨i,hi,rfl⟩:=alE.1 E;rw[al0]at hi;exact⟨i,by omega,by grind⟩;rintro⟨i,hi,rfl⟩;refine⟨l.getD i default,?_,rfl⟩;rw[iC l _ (by omega)];exact alE.2 ⟨i,by grind,by grind⟩
theorem S5(h:aoW a):(a.n==a.d)=((a.n==1)&&(a.d==1)):=by
 rw[alZ,akZ,beq_iff_eq,beq_iff_eq,beq_iff_eq];constructor
 intro e;have h1:=h.gcd;rw[e]at h1 |-;have h2:=h.d1;have:a.d.natAbs=a.d.toNat:=by omega
 grind
 omega
theorem Y6 (d:ah)(l:List Part):qr d l:=λV _=>g8 _ _ _ λj s _ O E=>⟨λ_=>xX _,λ_=>⟨by grind,g8 _ _ _ λi s _ hi=>by rw[ak1]at hi;exact⟨by omega,by omega⟩,λ_ _=>(ND _ _).1⟩⟩
variable {d:ah}
theorem Wj(hf:d.zs.length<=600)(l:List Part):qX d l=iT d l:=by
 unfold qX iT;have O:aoW { n:=0,d:=1}:=⟨by decide,by decide,by decide,by decide,by decide⟩;have key:=Gp (f:=fX d l) (g:=lZ d l) (λj s t=>t=(s.1,s.2.1)/\aoW { n:=s.1,d:=s.2.1}/\∀ f:Int,aq .int .bool s.2.2 f=decide (f∈(l.take j).map λx=>x.gl)) l.length 0 (0,1,[]) (0,1) ⟨rfl,O,λf=>by rfl⟩ (λj s t _ hj ⟨j1,j2,j3⟩ =>by
  rw[ak8]at hj;subst j1;unfold fX lZ;rw[ak1];have V:=zq (l.getD j default).gl (k:=d.zs.length) (by omega);have hm:=j3 (l.getD j default).gl;have E:=ND { n:=s.1,d:=s.2.1} (l.getD j default).share;have hd:=Y5 l j;rw[E.2];have htk:=ce l default hj;have htf:=S4 l j (by omega) (l.getD j default).gl;generalize hp:l.getD j default=p at *;by_cases hA:0<=p.gl/\p.gl< (d.zs.length:Int)
  ·have X:=V.2 hA;have hA2:((decide (p.gl<0)) ||(decide (p.gl>=(d.zs.length:Int))))=false:=by
    grind
   rw[X,hA2,hm];by_cases hC:p.share.n<=0
   grind
   ·rw[decide_eq_false hC];simp only[alj,aml,amu];by_cases hV:aoW p.share
    rw[(sh _).2 hV];simp only[alj,cond_false];by_cases hB:p.gl∈(l.take j).map λx=>x.gl
    grind
    rw[decide_eq_false hB];simp only[cond_false];have hn:aj (j6 l j) j 0 ()=.inr ():=hd.2 λi hi e=>hB (htf.2 ⟨i,hi,e⟩);rw[hn];simp only;cases he:((g_ { n:=s.1,d:=s.2.1} p.share).2 !=0)with
    |true=>simp_all
    |false=>
     have he:(g_ { n:=s.1,d:=s.2.1} p.share).2=0:=by grind
     obtain⟨_,_,a3,_⟩:=V3 (r:=(g_ { n:=s.1,d:=s.2.1} p.share).1) (by rw[<-he]);refine .inr ⟨_,_,rfl,rfl,rfl,a3,λf=>?_⟩;rw[og,htk,amo];grind
    ·have hV2:eD p.share=false:=by
      cases h:eD p.share with
      |true=>exact absurd ((sh _).1 h) hV|false=>rfl
     simp_all [PD,gE]
  grind)
 by_cases hl:1<=l.length/\l.length<=16
 have e1:((decide ((l.length:Int) <1)) ||(decide ((l.length:Int) > 16)))=false:=by
  grind
 have e2:aU (l.length:Int) 1 16=true:=(vM _ _ _).2 (by omega);rw[e1,e2];simp only[cond_false,amg];rcases key with⟨a,b,W,Y⟩ | ⟨s,t,W,Y,q3,q4,_⟩;rw[W,Y];rw[W,Y];subst q3;exact S5 q4
 ·have e1:((decide ((l.length:Int) <1)) ||(decide ((l.length:Int) > 16)))=true:=by
   grind
  have e2:aU (l.length:Int) 1 16=false:=by
   cases h:aU (l.length:Int) 1 16 with
   |true=>have:=(vM _ _ _).1 h;omega|false=>rfl
  grind
theorem NE (b:List bn)(n:Int):(l7 b n= -1/\∀ y∈b,¬ (y.no=n/\y.kind≠4))\/∃ K y R,b=K++y::R/\l7 b n=(K.length:Int)/\y.no=n/\y.kind≠4:=by
 unfold l7;have E:∀ y:bn,((y.no==n)&&(y.kind !=4))=true↔(y.no=n/\y.kind≠4):=λy=>by grind
 rcases xv (step:=sW b n) b default (λy=>(y.no==n)&&(y.kind !=4)) (λk _=>rfl)with⟨e,h⟩ | ⟨K,x,R,h1,e,h2,O⟩ <;>grind
theorem Y7(hf:d.zs.length<=600)(hr:d.ai.length<=256){b:List bn}(hb:Asc b)(x:bn):qY d b x=dB d (uW b) x:=by
 unfold qY dB;have V:mF d x=((aU x.right 0 (i64.wrap ((d.ai.length:Int) - 1)))&&((d.ai.getD (Int.toNat x.right) (default:aoU)).kind==1)&&(aU x.since 0 (i64.wrap ((d.zs.length:Int) - 1)))):=by
  unfold mF;rw[alZ];simp only[akZ,decide_eq_true_eq];grind [zq]
 have hto:((decide (x.to>=0))&&(decide (x.to< (d.zs.length:Int))))=aU x.to 0 (i64.wrap ((d.zs.length:Int) - 1)):=by
  rw[alZ,zq _ (by omega),akZ,decide_eq_true_eq,decide_eq_true_eq]
 have E:(((((((decide (x.no<0)) ||(decide (x.no > 1048576))) ||(decide (x.at_<0))) ||(decide (x.at_ > 4096))) ||(decide (x.known<0))) ||(decide (x.known > 1048576))))=(((!(aU x.no 0 1048576)) ||(!(aU x.at_ 0 4096))) ||(!(aU x.known 0 1048576))):=by
  rw[alZ];simp only[alx,decide_eq_true_eq,alm,<-amH,vM];omega
 rw[E,V];cases hg:(((!(aU x.no 0 1048576)) ||(!(aU x.at_ 0 4096))) ||(!(aU x.known 0 1048576)))with
 |true=>simp
 |false=>
  simp only[aml,cond_false];unfold kQ iV;simp only[anS,aml,amg];by_cases k1:x.kind=1
  grind
  rw[show(x.kind==1)=false by grind];by_cases k2:x.kind=2
  rw[show(x.kind==2)=true by rw[k2];rfl];simp only[cond_true,cond_false];grind [Wj]
  rw[show(x.kind==2)=false by grind];by_cases k3:x.kind=3
  grind
  rw[show(x.kind==3)=false by grind];by_cases Y:x.kind=4
  rw[show(x.kind==4)=true by rw[Y];rfl];simp only[cond_true,cond_false,aoj,anB];cases hz:((((x.right==0)&&(x.since==0))&&(x.to==0))&&((x.parts.length:Int) ==0))with
  |false=>simp
  |true=>
   simp only[amg,alj,cond_false];rw[Ni];rcases NE b x.of_ with⟨e,W⟩ | ⟨K,y,R,O,e2,e3,e4⟩;rw[e];simp only[show decide ((-1:Int)>=0)=false by decide,anv];grind [FU]
   have hy:y∈b:=by rw[O];simp
   have X:b.getD (Int.toNat (K.length:Int)) default=y:=by grind
   grind [FU]
  grind
theorem Gq (d:ah)(x:bn):oT d x:=λh=>by
 grind
theorem S6 (d:ah)(b:List bn)(x:bn):qs d b x:=λ_=>⟨λ_ _=>Gq _ _,λ_=>⟨λ_=>⟨λ_=>Gq _ _,λ_=>Y6 _ _⟩,λ_=>⟨λ_ _=>Gq _ _,λ_ _ h=>by
 simp only[akZ,decide_eq_true_eq]at h;rcases NE b x.of_ with⟨e,_⟩ | ⟨K,y,R,E,O,_⟩ <;>grind⟩⟩⟩
theorem Wk (l:List bn):pZ l=((decide ((l.length:Int) > 512)) ||aT l):=by
 unfold pZ;cases decide ((l.length:Int) > 512)with
 |true=>rfl
 |false=>
  simp only[cond_false,aml];cases hr:aj (kS l) l.length 0 ()with
  |inr s=>
   have h:=gT.1 hr
   symm
   refine(qq l).2 λx O=>?_;obtain⟨j,E,rfl⟩:=alE.1 O;grind [kS]
  |inl y=>
   cases hc:aT l with
   |true=>rfl
   |false=>
    have h:=(qq l).1 hc;have:aj (kS l) l.length 0 ()=.inr ():=gT.2 λj E=>by
     grind [kS]
    grind
theorem x8 (d:ah)(l:List bn):nj d l:=⟨SP d,λ_ _=>g8 _ _ _ λj s _ E O=>⟨λh=>by
  rw[decide_eq_true_eq]at h;grind [aA,aN],λ_=>⟨by omega,by omega,by omega⟩,λ_=>S6 _ _ _⟩⟩
theorem Ro (d:ah)(l:List bn):kf d l=a_ d l:=by
 unfold kf a_;rw[<-VY d,Wk];cases h1:(aw d !=0)with
 |true=>rfl
 |false=>
  simp only[cond_false];cases h2:((decide ((l.length:Int) > 512)) ||aT l)with
  |true=>rfl
  |false=>
   simp only[cond_false];have hr:=jz (d:=d) h1;rw[alC,decide_eq_false_iff_not]at h2;have key:=Gp (f:=l8 d l) (g:=eM d l) (λj _ t=>t=uW (l.take j)/\Asc (l.take j)) l.length 0 () [] ⟨rfl,by rw[ana];exact List.Pairwise.nil⟩ (λj s t _ V ⟨W,E⟩ =>by
    rw[ak8]at V;subst W;unfold l8 eM;rw[List.drop_zero,Y7 hr.zs hr.ai E];cases hc:(((decide ((j:Int) > 0))&&(decide ((l.getD j (default:bn)).no<=(l.getD (Int.toNat (i64.wrap ((j:Int) - 1))) (default:bn)).no))) ||(!(dB d (uW (l.take j)) (l.getD j (default:bn)))))with
    |true=>simp_all
    |false=>
     refine .inr ⟨(),_,rfl,rfl,by grind [ce,xY],?_⟩;rw[ce l default V];refine aln.2 ⟨E,alN _ _,λy hy z O=>?_⟩;simp only[alz]at O;subst O;rw[alC,al7,decide_eq_false_iff_not,decide_eq_false_iff_not]at hc;obtain⟨i,hi,rfl⟩:=alE.1 hy;rw[al0]at hi;have X:0<j:=by omega
     rw[od (by omega) X,ak1]at hc;have Y:(l.getD (j - 1) default).no< (l.getD j default).no:=by omega
     have h4:(l.take j)[i].no<=(l.getD (j - 1) default).no:=by
      rcases ama i (j - 1)with h5|h5;have:=aly.1 E i (j - 1) (by omega) (by grind) h5;grind
      grind
     omega)
   grind
end Go.Sx
end
