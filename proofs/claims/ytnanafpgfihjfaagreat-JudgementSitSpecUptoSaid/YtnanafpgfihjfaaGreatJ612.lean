/- Part of the proof that the law JudgementSitSpec returns true and leaves its arguments as they were, for all arguments of bulk at most 1048576 (the Upto form). -/
import Derived.Test.YtnanafpgfihjfaaGreatJ611
import Derived.Test.YtnanafpgfihjfaaGreatJ609
import Derived.Test.YtnanafpgfihjfaaGreatJ608
import Derived.Test.YtnanafpgfihjfaaGreatJ610
set_option linter.all false
set_option maxHeartbeats 4000000
set_option maxRecDepth 100000
section
namespace Go.Sx
open Go.Proofs
open IntKind (i64)
theorem CU {l0 l1 l2 l3:List Nat}(a0:JL l0)(a1:JL l1)(a2:JL l2)(a3:JL l3){p:Prop}(h:JL l0->JL l1->JL l2->JL l3->p:=by intro ja jb jc jd;(first|done|(repeat' (first|with_reducible refine And.intro ?_ ?_|((with_reducible show _≠_);first|assumption|omega|(simp_all [dQ,eX];done) |grind) |with_reducible intro _)) <;>(first|done|with_reducible exact Empty.elim ‹Empty› |with_reducible assumption|rfl|omega|assumption|decide|exact fk ja|exact fk jb|exact fk jc|exact fk jd|exact czl|(simp only[*,cond_true,cond_false,Bool.not_true,Bool.not_false,go_sem,Nat.reduceBEq,Nat.reduceLeDiff,Nat.reduceLT,decide_true,Nat.reduceAdd,Nat.reduceSub,Nat.reduceMul,Int.reduceLE,Int.reduceLT,Int.reduceToNat,Int.reduceNeg,reduceCtorEq];(repeat' (first|with_reducible refine And.intro ?_ ?_|((with_reducible show _≠_);first|assumption|omega|(simp_all [dQ,eX];done) |grind) |with_reducible intro _)) <;>(first|done|assumption|rfl|omega|decide|exact fk ja|exact fk jb|exact fk jc|exact fk jd|(simp_all [dQ,eX];done))) |(simp_all [okI,dQ,eX];done) |(simp_all [dQ,eX];(first|done|exact fk2 ja|exact fk2 jb|exact fk2 jc|exact fk2 jd)) |exact fk2 ja|exact fk2 jb|exact fk2 jc|exact fk2 jd))):p:=h a0 a1 a2 a3
@[go_sem] noncomputable def KR:List SV->Option Con:=(pR .case fun l=>(pE (.det True (.rc .case l))))
theorem OP:FnOk Tryz.prog 65 KR:=by
 have hG:ConsOk Tryz.prog (mkG [] []):=am cg0 cg0;refine Ci true mixed ai hG (fn:=Tryz.f65) (c:=aa Tryz.f65) kr kr kr kr (a_ fun l=>(ah (fun hp=>?_)));dsimp only[an]at hp;refine⟨nbl rfl,L0,ag _,?_⟩
 ·unfold aa Tryz.f65;exact zq1
@[go_sem] def l5 (sides:List Int)(a1:Suit)(k_0:Nat)(s_0:List Int):Empty⊕(List Int):=(bif((sides.getD (Int.toNat (a1.facts.getD k_0 0)) 0) ==1)then .inr (s_0++([(a1.facts.getD k_0 0)]))else .inr s_0)
def fL (sides:List Int)(a1:Suit)(k_0:Nat)(s_0:List Int):Prop:=((0<=(a1.facts.getD k_0 0)/\(a1.facts.getD k_0 0) < (sides.length:Int))/\(((sides.getD (Int.toNat (a1.facts.getD k_0 0)) 0) ==1)=true->((s_0++([(a1.facts.getD k_0 0)])).length*8<=ez)))
@[go_sem] def l6 (sides:List Int)(a1:Suit)(k_1:Nat)(s_1:List Int):Empty⊕(List Int):=(bif((sides.getD (Int.toNat (a1.facts.getD k_1 0)) 0) ==0)then .inr (s_1++([(a1.facts.getD k_1 0)]))else .inr s_1)
def fM (sides:List Int)(a1:Suit)(k_1:Nat)(s_1:List Int):Prop:=((0<=(a1.facts.getD k_1 0)/\(a1.facts.getD k_1 0) < (sides.length:Int))/\(((sides.getD (Int.toNat (a1.facts.getD k_1 0)) 0) ==0)=true->((s_1++([(a1.facts.getD k_1 0)])).length*8<=ez)))
@[go_sem] def l7 (sides:List Int)(a1:Suit)(k_2:Nat)(s_2:List Int):Empty⊕(List Int):=(bif((sides.getD (Int.toNat (a1.facts.getD k_2 0)) 0) ==1)then .inr (s_2++([(a1.facts.getD k_2 0)]))else .inr s_2)
def fN (sides:List Int)(a1:Suit)(k_2:Nat)(s_2:List Int):Prop:=((0<=(a1.facts.getD k_2 0)/\(a1.facts.getD k_2 0) < (sides.length:Int))/\(((sides.getD (Int.toNat (a1.facts.getD k_2 0)) 0) ==1)=true->((s_2++([(a1.facts.getD k_2 0)])).length*8<=ez)))
@[go_sem] def l8 (sides:List Int)(a1:Suit)(k_3:Nat)(s_3:List Int):Empty⊕(List Int):=(bif((sides.getD (Int.toNat (a1.facts.getD k_3 0)) 0) ==0)then .inr (s_3++([(a1.facts.getD k_3 0)]))else .inr s_3)
def fO (sides:List Int)(a1:Suit)(k_3:Nat)(s_3:List Int):Prop:=((0<=(a1.facts.getD k_3 0)/\(a1.facts.getD k_3 0) < (sides.length:Int))/\(((sides.getD (Int.toNat (a1.facts.getD k_3 0)) 0) ==0)=true->((s_3++([(a1.facts.getD k_3 0)])).length*8<=ez)))
def bu (sides:List Int)(a1:Suit)(cs:List Case):Case×Int:=letI q0:=({ sides:=sides,cases:=cs}:Cases);letI q1:=cD a1.plea a1.question;letI q2:=ap q0 a1.facts 0;letI q3:=cs.getD (Int.toNat (i64.wrap ((cs.length:Int) - 1))) default;letI q4:=ap q0 a1.facts 1;letI q5:=cp q0;letI q6:=gq a1.plea;(bif(q5 !=0)then(({ no:=0,hour:=0,winner:=0,facts:=[],reason:=[]}:Case),q5)else(bif(q6 !=0)then(({ no:=0,hour:=0,winner:=0,facts:=[],reason:=[]}:Case),q6)else(bif(aw (q1.2==0) (q1.2))then(bif(aw (q2.2.2==0) (q2.2.2))then(bif(aw ((aI a1.no 0 1048576)&&(aI a1.hour 0 4096)) 520)then(bif(decide ((cs.length:Int) > 0))then(bif(aw ((decide (a1.no > q3.no))&&(decide (a1.hour>=q3.hour))) 520)then(bif((!q2.2.1)&&(q4.2.1||(q1.1 !=1)))then(match aq (l5 sides a1) a1.facts.length 0 ([])with| .inl x=>x.elim| .inr s_0=>(({ no:=a1.no,hour:=a1.hour,winner:=1,facts:=a1.facts,reason:=s_0}:Case),0))else(match aq (l6 sides a1) a1.facts.length 0 ([])with| .inl x=>x.elim| .inr s_1=>(({ no:=a1.no,hour:=a1.hour,winner:=0,facts:=a1.facts,reason:=s_1}:Case),0)))else(({ no:=0,hour:=0,winner:=0,facts:=[],reason:=[]}:Case),520))else(bif((!q2.2.1)&&(q4.2.1||(q1.1 !=1)))then(match aq (l7 sides a1) a1.facts.length 0 ([])with| .inl x=>x.elim| .inr s_2=>(({ no:=a1.no,hour:=a1.hour,winner:=1,facts:=a1.facts,reason:=s_2}:Case),0))else(match aq (l8 sides a1) a1.facts.length 0 ([])with| .inl x=>x.elim| .inr s_3=>(({ no:=a1.no,hour:=a1.hour,winner:=0,facts:=a1.facts,reason:=s_3}:Case),0))))else(({ no:=0,hour:=0,winner:=0,facts:=[],reason:=[]}:Case),520))else(({ no:=0,hour:=0,winner:=0,facts:=[],reason:=[]}:Case),(q2.2.2)))else(({ no:=0,hour:=0,winner:=0,facts:=[],reason:=[]}:Case),(q1.2)))))
def cX (sides:List Int)(a1:Suit)(cs:List Case):Prop:=letI q0:=({ sides:=sides,cases:=cs}:Cases);letI q2:=cD a1.plea a1.question;letI q3:=ap q0 a1.facts 0;letI q4:=ap q0 a1.facts 1;letI q5:=(cs.length:Int);letI q1:=i64.wrap (q5 - 1);letI q6:=cs.getD (Int.toNat q1) default;letI q7:=q2.1 !=1;letI q8:=decide (a1.no > q6.no);((fB q0)/\(((cp q0) !=0)=false->((iC a1.plea)/\(((gq a1.plea) !=0)=false->((iV a1.plea a1.question)/\((aw (q2.2==0) (q2.2))=true->((dR q0 a1.facts 0)/\((aw (q3.2.2==0) (q3.2.2))=true->((dR q0 a1.facts 1)/\((aw ((aI a1.no 0 1048576)&&(aI a1.hour 0 4096)) 520)=true->(cs.length<=aA->(((decide (q5 > 0))=true->((0<=q1/\q1<q5)/\((q8=true->(0<=q1/\q1<q5))/\((aw (q8&&(decide (a1.hour>=q6.hour))) 520)=true->((((!q3.2.1)&&(q4.2.1||q7))=true->(a1.facts.length<=aA->okI (l5 sides a1) (fL sides a1) a1.facts.length 0 ([])))/\(((!q3.2.1)&&(q4.2.1||q7))=false->(a1.facts.length<=aA->okI (l6 sides a1) (fM sides a1) a1.facts.length 0 ([]))))))))/\((decide (q5 > 0))=false->((((!q3.2.1)&&(q4.2.1||q7))=true->(a1.facts.length<=aA->okI (l7 sides a1) (fN sides a1) a1.facts.length 0 ([])))/\(((!q3.2.1)&&(q4.2.1||q7))=false->(a1.facts.length<=aA->okI (l8 sides a1) (fO sides a1) a1.facts.length 0 ([])))))))))))))))))
noncomputable def mT:List SV->List Ob->Option HCon:=pC (fun x_:(List Int)×Suit×(List Case) =>[.agg [.rs .int x_.1,.os 0],.agg (cellsOf .suit x_.2.1)]) (fun x_=>[.row .case x_.2.2]) (fun x_=>je (cX x_.1 x_.2.1 x_.2.2) (.tup [.agg (cellsOf .case ((bu x_.1 x_.2.1 x_.2.2).1)),.v (.int .i64 ((bu x_.1 x_.2.1 x_.2.2).2))]) [.row .case x_.2.2])
@[go_sem] theorem El (sides:List Int)(a1:Suit)(cs:List Case):mT ([.agg [.rs .int sides,.os 0],.agg [.v (.int .i64 a1.no),.v (.int .i64 a1.hour),.v (.int .i64 a1.question),.rs .int a1.plea.facts,.rs .clause a1.plea.clauses,.rs .int a1.facts]]) ([.row .case cs])=some (je (cX sides a1 cs) (.tup [.agg (cellsOf .case ((bu sides a1 cs).1)),.v (.int .i64 ((bu sides a1 cs).2))]) [.row .case cs]):=lM (A:=fun x_:(List Int)×Suit×(List Case) =>[.agg [.rs .int x_.1,.os 0],.agg (cellsOf .suit x_.2.1)]) (H:=fun x_=>[.row .case x_.2.2]) (K:=fun x_=>je (cX x_.1 x_.2.1 x_.2.2) (.tup [.agg (cellsOf .case ((bu x_.1 x_.2.1 x_.2.2).1)),.v (.int .i64 ((bu x_.1 x_.2.1 x_.2.2).2))]) [.row .case x_.2.2]) (x:=(sides,a1,cs))
theorem KT {l0:List Nat}(a0:JL l0){p:Prop}(h:JL l0->p:=by intro ja;simp only[go_sem,Nat.reduceBEq,Nat.reduceLeDiff,Nat.reduceLT,decide_true,Nat.reduceAdd,Nat.reduceSub,Nat.reduceMul,Int.reduceLE,Int.reduceLT,Int.reduceToNat,Int.reduceNeg,reduceCtorEq,hs0,hs1,qx,oH,RCJ];all_goals exact jr ja):p:=h a0
theorem wm:FnOkO Tryz.prog 24 mT:=by
 have hG:ConsOk Tryz.prog (mkG [(34,fun l=>oJ (aP [.st .cases,.sl .int,.o] l)),(35,fun l=>tt (aP [.st .plea,.o] l)),(52,gc),(58,kl),(64,fun l=>kW (aP [.st .cases] l)),(67,fun l=>qU (aP [.st .plea] l))] []):=am (cgc (sf.norm [.st .cases,.sl .int,.o]) (cgc (vX.norm [.st .plea,.o]) (cgc h_ (cgc mf (cgc (nY.norm [.st .cases]) (cgc (tj.norm [.st .plea]) cg0)))))) cg0;refine OO Fi [.st .case,.o] mixed ai hG (fn:=Tryz.f24) (c0:=qx (aa Tryz.f24)) (c1:=oH (oH (aa Tryz.f24))) (i1:=Qs (qx (oH (aa Tryz.f24)))) (o1:=NI 0 (qx (oH (aa Tryz.f24)))) (q:=5) (tys:= #[104]) kr kr kr (by refine⟨?_,?_,?_⟩ <;>kernel_rfl) kr kr fun l o con h=>?_;obtain⟨⟨sides,a1,cs⟩,rfl,rfl,rfl⟩:=jJ h;clear h;try dsimp only
 refine⟨_,_,_,rfl,rfl,fun hp=>?_⟩;unfold cX at hp;rcases Bool.eq_false_or_eq_true (decide ((cs.length:Int) > 0))with hs0|hs0 <;>rcases Bool.eq_false_or_eq_true ((!(ap ({ sides:=sides,cases:=cs}:Cases) a1.facts 0).2.1)&&((ap ({ sides:=sides,cases:=cs}:Cases) a1.facts 1).2.1||((cD a1.plea a1.question).1 !=1)))with hs1|hs1
 ·have hsp:True:=trivial;refine⟨nbl rfl,L0,(fun id st=>bif Nat.beq id 0 then some (LCR (ρ:=Empty) (σ:=(List Int)) 5 [.cell 3 4 (.row .int ([]))] [0,1,2,3,4,5] (fun k_0 s_0=>⟨[(2,.ptr 1 0),(4,.ptr 3 0),(5,.ptr 4 0),(115,.rs .int a1.facts),(116,.v (.int .i64 (a1.facts.length:Int))),(117,.v (.int .i64 (k_0:Int)))],[.row .case cs,.cells [.rs .int sides,.os 0],.dead,.cells [.v (.int .i64 a1.no),.v (.int .i64 a1.hour),.v (.int .i64 1),.rs .int a1.facts,.os 5],.cells [.v (.int .i64 ((ap ({ sides:=sides,cases:=cs}:Cases) a1.facts 0).2.2))],.row .int s_0]⟩) (l5 sides a1) (fL sides a1) a1.facts.length ([]) (a1.facts.length<=aA) ((·.elim)) ((·.elim)) st)else none),4,?_,?_,?_⟩
  ·unfold aa Tryz.f24;simp only[qx,ak,and_self,true_and,and_true]
  ·unfold aa Tryz.f24;simp only[oH];simp only[ak,true_and,and_true]
   ·refine bh mixed ai hG kr (fun _=>rfl) (a1.facts.length:Int) rfl dV (fun hb0 k_0 s_0 hlt0 hq0 hw hc=>⟨L0,ag _,?_⟩) (fun hb0 s_0 hc=>?_)
    ·unfold fL at hq0;try simp only[hw,Int.toNat_natCast]at hq0
     exact lB (jl [0,1,2,3,4,7]) (jl [0,1,2,3,4,5])
    ·exact kg (jl [0,1,2,3,4,7]) (jl [0,1,2,3,4,5])
  ·unfold aa Tryz.f24;try unfold bu
   exact KT (jl [0])
 ·have hsp:True:=trivial;refine⟨nbl rfl,L0,(fun id st=>bif Nat.beq id 0 then some (LCR (ρ:=Empty) (σ:=(List Int)) 5 [.cell 3 4 (.row .int ([]))] [0,1,2,3,4,5] (fun k_1 s_1=>⟨[(2,.ptr 1 0),(4,.ptr 3 0),(5,.ptr 4 0),(115,.rs .int a1.facts),(116,.v (.int .i64 (a1.facts.length:Int))),(117,.v (.int .i64 (k_1:Int)))],[.row .case cs,.cells [.rs .int sides,.os 0],.dead,.cells [.v (.int .i64 a1.no),.v (.int .i64 a1.hour),.v (.int .i64 0),.rs .int a1.facts,.os 5],.cells [.v (.int .i64 ((ap ({ sides:=sides,cases:=cs}:Cases) a1.facts 0).2.2))],.row .int s_1]⟩) (l6 sides a1) (fM sides a1) a1.facts.length ([]) (a1.facts.length<=aA) ((·.elim)) ((·.elim)) st)else none),4,?_,?_,?_⟩
  ·unfold aa Tryz.f24;simp only[qx,ak,and_self,true_and,and_true]
  ·unfold aa Tryz.f24;simp only[oH];simp only[ak,true_and,and_true]
   ·refine bh mixed ai hG kr (fun _=>rfl) (a1.facts.length:Int) rfl dV (fun hb1 k_1 s_1 hlt1 hq1 hw hc=>⟨L0,ag _,?_⟩) (fun hb1 s_1 hc=>?_)
    ·unfold fM at hq1;try simp only[hw,Int.toNat_natCast]at hq1
     exact lB (jl [0,1,2,3,4,7]) (jl [0,1,2,3,4,5])
    ·exact kg (jl [0,1,2,3,4,7]) (jl [0,1,2,3,4,5])
  ·unfold aa Tryz.f24;try unfold bu
   exact KT (jl [0])
 ·have hsp:True:=trivial;refine⟨nbl rfl,L0,(fun id st=>bif Nat.beq id 0 then some (LCR (ρ:=Empty) (σ:=(List Int)) 5 [.cell 3 4 (.row .int ([]))] [0,1,2,3,4,5] (fun k_2 s_2=>⟨[(2,.ptr 1 0),(4,.ptr 3 0),(5,.ptr 4 0),(115,.rs .int a1.facts),(116,.v (.int .i64 (a1.facts.length:Int))),(117,.v (.int .i64 (k_2:Int)))],[.row .case cs,.cells [.rs .int sides,.os 0],.dead,.cells [.v (.int .i64 a1.no),.v (.int .i64 a1.hour),.v (.int .i64 1),.rs .int a1.facts,.os 5],.cells [.v (.int .i64 ((ap ({ sides:=sides,cases:=cs}:Cases) a1.facts 0).2.2))],.row .int s_2]⟩) (l7 sides a1) (fN sides a1) a1.facts.length ([]) (a1.facts.length<=aA) ((·.elim)) ((·.elim)) st)else none),4,?_,?_,?_⟩
  ·unfold aa Tryz.f24;simp only[qx,ak,and_self,true_and,and_true]
  ·unfold aa Tryz.f24;simp only[oH];simp only[ak,true_and,and_true]
   ·refine bh mixed ai hG kr (fun _=>rfl) (a1.facts.length:Int) rfl dV (fun hb2 k_2 s_2 hlt2 hq2 hw hc=>⟨L0,ag _,?_⟩) (fun hb2 s_2 hc=>?_)
    ·unfold fN at hq2;try simp only[hw,Int.toNat_natCast]at hq2
     exact lB (jl [0,1,2,3,4,7]) (jl [0,1,2,3,4,5])
    ·exact kg (jl [0,1,2,3,4,7]) (jl [0,1,2,3,4,5])
  ·unfold aa Tryz.f24;try unfold bu
   exact KT (jl [0])
 ·have hsp:True:=trivial;refine⟨nbl rfl,L0,(fun id st=>bif Nat.beq id 0 then some (LCR (ρ:=Empty) (σ:=(List Int)) 5 [.cell 3 4 (.row .int ([]))] [0,1,2,3,4,5] (fun k_3 s_3=>⟨[(2,.ptr 1 0),(4,.ptr 3 0),(5,.ptr 4 0),(115,.rs .int a1.facts),(116,.v (.int .i64 (a1.facts.length:Int))),(117,.v (.int .i64 (k_3:Int)))],[.row .case cs,.cells [.rs .int sides,.os 0],.dead,.cells [.v (.int .i64 a1.no),.v (.int .i64 a1.hour),.v (.int .i64 0),.rs .int a1.facts,.os 5],.cells [.v (.int .i64 ((ap ({ sides:=sides,cases:=cs}:Cases) a1.facts 0).2.2))],.row .int s_3]⟩) (l8 sides a1) (fO sides a1) a1.facts.length ([]) (a1.facts.length<=aA) ((·.elim)) ((·.elim)) st)else none),4,?_,?_,?_⟩
  ·unfold aa Tryz.f24;simp only[qx,ak,and_self,true_and,and_true]
  ·unfold aa Tryz.f24;simp only[oH];simp only[ak,true_and,and_true]
   ·refine bh mixed ai hG kr (fun _=>rfl) (a1.facts.length:Int) rfl dV (fun hb3 k_3 s_3 hlt3 hq3 hw hc=>⟨L0,ag _,?_⟩) (fun hb3 s_3 hc=>?_)
    ·unfold fO at hq3;try simp only[hw,Int.toNat_natCast]at hq3
     exact lB (jl [0,1,2,3,4,7]) (jl [0,1,2,3,4,5])
    ·exact kg (jl [0,1,2,3,4,7]) (jl [0,1,2,3,4,5])
  ·unfold aa Tryz.f24;try unfold bu
   exact KT (jl [0])
theorem U4 (sides:List Int)(a1:Suit)(cs:List Case):bu sides a1 cs=aV ({ sides:=sides,cases:=cs}:Cases) a1:=(rfl)
theorem OQ (sides:List Int)(a1:Suit)(cs:List Case):cX sides a1 cs=gL ({ sides:=sides,cases:=cs}:Cases) a1:=(rfl)
attribute [go_sem] F_
@[go_sem ↓] theorem ZO (x:Suit):mkE .suit [.v (.int .i64 x.no),.v (.int .i64 x.hour),.v (.int .i64 x.question),.rs .int x.plea.facts,.rs .clause x.plea.clauses,.rs .int x.facts]=x:=(rfl)
@[go_sem ↓] theorem U5 (l:List Int)(c:List Case):mkE .cases [.rs .int l,.rs .case c]=({ sides:=l,cases:=c}:Cases):=(rfl)
def pD2 {σ:Type}(A B:Nat->σ->St)(k:Nat)(s:σ):St:=bif Nat.beq k 0 then A k s else B k s
@[go_sem] theorem ZP {σ:Type}{A B:Nat->σ->St}{s:σ}:pD2 A B 0 s=A 0 s:=(rfl)
@[go_sem] theorem ZQ {σ:Type}{A B:Nat->σ->St}{k:Nat}{s:σ}:pD2 A B (k+1) s=B (k+1) s:=(rfl)
@[go_sem] def dA (sides:List Int)(l_:List Suit)(k_0:Nat)(s_0:List Case):Int⊕(List Case):=letI q0:=bu sides (l_.getD k_0 default) s_0;letI q1:=s_0++([(q0.1)]);(bif(q0.2 !=0)then .inl (q0.2)else(bif(decide ((q1.length:Int) > 64))then .inl 2 else .inr q1))
def eG (sides:List Int)(l_:List Suit)(k_0:Nat)(s_0:List Case):Prop:=((cX sides (l_.getD k_0 default) s_0)/\(((bu sides (l_.getD k_0 default) s_0).2 !=0)=false->((s_0++([((bu sides (l_.getD k_0 default) s_0).1)])).length*72<=ez)))
def d7 (a0:Cases)(l_:List Suit):Cases×Int:=letI q0:=cp a0;(bif(q0 !=0)then(({ sides:=[],cases:=[]}:Cases),q0)else(match aq (dA a0.sides l_) l_.length 0 a0.cases with| .inl x_0_0=>(({ sides:=[],cases:=[]}:Cases),x_0_0) | .inr s_0=>(({ sides:=a0.sides,cases:=s_0}:Cases),0)))
def gz (a0:Cases)(l_:List Suit):Prop:=((fB a0)/\(((cp a0) !=0)=false->(l_.length<=aA->okI (dA a0.sides l_) (eG a0.sides l_) l_.length 0 a0.cases)))
@[go_sem] def oz:List SV->Option Con:=(pD .cases fun a0=>(pR .suit fun l_=>(pE (.det (gz a0 l_) (.tup [.agg (cellsOf .cases ((d7 a0 l_).1)),.v (.int .i64 ((d7 a0 l_).2))])))))
theorem ZR {l0 l1 l2 l3:List Nat}(a0:JL l0)(a1:JL l1)(a2:JL l2)(a3:JL l3){p:Prop}(h:JL l0->JL l1->JL l2->JL l3->p:=by intro ja jb jc jd;simp only[go_sem,Nat.reduceBEq,Nat.reduceLeDiff,Nat.reduceLT,decide_true,Nat.reduceAdd,Nat.reduceSub,Nat.reduceMul,Int.reduceLE,Int.reduceLT,Int.reduceToNat,Int.reduceNeg,reduceCtorEq,hc,hw,ek,kd,kp];all_goals exact CU ja jb jc jd):p:=h a0 a1 a2 a3
theorem ZS {l0 l1 l2 l3:List Nat}(a0:JL l0)(a1:JL l1)(a2:JL l2)(a3:JL l3){p:Prop}(h:JL l0->JL l1->JL l2->JL l3->p:=by intro ja jb jc jd;simp only[go_sem,Nat.reduceBEq,Nat.reduceLeDiff,Nat.reduceLT,decide_true,Nat.reduceAdd,Nat.reduceSub,Nat.reduceMul,Int.reduceLE,Int.reduceLT,Int.reduceToNat,Int.reduceNeg,reduceCtorEq,hc,hw,ek];all_goals exact CU ja jb jc jd):p:=h a0 a1 a2 a3
theorem SY {l0 l1 l2 l3:List Nat}(a0:JL l0)(a1:JL l1)(a2:JL l2)(a3:JL l3){p:Prop}(h:JL l0->JL l1->JL l2->JL l3->p:=by intro ja jb jc jd;simp only[go_sem,Nat.reduceBEq,Nat.reduceLeDiff,Nat.reduceLT,decide_true,Nat.reduceAdd,Nat.reduceSub,Nat.reduceMul,Int.reduceLE,Int.reduceLT,Int.reduceToNat,Int.reduceNeg,reduceCtorEq,hc,ek];all_goals exact CU ja jb jc jd):p:=h a0 a1 a2 a3
theorem SZ {p:Prop}(h:p:=by simp only[go_sem,Nat.reduceBEq,Nat.reduceLeDiff,Nat.reduceLT,decide_true,Nat.reduceAdd,Nat.reduceSub,Nat.reduceMul,Int.reduceLE,Int.reduceLT,Int.reduceToNat,Int.reduceNeg,reduceCtorEq,ek];all_goals exact cl):p:=h
theorem u0:FnOk Tryz.prog 21 oz:=by
 have hG:ConsOk Tryz.prog (mkG [(24,fun l=>oQ (aP [.st .cases,.st .suit] l)),(64,fun l=>kW (aP [.st .cases] l)),(65,fun l=>KR (aP [.sl .case] l))] [(24,mT)]):=am (cgc (sr.norm [.st .cases,.st .suit]) (cgc (nY.norm [.st .cases]) (cgc (OP.norm [.sl .case]) cg0))) (cgc wm cg0);refine av [.st .cases,.o] mixed ai hG (fn:=Tryz.f21) (c:=aa Tryz.f21) kr kr kr kr (aF fun a0=>(a_ fun l_=>(ah (fun hp=>?_))));dsimp only[an]at hp;unfold gz at hp;refine⟨nbl rfl,(fun id st=>bif Nat.beq id 0 then some (LCR (ρ:=Int) (σ:=(List Case)) 2 [] [0,1] (pD2 (fun k_0 s_0=>⟨[(2,.ptr 0 0),(4,.ptr 1 0),(20,.rs .suit l_),(21,.v (.int .i64 (l_.length:Int))),(22,.v (.int .i64 (k_0:Int)))],[.cells [.rs .int a0.sides,.rc .case s_0],.cells [.v (.slice none 0 0),.v (.slice none 0 0)]]⟩) (fun k_0 s_0=>⟨[(2,.ptr 0 0),(4,.ptr 1 0),(20,.rs .suit l_),(21,.v (.int .i64 (l_.length:Int))),(22,.v (.int .i64 (k_0:Int)))],[.cells [.rs .int a0.sides,.os 2],.cells [.v (.slice none 0 0),.v (.slice none 0 0)],.row .case s_0]⟩)) (dA a0.sides l_) (eG a0.sides l_) l_.length a0.cases (l_.length<=aA) (fun _=>.ret) (fun x_0_0=>⟨[(4,.ptr 1 0),(5,.v (.int .i64 x_0_0))],[.dead,.cells [.v (.slice none 0 0),.v (.slice none 0 0)]]⟩) st)else none),?_,?_⟩
 ·unfold aa Tryz.f21;simp only[ak,true_and,and_true]
  ·refine bh mixed ai hG kr (fun _=>rfl) (l_.length:Int) rfl dV (fun hb0 k_0 s_0 hlt0 hq0 hw hc=>⟨L0,ag _,?_⟩) (fun hb0 s_0 hc=>?_)
   ·unfold eG at hq0;try simp only[hw,Int.toNat_natCast]at hq0
    cases hk:Nat.beq k_0 0 with
    |true=>
     have ek:∀ (A B:Nat->List Case->St) (s:List Case),pD2 A B k_0 s=A k_0 s:=fun A B s=>by unfold pD2;rw[hk];rfl
     have kd:∀ (x:Suit),aV ({ sides:=a0.sides,cases:=s_0}:Cases) x=bu a0.sides x s_0:=fun x=>(U4 _ _ _).symm;have kp:∀ (x:Suit),gL ({ sides:=a0.sides,cases:=s_0}:Cases) x=cX a0.sides x s_0:=fun x=>(OQ _ _ _).symm;exact ZR (jl [0,1]) (jl [0,1,5]) (jl [0,1,6]) (jl [0,1,2])
    |false=>
     have ek:∀ (A B:Nat->List Case->St) (s:List Case),pD2 A B k_0 s=B k_0 s:=fun A B s=>by unfold pD2;rw[hk];rfl
     exact ZS (jl [0,1]) (jl [0,1,5]) (jl [0,1,6]) (jl [0,1,2])
   ·cases hk:Nat.beq l_.length 0 with
    |true=>
     have ek:∀ (A B:Nat->List Case->St) (s:List Case),pD2 A B l_.length s=A l_.length s:=fun A B s=>by unfold pD2;rw[hk];rfl
     exact SY (jl [0,1]) (jl [0,1,5]) (jl [0,1,6]) (jl [0,1,2])
    |false=>
     have ek:∀ (A B:Nat->List Case->St) (s:List Case),pD2 A B l_.length s=B l_.length s:=fun A B s=>by unfold pD2;rw[hk];rfl
     exact SY (jl [0,1]) (jl [0,1,5]) (jl [0,1,6]) (jl [0,1,2])
 ·unfold aa Tryz.f21;try unfold d7
  cases hk:Nat.beq l_.length 0 with
  |true=>
   have ek:∀ (A B:Nat->List Case->St) (s:List Case),pD2 A B l_.length s=A l_.length s:=fun A B s=>by unfold pD2;rw[hk];rfl
   exact SZ
  |false=>
   have ek:∀ (A B:Nat->List Case->St) (s:List Case),pD2 A B l_.length s=B l_.length s:=fun A B s=>by unfold pD2;rw[hk];rfl
   exact SZ
def bp (n:Int)(lo:Int)(hi:Int):Bool:=((decide (n>=lo))&&(decide (n<=hi)))
@[go_sem] def pO:List SV->Option Con:=(pI fun n=>(pI fun lo=>(pI fun hi=>(pE (.det True (.v (.bool (bp n lo hi))))))))
theorem r6:FnOk Tryz.prog 113 pO:=by
 have hG:ConsOk Tryz.prog (mkG [] []):=am cg0 cg0;refine av [.o] mixed ai hG (fn:=Tryz.f113) (c:=aa Tryz.f113) kr kr kr kr (br fun n=>(br fun lo=>(br fun hi=>(ah (fun hp=>?_)))));dsimp only[an]at hp;refine⟨nbl rfl,L0,ag _,?_⟩
 ·unfold aa Tryz.f113;try unfold bp
  exact zq1
@[go_sem] def zk (l_:List Int)(n:Int)(k_0:Nat)(s_0:Unit):Unit⊕Unit:=(bif((l_.getD k_0 0) ==n)then .inl ()else .inr ())
def lN (l_:List Int)(n:Int):Bool:=(match aq (zk l_ n) l_.length 0 ()with| .inl x_0_0=>true| .inr s_0=>false)
@[go_sem] def xb:List SV->Option Con:=(pR .int fun l_=>(pI fun n=>(pE (.det True (.v (.bool (lN l_ n)))))))
theorem zl:FnOk Tryz.prog 163 xb:=by
 have hG:ConsOk Tryz.prog (mkG [] []):=am cg0 cg0;refine av [.o] mixed ai hG (fn:=Tryz.f163) (c:=aa Tryz.f163) kr kr kr kr (a_ fun l_=>(br fun n=>(ah (fun hp=>?_))));dsimp only[an]at hp;refine⟨nbl rfl,(fun id st=>bif Nat.beq id 0 then some (LCR (ρ:=Unit) (σ:=Unit) 0 [] [] (fun k_0 s_0=>⟨[(0,.rs .int l_),(1,.v (.int .i64 n)),(5,.v (.int .i64 (k_0:Int)))],[]⟩) (zk l_ n) pT l_.length () (True) (fun _=>.ret) (fun x_0_0=>⟨[(4,.v (.bool true))],[]⟩) st)else none),?_,?_⟩
 ·unfold aa Tryz.f163;simp only[ak,true_and,and_true]
  ·refine cB (l_.length<=aA) mixed ai hG kr (fun _=>rfl) (l_.length:Int) rfl dV (fun hb0 k_0 s_0 hlt0 _ hw hc=>⟨L0,ag _,?_⟩) (fun hb0 s_0 hc=>?_) fun hb0 k_0 s_0=>?_
   ·exact aL (jl [])
   ·exact aK (jl [])
   ·exact zq7
 ·unfold aa Tryz.f163;try unfold lN
  exact zq1
@[go_sem] def zm (l_:List Int)(in_:List Int)(k_0:Nat)(s_0:Unit):Unit⊕Unit:=(bif(!(lN in_ (l_.getD k_0 0)))then .inl ()else .inr ())
def kC (l_:List Int)(in_:List Int):Bool:=(match aq (zm l_ in_) l_.length 0 ()with| .inl x_0_0=>false| .inr s_0=>true)
@[go_sem] def xc:List SV->Option Con:=(pR .int fun l_=>(pR .int fun in_=>(pE (.det True (.v (.bool (kC l_ in_)))))))
theorem zn:FnOk Tryz.prog 126 xc:=by
 have hG:ConsOk Tryz.prog (mkG [(163,fun l=>xb (aP [.sl .int,.o] l))] []):=am (cgc (zl.norm [.sl .int,.o]) cg0) cg0;refine av [.o] mixed ai hG (fn:=Tryz.f126) (c:=aa Tryz.f126) kr kr kr kr (a_ fun l_=>(a_ fun in_=>(ah (fun hp=>?_))));dsimp only[an]at hp;refine⟨nbl rfl,(fun id st=>bif Nat.beq id 0 then some (LCR (ρ:=Unit) (σ:=Unit) 0 [] [] (fun k_0 s_0=>⟨[(0,.rs .int l_),(1,.rs .int in_),(5,.v (.int .i64 (k_0:Int)))],[]⟩) (zm l_ in_) pT l_.length () (True) (fun _=>.ret) (fun x_0_0=>⟨[(4,.v (.bool false))],[]⟩) st)else none),?_,?_⟩
 ·unfold aa Tryz.f126;simp only[ak,true_and,and_true]
  ·refine cB (l_.length<=aA) mixed ai hG kr (fun _=>rfl) (l_.length:Int) rfl dV (fun hb0 k_0 s_0 hlt0 _ hw hc=>⟨L0,ag _,?_⟩) (fun hb0 s_0 hc=>?_) fun hb0 k_0 s_0=>?_
   ·exact aL (jl [])
   ·exact aK (jl [])
   ·exact zq7
 ·unfold aa Tryz.f126;try unfold kC
  exact zq1
@[go_sem] def nG (b:Cases)(l_:List Int)(k_0:Nat)(s_0:Unit):Unit⊕Unit:=(bif((!(bp (l_.getD k_0 0) 0 (i64.wrap ((b.sides.length:Int) - 1)))) ||((decide ((k_0:Int) > 0))&&(decide ((l_.getD k_0 0)<=(l_.getD (Int.toNat (i64.wrap ((k_0:Int) - 1))) 0)))))then .inl ()else .inr ())
def tu (b:Cases)(l_:List Int)(k_0:Nat)(s_0:Unit):Prop:=letI q0:=i64.wrap ((k_0:Int) - 1);(l_.length<=aA->(b.sides.length<=aA->((!(bp (l_.getD k_0 0) 0 (i64.wrap ((b.sides.length:Int) - 1))))=false->((decide ((k_0:Int) > 0))=true->(0<=q0/\q0< (l_.length:Int))))))
def fP (b:Cases)(l_:List Int):Bool:=(match aq (nG b l_) l_.length 0 ()with| .inl x_0_0=>false| .inr s_0=>true)
def mU (b:Cases)(l_:List Int):Prop:=okI (nG b l_) (tu b l_) l_.length 0 ()
@[go_sem] def rK:List SV->Option Con:=(pD .cases fun b=>(pR .int fun l_=>(pE (.det (mU b l_) (.v (.bool (fP b l_)))))))
theorem sE:FnOk Tryz.prog 70 rK:=by
 have hG:ConsOk Tryz.prog (mkG [(113,pO)] []):=am (cgc r6 cg0) cg0;refine av [.o] mixed ai hG (fn:=Tryz.f70) (c:=aa Tryz.f70) kr kr kr kr (aF fun b=>(a_ fun l_=>(ah (fun hp=>?_))));dsimp only[an]at hp;unfold mU at hp;refine⟨nbl rfl,(fun id st=>bif Nat.beq id 0 then some (LCR (ρ:=Unit) (σ:=Unit) 1 [] [0] (fun k_0 s_0=>⟨[(1,.rs .int l_),(2,.ptr 0 0),(5,.v (.int .i64 (k_0:Int)))],[.cells (cellsOf .cases b)]⟩) (nG b l_) (tu b l_) l_.length () (True) (fun _=>.ret) (fun x_0_0=>⟨[(4,.v (.bool false))],[.dead]⟩) st)else none),?_,?_⟩
 ·unfold aa Tryz.f70;simp only[ak,true_and,and_true]
  ·refine cB (l_.length<=aA) mixed ai hG kr (fun _=>rfl) (l_.length:Int) rfl dV (fun hb0 k_0 s_0 hlt0 hq0 hw hc=>⟨L0,ag _,?_⟩) (fun hb0 s_0 hc=>?_) fun hb0 k_0 s_0=>?_
   ·unfold tu at hq0;try simp only[hw,Int.toNat_natCast]at hq0
    exact aL (jl [0])
   ·exact aK (jl [0])
   ·exact zq7
 ·unfold aa Tryz.f70;try unfold fP
  exact zq1
@[go_sem] def r7 (b:Cases)(l_:List Int)(side:Int)(k_0:Nat)(s_0:Unit):Unit⊕Unit:=(bif((b.sides.getD (Int.toNat (l_.getD k_0 0)) 0) !=side)then .inl ()else .inr ())
def pP (b:Cases)(l_:List Int)(side:Int)(k_0:Nat)(s_0:Unit):Prop:=(l_.length<=aA->(0<=(l_.getD k_0 0)/\(l_.getD k_0 0) < (b.sides.length:Int)))
def nH (b:Cases)(facts:List Int)(l_:List Int)(side:Int):Bool:=(bif((!(fP b l_)) ||(!(kC l_ facts)))then false else(match aq (r7 b l_ side) l_.length 0 ()with| .inl x_0_0=>false| .inr s_0=>true))
def pQ (b:Cases)(facts:List Int)(l_:List Int)(side:Int):Prop:=((mU b l_)/\(((!(fP b l_)) ||(!(kC l_ facts)))=false->okI (r7 b l_ side) (pP b l_ side) l_.length 0 ()))
@[go_sem] def xd:List SV->Option Con:=(pD .cases fun b=>(pR .int fun facts=>(pR .int fun l_=>(pI fun side=>(pE (.det (pQ b facts l_ side) (.v (.bool (nH b facts l_ side)))))))))
theorem AZ:FnOk Tryz.prog 114 xd:=by
 have hG:ConsOk Tryz.prog (mkG [(70,fun l=>rK (aP [.st .cases,.sl .int] l)),(126,fun l=>xc (aP [.sl .int,.sl .int] l))] []):=am (cgc (sE.norm [.st .cases,.sl .int]) (cgc (zn.norm [.sl .int,.sl .int]) cg0)) cg0;refine av [.o] mixed ai hG (fn:=Tryz.f114) (c:=aa Tryz.f114) kr kr kr kr (aF fun b=>(a_ fun facts=>(a_ fun l_=>(br fun side=>(ah (fun hp=>?_))))));dsimp only[an]at hp;unfold pQ at hp;refine⟨nbl rfl,(fun id st=>bif Nat.beq id 0 then some (LCR (ρ:=Unit) (σ:=Unit) 1 [] [0] (fun k_0 s_0=>⟨[(2,.rs .int l_),(3,.v (.int .i64 side)),(4,.ptr 0 0),(10,.v (.int .i64 (k_0:Int)))],[.cells (cellsOf .cases b)]⟩) (r7 b l_ side) (pP b l_ side) l_.length () (True) (fun _=>.ret) (fun x_0_0=>⟨[(8,.v (.bool false))],[.dead]⟩) st)else none),?_,?_⟩
 ·unfold aa Tryz.f114;simp only[ak,true_and,and_true]
  ·refine cB (l_.length<=aA) mixed ai hG kr (fun _=>rfl) (l_.length:Int) rfl dV (fun hb0 k_0 s_0 hlt0 hq0 hw hc=>⟨L0,ag _,?_⟩) (fun hb0 s_0 hc=>?_) fun hb0 k_0 s_0=>?_
   ·unfold pP at hq0;try simp only[hw,Int.toNat_natCast]at hq0
    exact aL (jl [0])
   ·exact aK (jl [0])
   ·exact zq7
 ·unfold aa Tryz.f114;try unfold nH
  exact zq1
@[go_sem] def pV (a0:Cases)(k_0:Nat)(s_0:Unit):Unit⊕Unit:=(bif(!(bp (a0.sides.getD k_0 0) 0 1))then .inl ()else .inr ())
@[go_sem] def g5 (a0:Cases)(k_1:Nat)(s_1:Unit):Unit⊕Unit:=letI q0:=a0.cases.getD k_1 default;letI q1:=a0.cases.getD (Int.toNat (i64.wrap ((k_1:Int) - 1))) default;(bif(((!(bp (q0.no) 0 1048576)) ||(!(bp (q0.hour) 0 4096))) ||(!(bp (q0.winner) 0 1)))then .inl ()else(bif((decide ((k_1:Int) > 0))&&((decide (q0.no<=q1.no)) ||(decide (q0.hour<q1.hour))))then .inl ()else(bif((!(fP a0 (q0.facts))) ||(!(nH a0 (q0.facts) (q0.reason) (q0.winner))))then .inl ()else .inr ())))
def qG (a0:Cases)(k_1:Nat)(s_1:Unit):Prop:=letI q0:=a0.cases.getD k_1 default;letI q1:=i64.wrap ((k_1:Int) - 1);letI q2:=a0.cases.getD (Int.toNat q1) default;letI q3:=decide ((k_1:Int) > 0);letI q4:=0<=q1/\q1< (a0.cases.length:Int);letI q5:=decide (q0.no<=q2.no);(a0.cases.length<=aA->((((!(bp (q0.no) 0 1048576)) ||(!(bp (q0.hour) 0 4096))) ||(!(bp (q0.winner) 0 1)))=false->((q3=true->q4)/\((q3=true->(q5=false->q4))/\((q3&&(q5||(decide (q0.hour<q2.hour))))=false->((mU a0 (q0.facts))/\((!(fP a0 (q0.facts)))=false->(pQ a0 (q0.facts) (q0.reason) (q0.winner)))))))))
def dP (a0:Cases):Int:=(bif((decide ((a0.sides.length:Int) > 32)) ||(decide ((a0.cases.length:Int) > 64)))then 2 else(match aq (pV a0) a0.sides.length 0 ()with| .inl x_0_0=>520| .inr s_0=>(match aq (g5 a0) a0.cases.length 0 ()with| .inl x_1_0=>520| .inr s_1=>0)))
def lO (a0:Cases):Prop:=(a0.sides.length<=aA->(((decide ((a0.sides.length:Int) > 32)) ||(decide ((a0.cases.length:Int) > 64)))=false->(∀ s_0,aq (pV a0) a0.sides.length 0 ()=.inr s_0->okI (g5 a0) (qG a0) a0.cases.length 0 ())))
@[go_sem] def qV:List SV->Option Con:=(pD .cases fun a0=>(pE (.det (lO a0) (.v (.int .i64 (dP a0))))))
theorem OS {p:Prop}(h:p:=by simp only[go_sem,Nat.reduceBEq,Nat.reduceLeDiff,Nat.reduceLT,decide_true,Nat.reduceAdd,Nat.reduceSub,Nat.reduceMul,Int.reduceLE,Int.reduceLT,Int.reduceToNat,Int.reduceNeg,reduceCtorEq,hb1]):p:=h
theorem tv:FnOk Tryz.prog 66 qV:=by
 have hG:ConsOk Tryz.prog (mkG [(70,fun l=>rK (aP [.st .cases,.sl .int] l)),(113,pO),(114,fun l=>xd (aP [.st .cases,.sl .int,.sl .int,.o] l))] []):=am (cgc (sE.norm [.st .cases,.sl .int]) (cgc r6 (cgc (AZ.norm [.st .cases,.sl .int,.sl .int,.o]) cg0))) cg0;refine av [.o] mixed ai hG (fn:=Tryz.f66) (c:=aa Tryz.f66) kr kr kr kr (aF fun a0=>(ah (fun hp=>?_)));dsimp only[an]at hp;unfold lO at hp;refine⟨nbl rfl,(fun id st=>bif Nat.beq id 0 then some (LCR (ρ:=Unit) (σ:=Unit) 1 [] [0] (fun k_0 s_0=>⟨[(1,.ptr 0 0),(3,.v (.int .i64 (k_0:Int)))],[.cells (cellsOf .cases a0)]⟩) (pV a0) pT a0.sides.length () (True) (fun _=>.ret) (fun x_0_0=>⟨[(2,.v (.int .i64 520))],[.dead]⟩) st)else bif Nat.beq id 2 then some (LCR (ρ:=Unit) (σ:=Unit) 1 [] [0] (fun k_1 s_1=>⟨[(1,.ptr 0 0),(4,.v (.int .i64 (k_1:Int)))],[.cells (cellsOf .cases a0)]⟩) (g5 a0) (qG a0) a0.cases.length () (True) (fun _=>.ret) (fun x_1_0=>⟨[(2,.v (.int .i64 520))],[.dead]⟩) st)else none),?_,?_⟩
 ·unfold aa Tryz.f66;simp only[ak,true_and,and_true];refine⟨?_,?_⟩
  ·refine cB (a0.sides.length<=aA) mixed ai hG kr (fun _=>rfl) (a0.sides.length:Int) rfl dV (fun hb0 k_0 s_0 hlt0 _ hw hc=>⟨L0,ag _,?_⟩) (fun hb0 s_0 hc=>?_) fun hb0 k_0 s_0=>?_
   ·exact aL (jl [0])
   ·exact aK (jl [0])
   ·exact zq7
  ·refine cB (a0.cases.length<=aA) mixed ai hG kr (fun _=>rfl) (a0.cases.length:Int) rfl dV (fun hb1 k_1 s_1 hlt1 hq1 hw hc=>⟨L0,ag _,?_⟩) (fun hb1 s_1 hc=>?_) fun hb1 k_1 s_1=>?_
   ·unfold qG at hq1;try simp only[hw,Int.toNat_natCast]at hq1
    exact aL (jl [0])
   ·exact aK (jl [0])
   ·exact OS
 ·unfold aa Tryz.f66;try unfold dP
  exact zq1
@[go_sem] def nI (b:Cases)(c:Case)(facts:List Int)(k_0:Nat)(s_0:List Int):Empty⊕(List Int):=(bif(((b.sides.getD (Int.toNat (facts.getD k_0 0)) 0) !=c.winner)&&(!(lN c.facts (facts.getD k_0 0))))then .inr (s_0++([(facts.getD k_0 0)]))else .inr s_0)
def oR (b:Cases)(c:Case)(facts:List Int)(k_0:Nat)(s_0:List Int):Prop:=letI q0:=facts.getD k_0 0;(facts.length<=aA->((0<=q0/\q0< (b.sides.length:Int))/\((((b.sides.getD (Int.toNat q0) 0) !=c.winner)&&(!(lN c.facts q0)))=true->((s_0++([q0])).length*8<=ez))))
def jO (b:Cases)(c:Case)(facts:List Int):List Int:=(match aq (nI b c facts) facts.length 0 ([])with| .inl x=>x.elim| .inr s_0=>s_0)
def oA (b:Cases)(c:Case)(facts:List Int):Prop:=okI (nI b c facts) (oR b c facts) facts.length 0 ([])
@[go_sem] def vY:List SV->Option Con:=(pD .cases fun b=>(pD .case fun c=>(pR .int fun facts=>(pE (.det (oA b c facts) (.rs .int (jO b c facts)))))))
theorem Af:FnOk Tryz.prog 127 vY:=by
 have hG:ConsOk Tryz.prog (mkG [(163,fun l=>xb (aP [.sl .int,.o] l))] []):=am (cgc (zl.norm [.sl .int,.o]) cg0) cg0;refine av [.sl .int] mixed ai hG (fn:=Tryz.f127) (c:=aa Tryz.f127) kr kr kr kr (aF fun b=>(aF fun c=>(a_ fun facts=>(ah (fun hp=>?_)))));dsimp only[an]at hp;unfold oA at hp;refine⟨nbl rfl,(fun id st=>bif Nat.beq id 0 then some (LCR (ρ:=Empty) (σ:=(List Int)) 2 [.slot 7 (.row .int ([]))] [0,1,2] (fun k_0 s_0=>⟨[(2,.rs .int facts),(3,.ptr 0 0),(4,.ptr 1 0),(7,.os 2),(8,.v (.int .i64 (k_0:Int)))],[.cells (cellsOf .cases b),.cells (cellsOf .case c),.row .int s_0]⟩) (nI b c facts) (oR b c facts) facts.length ([]) (True) ((·.elim)) ((·.elim)) st)else none),?_,?_⟩
 ·unfold aa Tryz.f127;simp only[ak,true_and,and_true]
  ·refine cB (facts.length<=aA) mixed ai hG kr (fun _=>rfl) (facts.length:Int) rfl dV (fun hb0 k_0 s_0 hlt0 hq0 hw hc=>⟨L0,ag _,?_⟩) (fun hb0 s_0 hc=>?_) fun hb0 k_0 s_0=>?_
   ·unfold oR at hq0;try simp only[hw,Int.toNat_natCast]at hq0
    exact lB (jl [0,1,4]) (jl [0,1,2])
   ·exact kg (jl [0,1,4]) (jl [0,1,2])
   ·exact zq7
 ·unfold aa Tryz.f127;try unfold jO
  exact zq1
def mV (b:Cases)(facts:List Int)(side:Int):Int:=(bif((dP b) !=0)then(dP b)else(bif(!(fP b facts))then 520 else(bif(!(bp side 0 1))then 1 else 0)))
def ut (b:Cases)(facts:List Int)(side:Int):Prop:=((lO b)/\(((dP b) !=0)=false->(mU b facts)))
@[go_sem] def xZ:List SV->Option Con:=(pD .cases fun b=>(pR .int fun facts=>(pI fun side=>(pE (.det (ut b facts side) (.v (.int .i64 (mV b facts side))))))))
theorem CV:FnOk Tryz.prog 125 xZ:=by
 have hG:ConsOk Tryz.prog (mkG [(66,fun l=>qV (aP [.st .cases] l)),(70,fun l=>rK (aP [.st .cases,.sl .int] l)),(113,pO)] []):=am (cgc (tv.norm [.st .cases]) (cgc (sE.norm [.st .cases,.sl .int]) (cgc r6 cg0))) cg0;refine av [.o] mixed ai hG (fn:=Tryz.f125) (c:=aa Tryz.f125) kr kr kr kr (aF fun b=>(a_ fun facts=>(br fun side=>(ah (fun hp=>?_)))));dsimp only[an]at hp;unfold ut at hp;refine⟨nbl rfl,L0,ag _,?_⟩
 ·unfold aa Tryz.f125;try unfold mV
  exact zq1
@[go_sem] def pW (b:Cases)(facts:List Int)(side:Int)(k_0:Nat)(s_0:Unit):Int⊕Unit:=(bif((((b.cases.getD k_0 default).winner==side)&&(kC ((b.cases.getD k_0 default).reason) facts))&&(((jO b (b.cases.getD k_0 default) facts).length:Int) ==0))then .inl (k_0:Int)else .inr ())
def qH (b:Cases)(facts:List Int)(side:Int)(k_0:Nat)(s_0:Unit):Prop:=(b.cases.length<=aA->((((b.cases.getD k_0 default).winner==side)&&(kC ((b.cases.getD k_0 default).reason) facts))=true->(oA b (b.cases.getD k_0 default) facts)))
def gA (b:Cases)(facts:List Int)(side:Int):Int×Bool×Int:=(bif((mV b facts side) !=0)then(0,false,(mV b facts side))else(match aq (pW b facts side) b.cases.length 0 ()with| .inl x_0_0=>(x_0_0,true,0) | .inr s_0=>(0,false,0)))
def oi (b:Cases)(facts:List Int)(side:Int):Prop:=((ut b facts side)/\(((mV b facts side) !=0)=false->okI (pW b facts side) (qH b facts side) b.cases.length 0 ()))
@[go_sem] def x4:List SV->Option Con:=(pD .cases fun b=>(pR .int fun facts=>(pI fun side=>(pE (.det (oi b facts side) (.tup [.v (.int .i64 ((gA b facts side).1)),.v (.bool ((gA b facts side).2.1)),.v (.int .i64 ((gA b facts side).2.2))]))))))
theorem CW:FnOk Tryz.prog 72 x4:=by
 have hG:ConsOk Tryz.prog (mkG [(125,fun l=>xZ (aP [.st .cases,.sl .int,.o] l)),(126,fun l=>xc (aP [.sl .int,.sl .int] l)),(127,fun l=>vY (aP [.st .cases,.st .case,.sl .int] l))] []):=am (cgc (CV.norm [.st .cases,.sl .int,.o]) (cgc (zn.norm [.sl .int,.sl .int]) (cgc (Af.norm [.st .cases,.st .case,.sl .int]) cg0))) cg0;refine av [.o,.o,.o] mixed ai hG (fn:=Tryz.f72) (c:=aa Tryz.f72) kr kr kr kr (aF fun b=>(a_ fun facts=>(br fun side=>(ah (fun hp=>?_)))));dsimp only[an]at hp;unfold oi at hp;refine⟨nbl rfl,(fun id st=>bif Nat.beq id 0 then some (LCR (ρ:=Int) (σ:=Unit) 1 [] [0] (fun k_0 s_0=>⟨[(1,.rs .int facts),(2,.v (.int .i64 side)),(3,.ptr 0 0),(10,.v (.int .i64 (k_0:Int)))],[.cells (cellsOf .cases b)]⟩) (pW b facts side) (qH b facts side) b.cases.length () (True) (fun _=>.ret) (fun x_0_0=>⟨[(6,.v (.int .i64 x_0_0)),(7,.v (.bool true)),(8,.v (.int .i64 0))],[.dead]⟩) st)else none),?_,?_⟩
 ·unfold aa Tryz.f72;simp only[ak,true_and,and_true]
  ·refine cB (b.cases.length<=aA) mixed ai hG kr (fun _=>rfl) (b.cases.length:Int) rfl dV (fun hb0 k_0 s_0 hlt0 hq0 hw hc=>⟨L0,ag _,?_⟩) (fun hb0 s_0 hc=>?_) fun hb0 k_0 s_0=>?_
   ·unfold qH at hq0;try simp only[hw,Int.toNat_natCast]at hq0
    exact aL (jl [0])
   ·exact aK (jl [0])
   ·exact zq7
 ·unfold aa Tryz.f72;try unfold gA
  exact zq1
@[go_sem] def oB (b:Cases)(facts:List Int)(side:Int)(k_0:Nat)(s_0:List Int):Empty⊕(List Int):=(bif((b.sides.getD (Int.toNat (facts.getD k_0 0)) 0) ==side)then .inr (s_0++([(facts.getD k_0 0)]))else .inr s_0)
def pY (b:Cases)(facts:List Int)(side:Int)(k_0:Nat)(s_0:List Int):Prop:=(facts.length<=aA->((0<=(facts.getD k_0 0)/\(facts.getD k_0 0) < (b.sides.length:Int))/\(((b.sides.getD (Int.toNat (facts.getD k_0 0)) 0) ==side)=true->((s_0++([(facts.getD k_0 0)])).length*8<=ez))))
def nJ (b:Cases)(facts:List Int)(side:Int):List Int:=(match aq (oB b facts side) facts.length 0 ([])with| .inl x=>x.elim| .inr s_0=>s_0)
def mW (b:Cases)(facts:List Int)(side:Int):Prop:=okI (oB b facts side) (pY b facts side) facts.length 0 ([])
@[go_sem] def xe:List SV->Option Con:=(pD .cases fun b=>(pR .int fun facts=>(pI fun side=>(pE (.det (mW b facts side) (.nw .int (nJ b facts side)))))))
theorem A0:FnOk Tryz.prog 73 xe:=by
 have hG:ConsOk Tryz.prog (mkG [] []):=am cg0 cg0;refine Ci true mixed ai hG (fn:=Tryz.f73) (c:=aa Tryz.f73) kr kr kr kr (aF fun b=>(a_ fun facts=>(br fun side=>(ah (fun hp=>?_)))));dsimp only[an]at hp;unfold mW at hp;refine⟨nbl rfl,(fun id st=>bif Nat.beq id 0 then some (LCR (ρ:=Empty) (σ:=(List Int)) 1 [.slot 7 (.row .int ([]))] [0,1] (fun k_0 s_0=>⟨[(1,.rs .int facts),(2,.v (.int .i64 side)),(3,.ptr 0 0),(7,.os 1),(8,.v (.int .i64 (k_0:Int)))],[.cells (cellsOf .cases b),.row .int s_0]⟩) (oB b facts side) (pY b facts side) facts.length ([]) (True) ((·.elim)) ((·.elim)) st)else none),?_,?_⟩
 ·unfold aa Tryz.f73;simp only[ak,true_and,and_true]
  ·refine cB (facts.length<=aA) mixed ai hG kr (fun _=>rfl) (facts.length:Int) rfl dV (fun hb0 k_0 s_0 hlt0 hq0 hw hc=>⟨L0,ag _,?_⟩) (fun hb0 s_0 hc=>?_) fun hb0 k_0 s_0=>?_
   ·unfold pY at hq0;try simp only[hw,Int.toNat_natCast]at hq0
    exact lB (jl [0,3]) (jl [0,1])
   ·exact kg (jl [0,3]) (jl [0,1])
   ·exact zq7
 ·unfold aa Tryz.f73;try unfold nJ
  exact zq1
@[go_sem] def sF (b:Cases)(k_0:Nat)(s_0:Unit):Unit⊕Unit:=(bif((decide ((((b.cases.getD k_0 default).facts).length:Int) > 60)) ||(decide ((((b.cases.getD k_0 default).reason).length:Int) > 60)))then .inl ()else .inr ())
def u3 (b:Cases):Bool:=(bif((decide ((b.cases.length:Int) > 100)) ||(decide ((b.sides.length:Int) > 100)))then false else(match aq (sF b) b.cases.length 0 ()with| .inl x_0_0=>false| .inr s_0=>true))
@[go_sem] def AC:List SV->Option Con:=(pD .cases fun b=>(pE (.det True (.v (.bool (u3 b))))))
theorem FF:FnOk Tryz.prog 62 AC:=by
 have hG:ConsOk Tryz.prog (mkG [] []):=am cg0 cg0;refine av [.o] mixed ai hG (fn:=Tryz.f62) (c:=aa Tryz.f62) kr kr kr kr (aF fun b=>(ah (fun hp=>?_)));dsimp only[an]at hp;refine⟨nbl rfl,(fun id st=>bif Nat.beq id 0 then some (LCR (ρ:=Unit) (σ:=Unit) 1 [] [0] (fun k_0 s_0=>⟨[(1,.ptr 0 0),(3,.v (.int .i64 (k_0:Int)))],[.cells (cellsOf .cases b)]⟩) (sF b) pT b.cases.length () (True) (fun _=>.ret) (fun x_0_0=>⟨[(2,.v (.bool false))],[.dead]⟩) st)else none),?_,?_⟩
 ·unfold aa Tryz.f62;simp only[ak,true_and,and_true]
  ·refine cB (b.cases.length<=aA) mixed ai hG kr (fun _=>rfl) (b.cases.length:Int) rfl dV (fun hb0 k_0 s_0 hlt0 _ hw hc=>⟨L0,ag _,?_⟩) (fun hb0 s_0 hc=>?_) fun hb0 k_0 s_0=>?_
   ·exact aL (jl [0])
   ·exact aK (jl [0])
   ·exact zq7
 ·unfold aa Tryz.f62;try unfold u3
  exact zq1
end Go.Sx
end
section
namespace Go.Sx
open Go.RowKit
def U6 (h:List Ob):Option Con->Option HCon
 |some (.det p s) =>some (je p (FD 0 (aJ 3 s) (ig 3 0 s)) (h.map fun _=>.dead))
 |_=>none
def eatC (C:List SV->Option Con)(l:List SV)(h:List Ob):Option HCon:=U6 h (C (l.map (eW h 6)))
@[go_sem] theorem abG {C:List SV->Option Con}{l:List SV}{h:List Ob}:eatC C l h=U6 h (C (l.map (eW h 6))):=(rfl)
@[go_sem] theorem ZT {h:List Ob}{p:Prop}{s:SV}:U6 h (some (.det p s))=some (je p (FD 0 (aJ 3 s) (ig 3 0 s)) (h.map fun _=>.dead)):=(rfl)
section
variable {P:Program}{F:Nat->Prop}{own:Own}{w w':World}
def OT (own:Own):Own:=fun i=>(own i).map fun hd=>{ hd with bs:=[]}
theorem RK {b:Nat}(hb:¬F b):¬bM F (OT own) b:=by
 rintro (hf| ⟨id,hd,e,hm⟩)
 ·exact hb hf
 ·unfold OT at e;cases h:own id with
  |none=>rw[h]at e;cases e
  |some x=>rw[h]at e;cases e;cases hm
end
def KU (h:List Ob):Option Con->Option HCon
 |some (.det p s) =>some (je p (Dx 0 (aJ 3 s) (ig 3 0 s)) (h.map fun _=>.dead))
 |_=>none
def Hz (C:List SV->Option Con)(l:List SV)(h:List Ob):Option HCon:=KU h (C (l.map (eW h 6)))
@[go_sem] theorem ZU {C:List SV->Option Con}{l:List SV}{h:List Ob}:Hz C l h=KU h (C (l.map (eW h 6))):=(rfl)
@[go_sem] theorem Xz {h:List Ob}{p:Prop}{s:SV}:KU h (some (.det p s))=some (je p (Dx 0 (aJ 3 s) (ig 3 0 s)) (h.map fun _=>.dead)):=(rfl)
section
variable {P:Program}{F:Nat->Prop}{own:Own}{w w':World}
theorem FnOk.eat2 {f:FuncId}{C:List SV->Option Con}(hf:FnOk P f C):FnOkO P f (Hz C) where
 enter:=fun l h c e=>by
  unfold Hz at e;cases hc:C (l.map (eW h 6))with
  |none=>rw[hc]at e;cases e
  |some c'=>exact hf.enter _ c' hc
 calls:=fun l h c e hp F own w vs hH hr=>by
  unfold Hz at e;cases hc:C (l.map (eW h 6))with
  |none=>rw[hc]at e;cases e
  |some c'=>
   rw[hc]at e;cases c' with
   |det p s=>
    simp only[KU,Option.some.injEq]at e;subst e;have n0:∀ {F':Nat->Prop} {w1:World},(∀ b,F' b->b<w1.heap.size)->Hp F' ct w1 []:=fun hf=>⟨(fun id hd h=>by cases h),hf,(fun id hd b h=>by cases h),(fun i j hi hj b h=>by cases h),(fun id hd b h=>by cases h),(fun id h=>by cases h)⟩;have hE:∀ {id:Nat} {hd:Hd},OT own id=some hd->hd.bs=[]/\id<h.length:=fun {id hd} h=>by
     unfold OT at h;cases ho:own id with
     |none=>rw[ho]at h;cases h
     |some x=>rw[ho]at h;cases h;exact⟨rfl,hH.dom id x ho⟩
    refine(hf.calls _ _ hc hp F w vs hH.foreign ⟨by simpa using hr.1,fun j s hj=>?_⟩).mono ?_
    ·obtain⟨x,hx,rfl⟩:=ca hj;exact vt hH 6 x _ (hr.2 j x hx)
    ·rintro e w' (⟨s',u,own',h1,h2,h3,h4⟩ | ⟨x,hx,_⟩)
     ·cases h1;obtain⟨own2,q1,q2,q3,q4⟩:=zU (n0 hH.foreign) (.inl fun b=>⟨fun h=>.inl h,fun h=>h.elim id fun⟨_,_,h,_⟩ =>by cases h⟩) h4 h3;have q5:=Hw (n0:=0) q1 _ _ q3;refine⟨(),OT own,trivial,⟨u,h2,?_⟩,?_,?_,by simp⟩
      ·refine q5.carry ⟨fun id hd h=>by simp[Dv]at h,fun b _ hb=>⟨RK fun hf=>hb (.inl hf),rfl⟩⟩
      ·refine⟨fun id hd h=>by rw[List.length_map];exact(hE h).2,fun b hb=>Nat.lt_of_lt_of_le (hH.foreign b hb) h4.size,fun id hd b h hm=>?_,fun i j hi hj b h _ hm=>?_,fun id hd b h hm=>?_,fun id hd=>?_⟩
       ·rw[(hE h).1]at hm;cases hm
       ·rw[(hE h).1]at hm;cases hm
       ·rw[(hE h).1]at hm;cases hm
       ·rw[qP,List.getElem?_map]at hd;cases ho:h[id]? <;>rw[ho]at hd <;>simp[co]at hd
      ·refine⟨fun id hd h=>?_,fun id hd b h hm=>?_,h4.os,h4.tape,h4.output,h4.size,fun k hk=>h4.block k hk.1⟩
       ·exact⟨{ hd with bs:=[]},by show(own id).map _=_;rw[show own id=some hd from h];rfl,rfl,rfl,rfl⟩
       ·rw[(hE h).1]at hm;cases hm
     ·cases hx
   |_=>cases e
end
end Go.Sx
end
section
namespace Go.Sx
open Go.Proofs
open IntKind (i64)
def mX:=([(eC 0 0 3 4),(eC 1 1 3 4),(eC 2 0 3 1),(eC 0 0 5 4)])
def pZ:=([({ no:=0,hour:=0,kind:=1,farm:=0,other:=0,since:=0,to:=0,n:=1,of_:=0}:Judgement)])
def kD:=([({ no:=1,hour:=0,kind:=3,farm:=0,other:=2,since:=0,to:=7,n:=5,of_:=0}:Judgement)])
def mY:=([(eC 0 0 3 3),(eC 0 2 3 1),(eC 1 1 3 4),(eC 2 2 3 4),(eC 0 2 5 4)])
def mZ:=(fq b7 pZ)
def iW:=(eT b7 iA kD)
def m_:=(iW.1)
def fh:=([({ no:=1,hour:=3,kind:=2,farm:=0,other:=0,since:=0,to:=4,n:=5,of_:=0}:Judgement),({ no:=2,hour:=4,kind:=4,farm:=1,other:=2,since:=0,to:=0,n:=9,of_:=0}:Judgement)])
def na:=([({ no:=4,hour:=0,question:=1,plea:=({ facts:=[1],clauses:=[]}:Plea),facts:=[0,1]}:Suit),({ no:=5,hour:=0,question:=2,plea:=({ facts:=[],clauses:=[]}:Plea),facts:=[0]}:Suit)])
def g6:=(ft b7 fh 4)
def gj:=(g6.1)
def iX:=(eT b7 iA fh)
def nf:=(iX.1)
def d5:=(gj.length:Int)
def nh:=(gj.getD 2 (0:Int))
def kE:=(gj.getD 1 (0:Int))
def iY:=(gj.getD 0 (0:Int))
def ni:=(d7 ({ sides:=[0,1],cases:=[]}:Cases) na)
def jP:=(ni.2)
def oj:=(qz m_ mY)
def jQ:=((ni.1).cases)
def eI:=(jQ.length:Int)
def jR:=(jQ.getD 1 (default:Case))
def ga:=(jQ.getD 0 (default:Case))
def lP:=(ga.reason)
def jS:=(lP.length:Int)
def lQ:=(lP.getD 0 (0:Int))
def ol:=(qz nf mX)
def qI:Bool:=(bif(((((iX.2 !=0) ||(iW.2 !=0)) ||(g6.2 !=0)) ||((ft b7 ([]) 9).2 !=1)) ||(mZ !=530))then false else(bif(!ol)then false else(bif(!oj)then false else(bif((((d5 !=3) ||(iY !=0)) ||(kE !=9)) ||(nh !=(-9)))then false else(bif(((jP !=0) ||(eI !=2)) ||(jS !=1))then false else((((ga.winner==0)&&(lQ==0))&&(jR.winner==0))&&(jR.no==5)))))))
def p5:Prop:=((qS)/\((eQ b7 iA fh)/\((eQ b7 iA kD)/\((eR b7 fh 4)/\((eR b7 ([]) 9)/\((((((iX.2 !=0) ||(iW.2 !=0)) ||(g6.2 !=0)) ||((ft b7 ([]) 9).2 !=1))=false->(eu b7 pZ))/\((((((iX.2 !=0) ||(iW.2 !=0)) ||(g6.2 !=0)) ||((ft b7 ([]) 9).2 !=1)) ||(mZ !=530))=false->((pA nf mX)/\((!ol)=false->((pA m_ mY)/\((!oj)=false->(gj.length<=aA->(((d5 !=3)=false->(0<=0/\0<d5))/\((((d5 !=3) ||(iY !=0))=false->(0<=1/\1<d5))/\(((((d5 !=3) ||(iY !=0)) ||(kE !=9))=false->(0<=2/\2<d5))/\(((((d5 !=3) ||(iY !=0)) ||(kE !=9)) ||(nh !=(-9)))=false->((gz ({ sides:=[0,1],cases:=[]}:Cases) na)/\((((jP !=0) ||(eI !=2))=false->(0<=0/\0<eI))/\((((jP !=0) ||(eI !=2)) ||(jS !=1))=false->((0<=0/\0<eI)/\(((ga.winner==0)=true->(0<=0/\0<eI))/\(((ga.winner==0)=true->(0<=0/\0<jS))/\((((ga.winner==0)&&(lQ==0))=true->(0<=1/\1<eI))/\((((ga.winner==0)&&(lQ==0))&&(jR.winner==0))=true->(0<=1/\1<eI)))))))))))))))))))))))))
@[go_sem] def zo:List SV->Option Con:=(pE (.det (p5) (.v (.bool (qI)))))
theorem Dy:FnOk Tryz.prog 10 zo:=by
 have hG:ConsOk Tryz.prog (mkG [(12,fun l=>so (aP [.st .district,.sl .claim,.sl .judgement] l)),(14,fun l=>t7 (aP [.st .district,.sl .judgement,.o] l)),(16,fun l=>mj (aP [.st .district,.sl .judgement] l)),(18,fun l=>za (aP [.sl .claim,.sl .claim] l)),(38,xW),(39,xX),(40,ul)] [(21,Hz (fun l=>oz (aP [.st .cases,.sl .suit] l)))]):=am (cgc (w5.norm [.st .district,.sl .claim,.sl .judgement]) (cgc (yy.norm [.st .district,.sl .judgement,.o]) (cgc (oN.norm [.st .district,.sl .judgement]) (cgc (Dt.norm [.sl .claim,.sl .claim]) (cgc CG (cgc CH (cgc wS cg0))))))) (cgc (FnOk.eat2 (u0.norm [.st .cases,.sl .suit])) cg0);refine av [.o] mixed ai hG (fn:=Tryz.f10) (c:=aa Tryz.f10) kr kr kr kr (ah (fun hp=>?_));dsimp only[an]at hp;unfold p5 at hp;try simp only[mX,pZ,kD,mY,mZ,iW,m_,fh,na,g6,gj,iX,nf,d5,nh,kE,iY,ni,jP,oj,jQ,eI,jR,ga,lP,jS,lQ,ol]at hp
 refine⟨nbl rfl,L0,ag _,?_⟩
 ·unfold aa Tryz.f10;try unfold qI
  simp (maxSteps:=1000000) only[go_sem,Nat.reduceBEq,Nat.reduceLeDiff,Nat.reduceLT,decide_true,Nat.reduceAdd,Nat.reduceSub,Nat.reduceMul,Int.reduceLE,Int.reduceLT,Int.reduceToNat,Int.reduceNeg,reduceCtorEq,mX,pZ,kD,mY,mZ,iW,m_,fh,na,g6,gj,iX,nf,d5,nh,kE,iY,ni,jP,oj,jQ,eI,jR,ga,lP,jS,lQ,ol];all_goals exact cl
instance decR {ρ σ:Type}{P:σ->Prop}[∀ s,Decidable (P s)]:(x:ρ⊕σ)->Decidable (∀ s,x=.inr s->P s)
 | .inl _=>.isTrue fun _ e=>nomatch e
 | .inr s=>match (inferInstance:Decidable (P s))with
  | .isTrue h=>.isTrue fun _ e=>by cases e;exact h
  | .isFalse h=>.isFalse fun g=>h (g s rfl)
instance decX {ρ σ:Type}{P:ρ->Prop}[∀ s,Decidable (P s)]:(x:ρ⊕σ)->Decidable (∀ s,x=.inl s->P s)
 | .inr _=>.isTrue fun _ e=>nomatch e
 | .inl s=>match (inferInstance:Decidable (P s))with
  | .isTrue h=>.isTrue fun _ e=>by cases e;exact h
  | .isFalse h=>.isFalse fun g=>h (g s rfl)
instance decN {ρ σ:Type}:(x:ρ⊕σ)->Decidable (∀ s,x≠ .inr s)
 | .inl _=>.isTrue fun _ e=>nomatch e
 | .inr s=>.isFalse fun g=>g s rfl
def ZV {ρ σ:Type}(step:Nat->σ->ρ⊕σ)(p:Nat->σ->Prop)(D:∀ k s,Decidable (p k s)):(n i:Nat)->(s:σ)->Decidable (okI step p n i s)
 |0,_,_=>.isTrue trivial
 |n+1,i,s=>match D i s with
  | .isFalse h=>.isFalse fun g=>h g.1
  | .isTrue h=>match e:step i s with
   | .inl _=>.isTrue ⟨h,fun s' e'=>by rw[e]at e';cases e'⟩
   | .inr s'=>match ZV step p D n (i+1) s' with
    | .isTrue g=>.isTrue ⟨h,fun s'' e'=>by rw[e]at e';cases e';exact g⟩
    | .isFalse g=>.isFalse fun q=>g (q.2 s' e)
def ZW {ρ σ τ:Type}(step:τ->σ->ρ⊕σ)(p:τ->σ->Prop)(D:∀ k s,Decidable (p k s)):(l:List τ)->(s:σ)->Decidable (okL step p l s)
 | [],_=>.isTrue trivial
 |x::l,s=>match D x s with
  | .isFalse h=>.isFalse fun g=>h g.1
  | .isTrue h=>match e:step x s with
   | .inl _=>.isTrue ⟨h,fun s' e'=>by rw[e]at e';cases e'⟩
   | .inr s'=>match ZW step p D l s' with
    | .isTrue g=>.isTrue ⟨h,fun s'' e'=>by rw[e]at e';cases e';exact g⟩
    | .isFalse g=>.isFalse fun q=>g (q.2 s' e)
instance decI' {ρ σ:Type}{step:Nat->σ->ρ⊕σ}{p:Nat->σ->Prop}[D:∀ k s,Decidable (p k s)]{n i:Nat}{s:σ}:Decidable (okI step p n i s):=ZV step p D n i s
instance decL' {ρ σ τ:Type}{step:τ->σ->ρ⊕σ}{p:τ->σ->Prop}[D:∀ k s,Decidable (p k s)]{l:List τ}{s:σ}:Decidable (okL step p l s):=ZW step p D l s
instance precedents_read_l0_p_d (a0:Cases)(k_0:Nat)(s_0:Int×Int):Decidable (dM a0 k_0 s_0):=by unfold dM;repeat (first|infer_instance|refine @instDecidableAnd _ _ ?_ ?_|refine @instDecidableForall _ _ ?_ ?_)
instance precedents_of_l0_p_d (l_:List Int)(many:Int)(k_0:Nat)(s_0:Int×Int):Decidable (iJ l_ many k_0 s_0):=by unfold iJ;repeat (first|infer_instance|refine @instDecidableAnd _ _ ?_ ?_|refine @instDecidableForall _ _ ?_ ?_)
instance precedents_of_p_d (l_:List Int)(many:Int):Decidable (gl l_ many):=by unfold gl;repeat (first|infer_instance|refine @instDecidableAnd _ _ ?_ ?_|refine @instDecidableForall _ _ ?_ ?_)
instance precedents_read_l1_p_d (a0:Cases)(s_0:Int×Int)(k_1:Nat)(s_1:List PrecedentsDecided×Int×Int×Int):Decidable (dN a0 s_0 k_1 s_1):=by unfold dN;repeat (first|infer_instance|refine @instDecidableAnd _ _ ?_ ?_|refine @instDecidableForall _ _ ?_ ?_)
instance precedents_read_p_d (a0:Cases):Decidable (gb a0):=by unfold gb;repeat (first|infer_instance|refine @instDecidableAnd _ _ ?_ ?_|refine @instDecidableForall _ _ ?_ ?_)
instance precedents_Check_p_d (b:Cases):Decidable (fB b):=by unfold fB;repeat (first|infer_instance|refine @instDecidableAnd _ _ ?_ ?_|refine @instDecidableForall _ _ ?_ ?_)
instance pleas_rising_l0_p_d (l_:List Int)(k_0:Nat)(s_0:Unit):Decidable (jy l_ k_0 s_0):=by unfold jy;repeat (first|infer_instance|refine @instDecidableAnd _ _ ?_ ?_|refine @instDecidableForall _ _ ?_ ?_)
instance pleas_rising_p_d (l_:List Int):Decidable (iM l_):=by unfold iM;repeat (first|infer_instance|refine @instDecidableAnd _ _ ?_ ?_|refine @instDecidableForall _ _ ?_ ?_)
instance pleas_Check_l0_p_d (a0:Plea)(k_0:Nat)(s_0:Bool×Int):Decidable (kB a0 k_0 s_0):=by unfold kB;repeat (first|infer_instance|refine @instDecidableAnd _ _ ?_ ?_|refine @instDecidableForall _ _ ?_ ?_)
instance pleas_strict_p_d (p:Plea):Decidable (gZ p):=by unfold gZ;repeat (first|infer_instance|refine @instDecidableAnd _ _ ?_ ?_|refine @instDecidableForall _ _ ?_ ?_)
theorem HA {ρ σ:Type}{step:Nat->σ->ρ⊕σ}{p q:Nat->σ->Prop}(h:∀ k s,p k s->q k s):∀ (n i:Nat) (s:σ),okI step p n i s->okI step q n i s
 |0,_,_,_=>trivial
 |n+1,i,s,g=>⟨h i s g.1,fun s' e=>HA h n (i+1) s' (g.2 s' e)⟩
def U7 (k_0:Nat)(s_0:List Int×Int):Prop:=(decide (s_0.2<=32))=true->(s_0.2 !=0)=true->ax[s_0.1.length]? =some s_0.2
instance litq_d (k_0:Nat)(s_0:List Int×Int):Decidable (U7 k_0 s_0):=by unfold U7;infer_instance
theorem OU:eF ((ax).map CS):=by
 refine⟨HA (p:=U7) (fun k s h=>?_) 66 0 _ (of_decide_eq_true kr),of_decide_eq_true kr,fun x e=>?_⟩
 ·intro h1;refine⟨fun h2=>?_,fun h2=>h2⟩;rw[List.getElem?_map,h h1 h2];rfl
 ·rw[List.length_map];unfold ax;rw[e]
instance pleas_literals_1_p_d:Decidable (eF ((ax).map CS)):=.isTrue OU
instance pleas_Check_p_d (a0:Plea):Decidable (iC a0):=by unfold iC;repeat (first|infer_instance|refine @instDecidableAnd _ _ ?_ ?_|refine @instDecidableForall _ _ ?_ ?_)
instance pleas_court_derive_l1_p_d (facts:List Int)(clauses:List Clause)(strict_:List (Int×Bool))(s_0:List (Int×Int)×List Reason)(z_1:Int)(s_1:List Reason):Decidable (cK facts clauses strict_ s_0 z_1 s_1):=by unfold cK;repeat (first|infer_instance|refine @instDecidableAnd _ _ ?_ ?_|refine @instDecidableForall _ _ ?_ ?_)
instance pleas_court_derive_l0_p_d (facts:List Int)(clauses:List Clause)(strict_:List (Int×Bool))(k_0:Nat)(s_0:List (Int×Int)×List Reason):Decidable (fK facts clauses strict_ k_0 s_0):=by unfold fK;repeat (first|infer_instance|refine @instDecidableAnd _ _ ?_ ?_|refine @instDecidableForall _ _ ?_ ?_)
instance pleas_court_derive_p_d (facts:List Int)(clauses:List Clause)(strict_:List (Int×Bool))(known_:List (Int×Int)):Decidable (dO facts clauses strict_ known_):=by unfold dO;repeat (first|infer_instance|refine @instDecidableAnd _ _ ?_ ?_|refine @instDecidableForall _ _ ?_ ?_)
instance pleas_Answer_p_d (p:Plea)(q:Int):Decidable (iV p q):=by unfold iV;repeat (first|infer_instance|refine @instDecidableAnd _ _ ?_ ?_|refine @instDecidableForall _ _ ?_ ?_)
instance precedents_ask_p_d (b:Cases)(l_:List Int)(side:Int):Decidable (iE b l_ side):=by unfold iE;repeat (first|infer_instance|refine @instDecidableAnd _ _ ?_ ?_|refine @instDecidableForall _ _ ?_ ?_)
instance precedents_court_missing_p_d (c:PrecedentsCourt)(x:PrecedentsDecided)(facts:Int):Decidable (eA c x facts):=by unfold eA;repeat (first|infer_instance|refine @instDecidableAnd _ _ ?_ ?_|refine @instDecidableForall _ _ ?_ ?_)
instance precedents_Binds_1_p_d (x:PrecedentsDecided)(side_:Int)(facts_:Int)(c_:PrecedentsCourt):Decidable (fD x side_ facts_ c_):=by unfold fD;repeat (first|infer_instance|refine @instDecidableAnd _ _ ?_ ?_|refine @instDecidableForall _ _ ?_ ?_)
instance precedents_first_precedents_decided_b_l0_p_d (l_:List PrecedentsDecided)(side_:Int)(facts_:Int)(c_:PrecedentsCourt)(k_0:Nat)(s_0:Int):Decidable (ba l_ side_ facts_ c_ k_0 s_0):=by unfold ba;repeat (first|infer_instance|refine @instDecidableAnd _ _ ?_ ?_|refine @instDecidableForall _ _ ?_ ?_)
instance precedents_first_precedents_decided_b_p_d (l_:List PrecedentsDecided)(fr:Int)(side_:Int)(facts_:Int)(c_:PrecedentsCourt):Decidable (bN l_ fr side_ facts_ c_):=by unfold bN;repeat (first|infer_instance|refine @instDecidableAnd _ _ ?_ ?_|refine @instDecidableForall _ _ ?_ ?_)
instance precedents_Binds_p_d (b:Cases)(l_:List Int)(side:Int):Decidable (dR b l_ side):=by unfold dR;repeat (first|infer_instance|refine @instDecidableAnd _ _ ?_ ?_|refine @instDecidableForall _ _ ?_ ?_)
instance judgement_Decide_k_l0_p_d (sides:List Int)(a1:Suit)(k_0:Nat)(s_0:List Int):Decidable (fL sides a1 k_0 s_0):=by unfold fL;repeat (first|infer_instance|refine @instDecidableAnd _ _ ?_ ?_|refine @instDecidableForall _ _ ?_ ?_)
instance judgement_Decide_k_l1_p_d (sides:List Int)(a1:Suit)(k_1:Nat)(s_1:List Int):Decidable (fM sides a1 k_1 s_1):=by unfold fM;repeat (first|infer_instance|refine @instDecidableAnd _ _ ?_ ?_|refine @instDecidableForall _ _ ?_ ?_)
instance judgement_Decide_k_l2_p_d (sides:List Int)(a1:Suit)(k_2:Nat)(s_2:List Int):Decidable (fN sides a1 k_2 s_2):=by unfold fN;repeat (first|infer_instance|refine @instDecidableAnd _ _ ?_ ?_|refine @instDecidableForall _ _ ?_ ?_)
instance judgement_Decide_k_l3_p_d (sides:List Int)(a1:Suit)(k_3:Nat)(s_3:List Int):Decidable (fO sides a1 k_3 s_3):=by unfold fO;repeat (first|infer_instance|refine @instDecidableAnd _ _ ?_ ?_|refine @instDecidableForall _ _ ?_ ?_)
instance judgement_Decide_k_p_d (sides:List Int)(a1:Suit)(cs:List Case):Decidable (cX sides a1 cs):=by unfold cX;repeat (first|infer_instance|refine @instDecidableAnd _ _ ?_ ?_|refine @instDecidableForall _ _ ?_ ?_)
instance judgement_Sit_l0_p_d (sides:List Int)(l_:List Suit)(k_0:Nat)(s_0:List Case):Decidable (eG sides l_ k_0 s_0):=by unfold eG;repeat (first|infer_instance|refine @instDecidableAnd _ _ ?_ ?_|refine @instDecidableForall _ _ ?_ ?_)
instance judgement_Sit_p_d (a0:Cases)(l_:List Suit):Decidable (gz a0 l_):=by unfold gz;repeat (first|infer_instance|refine @instDecidableAnd _ _ ?_ ?_|refine @instDecidableForall _ _ ?_ ?_)
theorem Je {ρ σ:Type}{step:Nat->σ->ρ⊕σ}(m:σ->Nat)(h:∀ k s s',step k s=.inr s'->m s'<m s):∀ (n i:Nat) (s:σ),m s<n->∀ z,aq step n i s≠ .inr z
 |0,_,_,hm,_=>absurd hm (Nat.not_lt_zero _)
 |n+1,i,s,hm,z=>by
  rw[aq];cases hs:step i s with
  |inl x=>simp
  |inr s'=>
   have:=h i s s' hs;exact Je m h n (i+1) s' (by omega) z
theorem HB {ρ σ:Type}{step:Nat->σ->ρ⊕σ}:∀ (n i:Nat) (s:σ) {x:ρ},aq step n i s=.inl x->∃ k s',i<=k/\k<i+n/\step k s'=.inl x
 |0,_,_,_,h=>by cases h
 |n+1,i,s,x,h=>by
  rw[aq]at h;cases hs:step i s with
  |inl y=>
   rw[hs]at h;simp only[Sum.inl.injEq]at h;subst h;exact⟨i,s,by omega,by omega,hs⟩
  |inr s'=>
   rw[hs]at h;obtain⟨k,s2,h1,h2,h3⟩:=HB n (i+1) s' h;exact⟨k,s2,by omega,by omega,h3⟩
theorem zp {α:Type}{P Q:α->Bool}:∀ {l:List α},(∀ x∈l,Q x=true->P x=true)->(∃ y∈l,P y=true/\Q y=false)->(l.filter Q).length< (l.filter P).length
 | [],_,⟨y,hy,_⟩ =>by cases hy
 |x::l,h,⟨y,hy,h1,h2⟩ =>by
  have le:∀ l:List α,(∀ x∈l,Q x=true->P x=true)->(l.filter Q).length<=(l.filter P).length:=fun l=>by
   induction l with
   |nil=>intro _;exact Nat.le_refl _
   |cons a l ih=>
    intro hl;have i:=ih fun x hx=>hl x (by simp[hx]);have ha:=hl a (by simp);by_cases q:Q a=true
    ·rw[List.filter_cons_of_pos q,List.filter_cons_of_pos (ha q)];simp only[List.length_cons];omega
    ·rw[List.filter_cons_of_neg q];by_cases p:P a=true
     ·rw[List.filter_cons_of_pos p];simp only[List.length_cons];omega
     ·rw[List.filter_cons_of_neg p];exact i
  have hl:∀ z∈l,Q z=true->P z=true:=fun z hz=>h z (by simp[hz]);rcases List.mem_cons.1 hy with rfl|hy
  ·rw[List.filter_cons_of_pos h1,List.filter_cons_of_neg (by rw[h2];simp)];have:=le l hl;simp only[List.length_cons];omega
  ·have i:=zp hl ⟨y,hy,h1,h2⟩;by_cases q:Q x=true
   ·rw[List.filter_cons_of_pos q,List.filter_cons_of_pos (h x (by simp) q)];simp only[List.length_cons];omega
   ·rw[List.filter_cons_of_neg q];by_cases p:P x=true
    ·rw[List.filter_cons_of_pos p];simp only[List.length_cons];omega
    ·rw[List.filter_cons_of_neg p];exact i
theorem HC (p:Plea):gZ p:=fun _ s0 _=>by
 refine Je (fun s=>(p.clauses.filter fun c=>!bg .int .bool s c.then_).length) (fun k s s' hs=>?_) _ _ _ (by have:=List.length_filter_le (fun c:Clause=>!bg .int .bool s0 c.then_) p.clauses;omega);unfold ji at hs;cases hr:aq (lG p s) p.clauses.length 0 ()with
 |inr u=>rw[hr]at hs;cases hs
 |inl x=>
  rw[hr]at hs;simp only[Sum.inr.injEq]at hs;subst hs;obtain⟨k2,_,_,h2,h3⟩:=HB _ _ _ hr;unfold lG at h3;cases hc:(((p.clauses.getD k2 (default:Clause)).strict&&(!(bg .int .bool s ((p.clauses.getD k2 (default:Clause)).then_))))&&(!(bT ((p.clauses.getD k2 (default:Clause)).if_) s)))with
  |false=>rw[hc]at h3;cases h3
  |true=>
   rw[hc]at h3;simp only[cond_true,Sum.inl.injEq]at h3;subst h3;rw[Bool.and_eq_true,Bool.and_eq_true]at hc;have hk:k2<p.clauses.length:=by omega
   refine zp (fun c _ h=>?_) ⟨p.clauses.getD k2 default,?_,hc.1.2,?_⟩
   ·rw[uS]at h;split at h
    ·cases h
    ·exact h
   ·rw[List.getD_eq_getElem?_getD,List.getElem?_eq_getElem hk];exact List.getElem_mem hk
   ·rw[uS,if_pos rfl];rfl
theorem HD (l:List Int):iM l:=fun hl=>j4 _ _ _ fun j _ _ hj _ h0=>by
 have h0:=of_decide_eq_true h0;unfold aA at hl;rw[mb (by omega) (by omega)];omega
theorem HE (p:Plea):iC p:=fun _ _=>⟨HD _,fun _=>⟨j4 _ _ _ fun j _ _ _ _=>HD _,fun _ _ _=>⟨HC p,OU⟩⟩⟩
theorem FG:ax.length=64:=by kernel_rfl
theorem Jf (facts:List Int)(clauses:List Clause)(st:List (Int×Bool))(s0:List (Int×Int)×List Reason):∀ (L:List Int) (s:List Reason),s.length+L.length<=1000->(∀ x∈s,x.literal∈ax/\bg .int .int s0.1 x.literal=0)->(∀ q∈L,q∈ax)->
  okL (ay facts clauses st s0) (cK facts clauses st s0) L s/\∃ s1,kf (ay facts clauses st s0) L s=.inr s1/\s1.length<=s.length+L.length/\∀ x∈s1,x.literal∈ax/\bg .int .int s0.1 x.literal=0
 | [],s,_,hs,_=>⟨trivial,s,rfl,by simp,hs⟩
 |q::L,s,hn,hs,hL=>by
  simp only[List.length_cons]at hn;have hq:=hL q (by simp);have hb:∀ x:Reason,(s++[x]).length*24<=ez:=fun x=>by
   simp only[List.length_append,List.length_singleton];unfold ez;omega
  have hp:cK facts clauses st s0 q s:=fun _=>⟨fun _=>hb _,fun _=>⟨fun _=>hb _,fun _ _=>hb _⟩⟩;have key:ay facts clauses st s0 q s=.inr s\/∃ x:Reason,x.literal=q/\bg .int .int s0.1 q=0/\ay facts clauses st s0 q s=.inr (s++[x]):=by
   unfold ay;cases h1:(bg .int .int s0.1 q) !=0 with
   |true=>exact .inl rfl
   |false=>
    have h1:bg .int .int s0.1 q=0:=by simpa using h1
    simp only[cond_false];cases bg .int .bool st q with
    |true=>exact .inr ⟨_,rfl,h1,rfl⟩
    |false=>
     simp only[cond_false];cases dg ({ plea:=({ facts:=facts,clauses:=clauses}:Plea),strict:=st,known:=s0.1}:PleasCourt) q with
     |true=>exact .inr ⟨_,rfl,h1,rfl⟩
     |false=>
      simp only[cond_false];cases cL ({ plea:=({ facts:=facts,clauses:=clauses}:Plea),strict:=st,known:=s0.1}:PleasCourt) q with
      |true=>exact .inr ⟨_,rfl,h1,rfl⟩
      |false=>exact .inl rfl
  rcases key with e| ⟨x,e1,e2,e⟩
  ·obtain⟨i1,s1,i2,i3,i4⟩:=Jf facts clauses st s0 L s (by omega) hs fun z hz=>hL z (by simp[hz]);refine⟨⟨hp,fun s' h=>by rw[e]at h;simp only[Sum.inr.injEq]at h;subst h;exact i1⟩,s1,by simp only[kf,e];exact i2,by simp only[List.length_cons];omega,i4⟩
  ·obtain⟨i1,s1,i2,i3,i4⟩:=Jf facts clauses st s0 L (s++[x]) (by simp only[List.length_append,List.length_singleton];omega) (fun z hz=>by
    rcases List.mem_append.1 hz with hz|hz
    ·exact hs z hz
    ·rw[List.mem_singleton.1 hz,e1];exact⟨hq,e2⟩) fun z hz=>hL z (by simp[hz])
   refine⟨⟨hp,fun s' h=>by rw[e]at h;simp only[Sum.inr.injEq]at h;subst h;exact i1⟩,s1,by simp only[kf,e];exact i2,?_,i4⟩;simp only[List.length_append,List.length_cons,List.length_nil]at i3 |-;omega
theorem OV (x:Reason)(facts:List Int)(clauses:List Clause)(st:List (Int×Bool))(k:List (Int×Int))(q:Int):(q=x.literal->(bg .int .int (ew x facts clauses st k) q:Int)≠0)/\((bg .int .int k q:Int)≠0->(bg .int .int (ew x facts clauses st k) q:Int)≠0):=by
 have hu:∀ (m:List (Int×Int)) (v:Int),(bg .int .int (iH .int .int m x.literal v) q:Int)=if q=x.literal then v else bg .int .int m q:=fun m v=>uS (kk:=.int) (vk:=.int) m x.literal q v;unfold ew;cases x.proved with
 |true=>
  simp only[cond_true];rw[hu,hu];exact⟨fun h=>by rw[if_pos h];decide,fun h=>by split;decide;exact h⟩
 |false=>
  simp only[cond_false];rw[hu];exact⟨fun h=>by rw[if_pos h];decide,fun h=>by split;decide;exact h⟩
theorem Jg (facts:List Int)(clauses:List Clause)(st:List (Int×Bool))(s1:List Reason):∀ (R A:List Reason) (k:List (Int×Int)),s1=A++R->∃ k',aq (eo facts clauses st s1) R.length A.length k=.inr k'/\∀ q:Int,((∃ x∈R,q=x.literal)\/(bg .int .int k q:Int)≠0)->(bg .int .int k' q:Int)≠0
 | [],A,k,_=>⟨k,rfl,fun q h=>by
  rcases h with⟨x,hx,_⟩ |h
  ·cases hx
  ·exact h⟩
 |y::R,A,k,h=>by
  have g:s1.getD A.length default=y:=by rw[h];exact gP A y default R rfl
  obtain⟨k',h1,h2⟩:=Jg facts clauses st s1 R (A++[y]) (ew y facts clauses st k) (by rw[h];simp);rw[List.length_append,List.length_singleton]at h1;refine⟨k',by simp only[List.length_cons,aq,eo,g];exact h1,fun q hq=>h2 q ?_⟩;obtain⟨l1,l2⟩:=OV y facts clauses st k q;rcases hq with⟨x,hx,e⟩ |hq
  ·rcases List.mem_cons.1 hx with rfl|hx
   ·exact .inr (l1 e)
   ·exact .inl ⟨x,hx,e⟩
  ·exact .inr (l2 hq)
theorem OW (facts:List Int)(clauses:List Clause)(st:List (Int×Bool)):dO facts clauses st []:=by
 have hll:=FG;have D:=fun s0=>Jf facts clauses st s0 ax [] (by simp only[List.length_nil];omega) (fun x hx=>by cases hx) fun q hq=>hq;refine⟨y6 (fun k s=>s.2.length<=64*k) _ _ _ (by simp) fun k s _ hk hs=>⟨?_,fun s' e=>?_⟩,Je (fun s=>(ax.filter fun q=>(bg .int .int s.1 q:Int) ==0).length) (fun k s s' e=>?_) _ _ _ (Nat.lt_of_le_of_lt (List.length_filter_le _ _) (by omega))⟩
 ·obtain⟨d1,s1,d2,d3,d4⟩:=D s;refine⟨OU,d1,fun s1' h1 _ _ _ s2 _=>?_⟩;rw[d2]at h1;simp only[Sum.inr.injEq]at h1;subst h1;simp only[List.length_nil]at d3;rw[List.length_append];unfold ez;omega
 ·obtain⟨d1,s1,d2,d3,d4⟩:=D s;unfold bJ at e;rw[d2]at e;simp only at e;cases hz:(s1.length:Int) ==0 with
  |true=>rw[hz]at e;cases e
  |false=>
   rw[hz]at e;simp only[cond_false]at e;obtain⟨k',h1,h2⟩:=Jg facts clauses st s1 s1 [] s.1 rfl;rw[List.length_nil]at h1;rw[h1]at e;simp only[Sum.inr.injEq]at e;subst e;simp only[List.length_nil]at d3;simp only[List.length_append];omega
 ·obtain⟨d1,s1,d2,d3,d4⟩:=D s;unfold bJ at e;rw[d2]at e;simp only at e;cases hz:(s1.length:Int) ==0 with
  |true=>rw[hz]at e;cases e
  |false=>
   rw[hz]at e;simp only[cond_false]at e;obtain⟨k',h1,h2⟩:=Jg facts clauses st s1 s1 [] s.1 rfl;rw[List.length_nil]at h1;rw[h1]at e;simp only[Sum.inr.injEq]at e;subst e;have hne:s1≠[]:=fun h=>by rw[h]at hz;cases hz
   obtain⟨x,R,rfl⟩:=List.exists_cons_of_ne_nil hne;refine zp (fun q _ h=>?_) ⟨x.literal,(d4 x (by simp)).1,?_,?_⟩
   ·rw[beq_iff_eq]at h |-;exact Decidable.byContradiction fun hq=>h2 q (.inr hq) h
   ·rw[beq_iff_eq];exact(d4 x (by simp)).2
   ·have:=h2 x.literal (.inl ⟨x,by simp,rfl⟩);simpa using this
theorem OX (p:Plea)(q:Int):iV p q:=⟨HE p,fun _ _=>⟨HC p,OW _ _ _⟩⟩
abbrev zq (l:List Case):Prop:=l.Pairwise fun x y=>¬ClashC x y
theorem qJ {α:Type}(l:List α)(d:α)(P:α->Bool){step:Nat->List α->Empty⊕List α}(h:∀ k s,step k s=bif P (l.getD k d)then .inr (s++[l.getD k d])else .inr s):aq step l.length 0 []=.inr (l.filter P):=by
 have key:∀ (R A:List α) (s:List α),l=A++R->aq step R.length A.length s=.inr (s++R.filter P):=fun R=>by
  induction R with
  |nil=>intro A s _;simp[aq]
  |cons y R ih=>
   intro A s hl;have g:l.getD A.length d=y:=by rw[hl];exact gP A y d R rfl
   have hl':l=(A++[y])++R:=by rw[hl];simp
   have ih:=fun s=>ih (A++[y]) s hl';rw[List.length_append,List.length_singleton]at ih;simp only[List.length_cons,aq,h,g];cases hc:P y with
   |true=>
    simp only[cond_true];rw[ih,List.filter_cons_of_pos hc];simp
   |false=>
    simp only[cond_false];rw[ih,List.filter_cons_of_neg (by rw[hc];simp)]
 exact key l [] [] rfl
theorem FH {α:Type}(l:List α)(d:α)(P:α->Bool){step:Nat->List α->Empty⊕List α}{p:Nat->List α->Prop}(h:∀ k s,step k s=bif P (l.getD k d)then .inr (s++[l.getD k d])else .inr s)(hp:∀ k s,k<l.length->s.length<=k->p k s):okI step p l.length 0 []:=by
 refine y6 (fun k s=>s.length<=k) _ _ _ (by simp) fun k s _ hk hs=>⟨hp k s (by omega) hs,fun s' e=>?_⟩;rw[h]at e;cases hc:P (l.getD k d) <;>rw[hc]at e <;>simp only[cond_true,cond_false,Sum.inr.injEq]at e <;>subst e
 ·omega
 ·simp;omega
theorem KV:∀ {l:List Int} {lo hi:Int},l.Pairwise (· < ·)->(∀ x∈l,lo<=x/\x<hi)->l.length<=(hi - lo).toNat
 | [],_,_,_,_=>Nat.zero_le _
 |x::l,lo,hi,h,hr=>by
  have hp:=List.pairwise_cons.1 h;have hx:=hr x (by simp);have:=KV (lo:=x+1) (hi:=hi) hp.2 fun y hy=>⟨by have:=hp.1 y hy;omega,(hr y (by simp[hy])).2⟩;simp only[List.length_cons];omega
theorem OfOk.len {l:List Int}{m:Nat}(h:OfOk l m):l.length<=m:=by
 have:=KV (lo:=0) (hi:=(m:Int)) h.inc h.rg;omega
def FI (b:Cases)(s:Suit):Int:=bif(!(ap b s.facts 0).2.1)&&((ap b s.facts 1).2.1||((cD s.plea s.question).1 !=1))then 1 else 0
def AD (b:Cases)(s:Suit):Case:= { no:=s.no,hour:=s.hour,winner:=FI b s,facts:=s.facts,reason:=s.facts.filter fun k=>b.sides.getD (Int.toNat k) 0==FI b s}
structure DecS (b:Cases)(s:Suit):Prop where
 rd:Rd b
 f:OfOk s.facts b.sides.length
 a:(cD s.plea s.question).2=0
 no:0<=s.no/\s.no<=1048576
 hr:0<=s.hour/\s.hour<=4096
 last:0<b.cases.length->(b.cases.getD (b.cases.length - 1) default).no<s.no/\(b.cases.getD (b.cases.length - 1) default).hour<=s.hour
theorem Ag (b:Cases)(s:Suit):gL b s/\((aV b s).2=0->DecS b s/\(aV b s).1=AD b s):=by
 have hB0:=uU b s.facts (side:=0) (.inl rfl);have hB1:=uU b s.facts (side:=1) (.inr rfl);have hr:=xB b;have in_iff2:∀ n lo hi:Int,aI n lo hi=true↔lo<=n/\n<=hi:=fun n lo hi=>by rw[Ok];simp
 have loops:Rd b->OfOk s.facts b.sides.length->∀ w:Int,(∀ (step:Nat->List Int->Empty⊕List Int),(∀ k s',step k s'=bif(b.sides.getD (Int.toNat (s.facts.getD k 0)) 0==w)then .inr (s'++[s.facts.getD k 0])else .inr s')->aq step s.facts.length 0 []=.inr (s.facts.filter fun k=>b.sides.getD (Int.toNat k) 0==w))/\
   ∀ (step:Nat->List Int->Empty⊕List Int) (p:Nat->List Int->Prop),(∀ k s',step k s'=bif(b.sides.getD (Int.toNat (s.facts.getD k 0)) 0==w)then .inr (s'++[s.facts.getD k 0])else .inr s')->(∀ k s',p k s'↔((0<=s.facts.getD k 0/\s.facts.getD k 0< (b.sides.length:Int))/\((b.sides.getD (Int.toNat (s.facts.getD k 0)) 0==w)=true->(s'++[s.facts.getD k 0]).length*8<=ez)))->okI step p s.facts.length 0 []:=fun hR hF w=>by
  refine⟨fun step h=>qJ s.facts 0 (fun k=>b.sides.getD (Int.toNat k) 0==w) h,fun step p h hp=>FH s.facts 0 (fun k=>b.sides.getD (Int.toNat k) 0==w) h fun k s' hk hs=>(hp k s').2 ⟨?_,fun _=>?_⟩⟩
  ·rw[List.getD_eq_getElem?_getD,List.getElem?_eq_getElem hk];exact hF.rg _ (List.getElem_mem hk)
  ·have:=hF.len;have:=hR.s;simp only[List.length_append,List.length_singleton];unfold ez;omega
 refine⟨⟨hr.1,fun _=>⟨HE _,fun _=>⟨OX _ _,fun _=>⟨hB0.1,fun h4=>⟨hB1.1,fun _ hml=>?_⟩⟩⟩⟩⟩,?_⟩
 ·rw[Fo,beq_iff_eq]at h4;obtain⟨hR,hF⟩:=hB0.2.1.1 h4;have hc:=hR.c;have hw:0<b.cases.length->0<=i64.wrap ((b.cases.length:Int) - 1)/\i64.wrap ((b.cases.length:Int) - 1) < (b.cases.length:Int):=fun h=>by
   rw[mb (by omega) (by omega)];omega
  refine⟨fun h=>?_,fun h=>?_⟩
  ·have h:=of_decide_eq_true h;exact⟨hw (by omega),fun _=>hw (by omega),fun _=>⟨fun _ _=>(loops hR hF 1).2 _ _ (fun _ _=>rfl) fun _ _=>Iff.rfl,fun _ _=>(loops hR hF 0).2 _ _ (fun _ _=>rfl) fun _ _=>Iff.rfl⟩⟩
  ·exact⟨fun _ _=>(loops hR hF 1).2 _ _ (fun _ _=>rfl) fun _ _=>Iff.rfl,fun _ _=>(loops hR hF 0).2 _ _ (fun _ _=>rfl) fun _ _=>Iff.rfl⟩
 ·unfold aV;simp only[Fo];cases h1:cp b !=0 with
  |true=>
   simp only[cond_true];intro h;rw[h]at h1;cases h1
  |false=>
   simp only[cond_false];cases h2:gq s.plea !=0 with
   |true=>
    simp only[cond_true];intro h;rw[h]at h2;cases h2
   |false=>
    simp only[cond_false];cases h3:(cD s.plea s.question).2==0 with
    |false=>
     simp only[cond_false];intro h;rw[h]at h3;cases h3
    |true=>
     simp only[cond_true];cases h4:(ap b s.facts 0).2.2==0 with
     |false=>
      simp only[cond_false];intro h;rw[h]at h4;cases h4
     |true=>
      simp only[cond_true];cases h5:(aI s.no 0 1048576)&&(aI s.hour 0 4096)with
      |false=>
       simp only[cond_false];intro h;cases h
      |true=>
       simp only[cond_true];rw[beq_iff_eq]at h3 h4;rw[Bool.and_eq_true,in_iff2,in_iff2]at h5;obtain⟨hR,hF⟩:=hB0.2.1.1 h4;have hc:=hR.c;have L:=loops hR hF;have fin:∀ X Y:Case×Int,X=(({ no:=s.no,hour:=s.hour,winner:=1,facts:=s.facts,reason:=s.facts.filter fun k=>b.sides.getD (Int.toNat k) 0==1}:Case),0)->Y=(({ no:=s.no,hour:=s.hour,winner:=0,facts:=s.facts,reason:=s.facts.filter fun k=>b.sides.getD (Int.toNat k) 0==0}:Case),0)->(bif(!(ap b s.facts 0).2.1)&&((ap b s.facts 1).2.1||((cD s.plea s.question).1 !=1))then X else Y).1=AD b s:=fun X Y hX hY=>by
        subst hX;subst hY;unfold AD FI;cases(!(ap b s.facts 0).2.1)&&((ap b s.facts 1).2.1||((cD s.plea s.question).1 !=1)) <;>rfl
       by_cases h6:0<b.cases.length
       ·have hw:Int.toNat (i64.wrap ((b.cases.length:Int) - 1))=b.cases.length - 1:=by rw[mb (by omega) (by omega)];omega
        rw[decide_eq_true (by omega:(b.cases.length:Int) > 0),hw];simp only[cond_true];cases h7:(decide (s.no > (b.cases.getD (b.cases.length - 1) default).no))&&(decide (s.hour>=(b.cases.getD (b.cases.length - 1) default).hour))with
        |false=>
         simp only[cond_false];intro h;cases h
        |true=>
         simp only[cond_true];rw[Bool.and_eq_true,decide_eq_true_eq,decide_eq_true_eq]at h7;intro _;refine⟨⟨hR,hF,h3,h5.1,h5.2,fun _=>⟨h7.1,h7.2⟩⟩,fin _ _ ?_ ?_⟩
         ·rw[(L 1).1 (il b s) fun _ _=>rfl]
         ·rw[(L 0).1 (im b s) fun _ _=>rfl]
       ·rw[decide_eq_false (by omega:¬ (b.cases.length:Int) > 0)];simp only[cond_false];intro _;refine⟨⟨hR,hF,h3,h5.1,h5.2,fun h=>absurd h h6⟩,fin _ _ ?_ ?_⟩
        ·rw[(L 1).1 (io b s) fun _ _=>rfl]
        ·rw[(L 0).1 (ip b s) fun _ _=>rfl]
theorem ClashC.symm {x y:Case}(h:ClashC x y):ClashC y x:=⟨fun e=>h.1 e.symm,h.2.2,h.2.1⟩
theorem HF {l:List Case}(h:zq l){x y:Case}(hx:x∈l)(hy:y∈l):¬ClashC x y:=fun hc=>by
 obtain⟨i,hi,rfl⟩:=List.getElem_of_mem hx;obtain⟨j,hj,rfl⟩:=List.getElem_of_mem hy;rcases Nat.lt_trichotomy i j with h1|h1|h1
 ·exact(List.pairwise_iff_getElem.1 h) i j hi hj h1 hc
 ·subst h1;exact hc.1 rfl
 ·exact(List.pairwise_iff_getElem.1 h) j i hj hi h1 hc.symm
theorem OY {b:Cases}(hR:Rd b)(hn:zq b.cases){F:List Int}:¬ ((∃ x∈b.cases,zg b.sides F 0 x)/\∃ y∈b.cases,zg b.sides F 1 y):=by
 rintro⟨⟨x,hx,x1,x2,x3⟩,y,hy,y1,y2,y3⟩;have cx:=og hR.cs x hx;have cy:=og hR.cs y hy;refine HF hn hx hy ⟨by omega,fun k hk=>?_,fun k hk=>?_⟩
 ·have:=(cx.sub k hk).2;exact y3 k (x2 k hk) (by omega)
 ·have:=(cy.sub k hk).2;exact x3 k (y2 k hk) (by omega)
theorem FJ (b:Cases)(s:Suit):FI b s=0\/FI b s=1:=by
 unfold FI;cases(!(ap b s.facts 0).2.1)&&((ap b s.facts 1).2.1||((cD s.plea s.question).1 !=1)) <;>simp
theorem Mf {b:Cases}{s:Suit}(d:DecS b s)(hn:zq b.cases):∀ y∈b.cases,¬ClashC y (AD b s):=fun y hy hc=>by
 have cy:=og d.rd.cs y hy;have b0:=(uU b s.facts (side:=0) (.inl rfl)).2.2 d.rd d.f;have b1:=(uU b s.facts (side:=1) (.inr rfl)).2.2 d.rd d.f;have nb:=OY d.rd hn (F:=s.facts);have hy2:zg b.sides s.facts (1 - FI b s) y:=by
  refine⟨?_,fun k hk=>hc.2.1 k hk,fun k hk h=>hc.2.2 k (List.mem_filter.2 ⟨hk,?_⟩)⟩
  ·have h1:y.winner≠FI b s:=hc.1;rcases FJ b s with h|h <;>rcases cy.w with h2|h2 <;>omega
  ·rw[beq_iff_eq];omega
 have hw:FI b s=bif(!(ap b s.facts 0).2.1)&&((ap b s.facts 1).2.1||((cD s.plea s.question).1 !=1))then 1 else 0:=rfl;rcases FJ b s with h|h
 ·rw[h]at hy2;have t:(ap b s.facts 1).2.1=true:=b1.2 ⟨y,hy,hy2⟩;cases o:(ap b s.facts 0).2.1 with
  |true=>exact nb ⟨b0.1 o,b1.1 t⟩
  |false=>
   rw[o,t,h]at hw;simp at hw
 ·rw[h]at hy2;have o:(ap b s.facts 0).2.1=true:=b0.2 ⟨y,hy,hy2⟩;rw[o,h]at hw;simp at hw
theorem OZ {b:Cases}{s:Suit}(d:DecS b s):CaseOk b.sides (AD b s):=by
 refine⟨d.no,d.hr,FJ b s,d.f,⟨d.f.inc.sublist List.filter_sublist,fun x hx=>d.f.rg x (List.mem_filter.1 hx).1⟩,fun k hk=>?_⟩;have h:=List.mem_filter.1 hk;exact⟨h.1,beq_iff_eq.1 h.2⟩
theorem x5 {sides:List Int}{c:Case}(hc:CaseOk sides c):∀ {l:List Case} {no hr:Int},kw sides no hr l->(l=[]->no<c.no/\hr<=c.hour)->(0<l.length->(l.getD (l.length - 1) default).no<c.no/\(l.getD (l.length - 1) default).hour<=c.hour)->kw sides no hr (l++[c])
 | [],no,hr,_,h1,_=>⟨(h1 rfl).1,(h1 rfl).2,hc,trivial⟩
 |x::R,no,hr,h,_,h2=>by
  refine⟨h.1,h.2.1,h.2.2.1,x5 hc h.2.2.2 (fun e=>?_) fun hl=>?_⟩
  ·subst e;exact h2 (by simp)
  ·have:=h2 (by simp);have e:(x::R).getD ((x::R).length - 1) default=R.getD (R.length - 1) default:=by
    obtain⟨y,R',rfl⟩:=List.exists_cons_of_ne_nil (List.ne_nil_of_length_pos hl);simp
   rwa[e]at this
structure SitI (b:Cases)(A:List Suit)(cs:List Case):Prop where
 rd:Rd { sides:=b.sides,cases:=cs}
 len:cs.length=b.cases.length+A.length
 head:cs.take b.cases.length=b.cases
 dec:∀ i (h:i<A.length),DecS { sides:=b.sides,cases:=cs.take (b.cases.length+i)} A[i]/\cs.getD (b.cases.length+i) default=AD { sides:=b.sides,cases:=cs.take (b.cases.length+i)} A[i]
 nc:zq b.cases->zq cs
theorem KW (b:Cases)(l:List Suit):∀ (R A:List Suit) (cs:List Case),l=A++R->SitI b A cs->
  okI (dA b.sides l) (eG b.sides l) R.length A.length cs/\((∃ x,aq (dA b.sides l) R.length A.length cs=.inl x/\x≠0)\/∃ cs',aq (dA b.sides l) R.length A.length cs=.inr cs'/\SitI b l cs')
 | [],A,cs,hl,i=>by
  rw[List.append_nil]at hl;subst hl;exact⟨trivial,.inr ⟨cs,rfl,i⟩⟩
 |s::R,A,cs,hl,i=>by
  have g:l.getD A.length default=s:=by rw[hl];exact gP A s default R rfl
  obtain⟨d1,d2⟩:=Ag { sides:=b.sides,cases:=cs} s;have hc:=i.rd.c;have hc:cs.length<=64:=hc;have hp:eG b.sides l A.length cs:=by
   unfold eG;rw[g,OQ];refine⟨d1,fun _=>?_⟩;simp only[List.length_append,List.length_singleton];unfold ez;omega
  have hst:dA b.sides l A.length cs=bif((aV { sides:=b.sides,cases:=cs} s).2 !=0)then .inl (aV { sides:=b.sides,cases:=cs} s).2 else bif(decide (((cs++[(aV { sides:=b.sides,cases:=cs} s).1]).length:Int) > 64))then .inl 2 else .inr (cs++[(aV { sides:=b.sides,cases:=cs} s).1]):=by
   unfold dA;rw[g,U4]
  cases h1:(aV { sides:=b.sides,cases:=cs} s).2 !=0 with
  |true=>
   rw[h1]at hst;simp only[cond_true]at hst;refine⟨⟨hp,fun s' e=>by rw[hst]at e;cases e⟩,.inl ⟨(aV { sides:=b.sides,cases:=cs} s).2,by simp only[List.length_cons,aq,hst],by simpa using h1⟩⟩
  |false=>
   rw[h1]at hst;simp only[cond_false]at hst;obtain⟨D,e1⟩:=d2 (by simpa using h1);rw[e1]at hst;cases h2:decide (((cs++[AD { sides:=b.sides,cases:=cs} s]).length:Int) > 64)with
   |true=>
    rw[h2]at hst;simp only[cond_true]at hst;refine⟨⟨hp,fun s' e=>by rw[hst]at e;cases e⟩,.inl ⟨2,by simp only[List.length_cons,aq,hst],by omega⟩⟩
   |false=>
    rw[h2]at hst;simp only[cond_false]at hst;have h2:=of_decide_eq_false h2;have hlen:=i.len;have hnew:SitI b (A++[s]) (cs++[AD { sides:=b.sides,cases:=cs} s]):=by
     refine⟨⟨i.rd.s,by show(cs++[_]).length<=64;omega,i.rd.sd,?_⟩,?_,?_,fun j hj=>?_,fun hn=>?_⟩
     ·refine x5 (OZ D) i.rd.cs (fun _=>?_) D.last;have:=D.no;have:=D.hr;exact⟨by show -1<s.no;omega,by show 0<=s.hour;omega⟩
     ·simp only[List.length_append,List.length_singleton];omega
     ·rw[List.take_append_of_le_length (by omega)];exact i.head
     ·simp only[List.length_append,List.length_singleton]at hj;rw[List.take_append_of_le_length (by omega)];by_cases hjA:j<A.length
      ·have:=i.dec j hjA;rw[List.getElem_append_left hjA];refine⟨this.1,?_⟩;rw[List.getD_eq_getElem?_getD,List.getElem?_append_left (by omega),<-List.getD_eq_getElem?_getD];exact this.2
      ·have hj2:j=A.length:=by omega
       subst hj2;have e2:cs.take (b.cases.length+A.length)=cs:=by rw[<-hlen,List.take_length]
       rw[List.getElem_append_right (Nat.le_refl _)];simp only[Nat.sub_self,List.getElem_cons_zero,e2];refine⟨D,?_⟩;rw[<-hlen];exact gP cs _ default [] rfl
     ·refine List.pairwise_append.2 ⟨i.nc hn,List.pairwise_singleton _ _,fun y hy z hz=>?_⟩;rw[List.mem_singleton.1 hz];exact Mf D (i.nc hn) y hy
    obtain⟨r1,r2⟩:=KW b l R (A++[s]) _ (by rw[hl];simp) hnew;rw[List.length_append,List.length_singleton]at r1 r2;refine⟨⟨hp,fun s' e=>by rw[hst]at e;simp only[Sum.inr.injEq]at e;subst e;exact r1⟩,?_⟩;simp only[List.length_cons,aq,hst];exact r2
theorem U8 (b:Cases)(l:List Suit):gz b l/\(((d7 b l).2≠0/\(d7 b l).1.cases=[])\/∃ cs,d7 b l=({ sides:=b.sides,cases:=cs},0)/\SitI b l cs):=by
 obtain⟨r1,r2,_⟩:=xB b;have start:Rd b->SitI b [] b.cases:=fun hR=>⟨hR,by simp,List.take_length,fun i h=>absurd h (Nat.not_lt_zero _),fun h=>h⟩;by_cases hR:Rd b
 ·have e0:cp b=0:=r2.2 hR;obtain⟨s1,s2⟩:=KW b l l [] b.cases rfl (start hR);rw[List.length_nil]at s1 s2;refine⟨⟨r1,fun _ _=>s1⟩,?_⟩;unfold d7;rw[e0];simp only[bne_self_eq_false,cond_false];rcases s2 with⟨x,e1,e2⟩ | ⟨cs,e1,e2⟩
  ·rw[e1];exact .inl ⟨e2,rfl⟩
  ·rw[e1];exact .inr ⟨cs,rfl,e2⟩
 ·have e0:(cp b !=0)=true:=by rw[bne_iff_ne];exact fun h=>hR (r2.1 h)
  refine⟨⟨r1,fun h=>by rw[e0]at h;cases h⟩,.inl ?_⟩;unfold d7;rw[e0];exact⟨fun h=>hR (r2.1 h),rfl⟩
def a7 (q:Int):Bool:=(((decide (q>=(-32)))&&(decide (q<=32)))&&(q !=0))
@[go_sem] def lH:List SV->Option Con:=(pI fun q=>(pE (.det True (.v (.bool (a7 q))))))
theorem nK:FnOk Tryz.prog 69 lH:=by
 have hG:ConsOk Tryz.prog (mkG [] []):=am cg0 cg0;refine av [.o] mixed ai hG (fn:=Tryz.f69) (c:=aa Tryz.f69) kr kr kr kr (br fun q=>(ah (fun hp=>?_)));dsimp only[an]at hp;refine⟨nbl rfl,L0,ag _,?_⟩
 ·unfold aa Tryz.f69;try unfold a7
  exact zq1
@[go_sem] def lI (l_:List Int)(k_0:Nat)(s_0:Unit):Unit⊕Unit:=(bif((!(a7 (l_.getD k_0 0))) ||((decide ((k_0:Int) > 0))&&(decide ((l_.getD k_0 0)<=(l_.getD (Int.toNat (i64.wrap ((k_0:Int) - 1))) 0)))))then .inl ()else .inr ())
def p6 (l_:List Int)(k_0:Nat)(s_0:Unit):Prop:=(l_.length<=aA->((!(a7 (l_.getD k_0 0)))=false->((decide ((k_0:Int) > 0))=true->(0<=(i64.wrap ((k_0:Int) - 1))/\(i64.wrap ((k_0:Int) - 1)) < (l_.length:Int)))))
def eL (l_:List Int):Bool:=(match aq (lI l_) l_.length 0 ()with| .inl x_0_0=>false| .inr s_0=>true)
def nj (l_:List Int):Prop:=okI (lI l_) (p6 l_) l_.length 0 ()
@[go_sem] def xf:List SV->Option Con:=(pR .int fun l_=>(pE (.det (nj l_) (.v (.bool (eL l_))))))
theorem A1:FnOk Tryz.prog 120 xf:=by
 have hG:ConsOk Tryz.prog (mkG [(69,lH)] []):=am (cgc nK cg0) cg0;refine av [.o] mixed ai hG (fn:=Tryz.f120) (c:=aa Tryz.f120) kr kr kr kr (a_ fun l_=>(ah (fun hp=>?_)));dsimp only[an]at hp;unfold nj at hp;refine⟨nbl rfl,(fun id st=>bif Nat.beq id 0 then some (LCR (ρ:=Unit) (σ:=Unit) 0 [] [] (fun k_0 s_0=>⟨[(0,.rs .int l_),(3,.v (.int .i64 (k_0:Int)))],[]⟩) (lI l_) (p6 l_) l_.length () (True) (fun _=>.ret) (fun x_0_0=>⟨[(2,.v (.bool false))],[]⟩) st)else none),?_,?_⟩
 ·unfold aa Tryz.f120;simp only[ak,true_and,and_true]
  ·refine cB (l_.length<=aA) mixed ai hG kr (fun _=>rfl) (l_.length:Int) rfl dV (fun hb0 k_0 s_0 hlt0 hq0 hw hc=>⟨L0,ag _,?_⟩) (fun hb0 s_0 hc=>?_) fun hb0 k_0 s_0=>?_
   ·unfold p6 at hq0;try simp only[hw,Int.toNat_natCast]at hq0
    exact aL (jl [])
   ·exact aK (jl [])
   ·exact zq7
 ·unfold aa Tryz.f120;try unfold eL
  exact zq1
@[go_sem] def zr (l_:List Int)(n:Int)(k_0:Nat)(s_0:Unit):Unit⊕Unit:=(bif((l_.getD k_0 0) ==n)then .inl ()else .inr ())
def aO (l_:List Int)(n:Int):Bool:=(match aq (zr l_ n) l_.length 0 ()with| .inl x_0_0=>true| .inr s_0=>false)
@[go_sem] def jD:List SV->Option Con:=(pR .int fun l_=>(pI fun n=>(pE (.det True (.v (.bool (aO l_ n)))))))
theorem jE:FnOk Tryz.prog 123 jD:=by
 have hG:ConsOk Tryz.prog (mkG [] []):=am cg0 cg0;refine av [.o] mixed ai hG (fn:=Tryz.f123) (c:=aa Tryz.f123) kr kr kr kr (a_ fun l_=>(br fun n=>(ah (fun hp=>?_))));dsimp only[an]at hp;refine⟨nbl rfl,(fun id st=>bif Nat.beq id 0 then some (LCR (ρ:=Unit) (σ:=Unit) 0 [] [] (fun k_0 s_0=>⟨[(0,.rs .int l_),(1,.v (.int .i64 n)),(5,.v (.int .i64 (k_0:Int)))],[]⟩) (zr l_ n) pT l_.length () (True) (fun _=>.ret) (fun x_0_0=>⟨[(4,.v (.bool true))],[]⟩) st)else none),?_,?_⟩
 ·unfold aa Tryz.f123;simp only[ak,true_and,and_true]
  ·refine cB (l_.length<=aA) mixed ai hG kr (fun _=>rfl) (l_.length:Int) rfl dV (fun hb0 k_0 s_0 hlt0 _ hw hc=>⟨L0,ag _,?_⟩) (fun hb0 s_0 hc=>?_) fun hb0 k_0 s_0=>?_
   ·exact aL (jl [])
   ·exact aK (jl [])
   ·exact zq7
 ·unfold aa Tryz.f123;try unfold aO
  exact zq1
@[go_sem] def zt (l_:List Int)(of_:List Int)(k_0:Nat)(s_0:Unit):Unit⊕Unit:=(bif(!(aO l_ (of_.getD k_0 0)))then .inl ()else .inr ())
def o8 (l_:List Int)(of_:List Int):Bool:=(match aq (zt l_ of_) of_.length 0 ()with| .inl x_0_0=>false| .inr s_0=>true)
@[go_sem] def xg:List SV->Option Con:=(pR .int fun l_=>(pR .int fun of_=>(pE (.det True (.v (.bool (o8 l_ of_)))))))
theorem zu:FnOk Tryz.prog 160 xg:=by
 have hG:ConsOk Tryz.prog (mkG [(123,fun l=>jD (aP [.sl .int,.o] l))] []):=am (cgc (jE.norm [.sl .int,.o]) cg0) cg0;refine av [.o] mixed ai hG (fn:=Tryz.f160) (c:=aa Tryz.f160) kr kr kr kr (a_ fun l_=>(a_ fun of_=>(ah (fun hp=>?_))));dsimp only[an]at hp;refine⟨nbl rfl,(fun id st=>bif Nat.beq id 0 then some (LCR (ρ:=Unit) (σ:=Unit) 0 [] [] (fun k_0 s_0=>⟨[(0,.rs .int l_),(1,.rs .int of_),(5,.v (.int .i64 (k_0:Int)))],[]⟩) (zt l_ of_) pT of_.length () (True) (fun _=>.ret) (fun x_0_0=>⟨[(4,.v (.bool false))],[]⟩) st)else none),?_,?_⟩
 ·unfold aa Tryz.f160;simp only[ak,true_and,and_true]
  ·refine cB (of_.length<=aA) mixed ai hG kr (fun _=>rfl) (of_.length:Int) rfl dV (fun hb0 k_0 s_0 hlt0 _ hw hc=>⟨L0,ag _,?_⟩) (fun hb0 s_0 hc=>?_) fun hb0 k_0 s_0=>?_
   ·exact aL (jl [])
   ·exact aK (jl [])
   ·exact zq7
 ·unfold aa Tryz.f160;try unfold o8
  exact zq1
@[go_sem] def x6 (l_:List Int)(of_:List Int)(k_0:Nat)(s_0:Unit):Unit⊕Unit:=(bif(aO l_ (of_.getD k_0 0))then .inl ()else .inr ())
def tw (l_:List Int)(of_:List Int):Bool:=(match aq (x6 l_ of_) of_.length 0 ()with| .inl x_0_0=>true| .inr s_0=>false)
@[go_sem] def zv:List SV->Option Con:=(pR .int fun l_=>(pR .int fun of_=>(pE (.det True (.v (.bool (tw l_ of_)))))))
theorem Dz:FnOk Tryz.prog 256 zv:=by
 have hG:ConsOk Tryz.prog (mkG [(123,fun l=>jD (aP [.sl .int,.o] l))] []):=am (cgc (jE.norm [.sl .int,.o]) cg0) cg0;refine av [.o] mixed ai hG (fn:=Tryz.f256) (c:=aa Tryz.f256) kr kr kr kr (a_ fun l_=>(a_ fun of_=>(ah (fun hp=>?_))));dsimp only[an]at hp;refine⟨nbl rfl,(fun id st=>bif Nat.beq id 0 then some (LCR (ρ:=Unit) (σ:=Unit) 0 [] [] (fun k_0 s_0=>⟨[(0,.rs .int l_),(1,.rs .int of_),(5,.v (.int .i64 (k_0:Int)))],[]⟩) (x6 l_ of_) pT of_.length () (True) (fun _=>.ret) (fun x_0_0=>⟨[(4,.v (.bool true))],[]⟩) st)else none),?_,?_⟩
 ·unfold aa Tryz.f256;simp only[ak,true_and,and_true]
  ·refine cB (of_.length<=aA) mixed ai hG kr (fun _=>rfl) (of_.length:Int) rfl dV (fun hb0 k_0 s_0 hlt0 _ hw hc=>⟨L0,ag _,?_⟩) (fun hb0 s_0 hc=>?_) fun hb0 k_0 s_0=>?_
   ·exact aL (jl [])
   ·exact aK (jl [])
   ·exact zq7
 ·unfold aa Tryz.f256;try unfold tw
  exact zq1
@[go_sem] def gB (p:Plea)(k_1:Nat)(s_1:List Int×Bool):Empty⊕(List Int×Bool):=letI q0:=p.clauses.getD k_1 default;(bif((q0.strict&&(!(aO s_1.1 (q0.then_))))&&(o8 s_1.1 (q0.if_)))then .inr ((s_1.1++([q0.then_])),true)else .inr (s_1.1,s_1.2))
def mr (p:Plea)(k_1:Nat)(s_1:List Int×Bool):Prop:=letI q0:=p.clauses.getD k_1 default;(p.clauses.length<=aA->(((q0.strict&&(!(aO s_1.1 (q0.then_))))&&(o8 s_1.1 (q0.if_)))=true->((s_1.1++([q0.then_])).length*8<=ez)))
@[go_sem] def lJ (p:Plea)(k_0:Nat)(s_0:List Int×Bool):(List Int)⊕(List Int×Bool):=(bif s_0.2 then(match aq (gB p) p.clauses.length 0 (s_0.1,false)with| .inl x=>x.elim| .inr s_1=>.inr (s_1.1,s_1.2))else .inl s_0.1)
def mt (p:Plea)(k_0:Nat)(s_0:List Int×Bool):Prop:=(s_0.2=true->okI (gB p) (mr p) p.clauses.length 0 (s_0.1,false))
def az (p:Plea):List Int:=(match aq (lJ p) (p.clauses.length+2) 0 ((([])++p.facts),true)with| .inl x_0_0=>x_0_0| .inr s_0=>default)
def nk (p:Plea):Prop:=letI q0:=([])++p.facts;letI q1:=p.clauses.length+2;letI q2:=lJ p;((q0.length*8<=ez)/\(q0.length<=aA->(okI q2 (mt p) q1 0 (q0,true)/\(∀ z_,aq q2 q1 0 (q0,true)≠ .inr z_))))
@[go_sem] def tx:List SV->Option Con:=(pD .plea fun p=>(pE (.det (nk p) (.nw .int (az p)))))
theorem vZ:FnOk Tryz.prog 122 tx:=by
 have hG:ConsOk Tryz.prog (mkG [(123,fun l=>jD (aP [.sl .int,.o] l)),(160,fun l=>xg (aP [.sl .int,.sl .int] l))] []):=am (cgc (jE.norm [.sl .int,.o]) (cgc (zu.norm [.sl .int,.sl .int]) cg0)) cg0;refine Ci true mixed ai hG (fn:=Tryz.f122) (c:=aa Tryz.f122) kr kr kr kr (aF fun p=>(ah (fun hp=>?_)));dsimp only[an]at hp;unfold nk at hp;refine⟨nbl rfl,(fun id st=>bif Nat.beq id 0 then some (LCV (ρ:=(List Int)) (σ:=(List Int×Bool)) 2 [] [0,1,1] (fun k_0 s_0=>⟨[(1,.ptr 0 0),(3,.os 2),(4,.v (.bool s_0.2))],[.cells (cellsOf .plea p),.dead,.row .int s_0.1]⟩) (lJ p) (mt p) (p.clauses.length+2) ((([])++p.facts),true) (fun _=>.normal) (fun x_0_0=>⟨[(3,.os 2)],[.dead,.dead,.row .int x_0_0]⟩) st)else none),?_,?_⟩
 ·unfold aa Tryz.f122;simp only[ak,true_and,and_true]
  ·refine pj mixed ai hG kr (fun _=>rfl) fun k_0 s_0 hq0=>⟨(fun id st=>bif Nat.beq id 2 then some (LCR (ρ:=Empty) (σ:=(List Int×Bool)) 3 [] [0,1,2,2] (fun k_1 s_1=>⟨[(1,.ptr 0 0),(3,.os 3),(4,.v (.bool s_1.2)),(5,.v (.int .i64 (k_1:Int)))],[.cells (cellsOf .plea p),.dead,.dead,.row .int s_1.1]⟩) (gB p) (mr p) p.clauses.length (s_0.1,false) (True) ((·.elim)) ((·.elim)) st)else none),?_,?_⟩
   ·simp only[ak,true_and,and_true]
    ·refine cB (p.clauses.length<=aA) mixed ai hG kr (fun _=>rfl) (p.clauses.length:Int) rfl dV (fun hb1 k_1 s_1 hlt1 hq1 hw hc=>⟨L0,ag _,?_⟩) (fun hb1 s_1 hc=>?_) fun hb1 k_1 s_1=>?_
     ·unfold mr at hq1;try simp only[hw,Int.toNat_natCast]at hq1
      exact lB (jl [0,1,2,6]) (jl [0,1,2,3])
     ·exact kg (jl [0,1,2,6]) (jl [0,1,2,3])
     ·exact OS
   ·unfold mt at hq0;exact zf (jl [0,1,3]) (jl [0,1,2])
 ·unfold aa Tryz.f122;try unfold az
  exact zq1
def lm (n:Int):Bool:=((decide (n>=0))&&(decide (n<=1048576)))
@[go_sem] def xh:List SV->Option Con:=(pI fun n=>(pE (.det True (.v (.bool (lm n))))))
theorem A2:FnOk Tryz.prog 121 xh:=by
 have hG:ConsOk Tryz.prog (mkG [] []):=am cg0 cg0;refine av [.o] mixed ai hG (fn:=Tryz.f121) (c:=aa Tryz.f121) kr kr kr kr (br fun n=>(ah (fun hp=>?_)));dsimp only[an]at hp;refine⟨nbl rfl,L0,ag _,?_⟩
 ·unfold aa Tryz.f121;try unfold lm
  exact zq1
@[go_sem] def p7 (a0:Plea)(k_0:Nat)(s_0:Unit):Unit⊕Unit:=(bif(decide ((((a0.clauses.getD k_0 default).if_).length:Int) > 8))then .inl ()else .inr ())
@[go_sem] def kF (a0:Plea)(k_1:Nat)(s_1:Unit):Unit⊕Unit:=letI q0:=a0.clauses.getD k_1 default;(bif(((((!(lm (q0.no))) ||((decide ((k_1:Int) > 0))&&(decide (q0.no<=(a0.clauses.getD (Int.toNat (i64.wrap ((k_1:Int) - 1))) default).no)))) ||(!(a7 (q0.then_)))) ||(!(lm (q0.rank)))) ||(!(eL (q0.if_))))then .inl ()else .inr ())
def qK (a0:Plea)(k_1:Nat)(s_1:Unit):Prop:=letI q0:=a0.clauses.getD k_1 default;letI q1:=i64.wrap ((k_1:Int) - 1);letI q2:=decide ((k_1:Int) > 0);letI q3:= !(lm (q0.no));(a0.clauses.length<=aA->((q3=false->(q2=true->(0<=q1/\q1< (a0.clauses.length:Int))))/\((((q3||(q2&&(decide (q0.no<=(a0.clauses.getD (Int.toNat q1) default).no)))) ||(!(a7 (q0.then_)))) ||(!(lm (q0.rank))))=false->(nj (q0.if_)))))
@[go_sem] def tz (a0:Plea)(k_2:Nat)(s_2:Unit):Unit⊕Unit:=(bif(aO (az a0) (i64.wrap (0 - ((az a0).getD k_2 0))))then .inl ()else .inr ())
def eV (a0:Plea):Int:=(bif((decide ((a0.facts.length:Int) > 64)) ||(decide ((a0.clauses.length:Int) > 64)))then 2 else(match aq (p7 a0) a0.clauses.length 0 ()with| .inl x_0_0=>2| .inr s_0=>(bif(!(eL a0.facts))then 510 else(match aq (kF a0) a0.clauses.length 0 ()with| .inl x_1_0=>510| .inr s_1=>(match aq (tz a0) ((az a0).length) 0 ()with| .inl x_2_0=>510| .inr s_2=>0)))))
def oo (a0:Plea):Prop:=letI q0:=kF a0;(a0.facts.length<=aA->(((decide ((a0.facts.length:Int) > 64)) ||(decide ((a0.clauses.length:Int) > 64)))=false->(∀ s_0,aq (p7 a0) a0.clauses.length 0 ()=.inr s_0->((nj a0.facts)/\((!(eL a0.facts))=false->(okI q0 (qK a0) a0.clauses.length 0 ()/\(∀ s_1,aq q0 a0.clauses.length 0 ()=.inr s_1->(nk a0))))))))
@[go_sem] def uu:List SV->Option Con:=(pD .plea fun a0=>(pE (.det (oo a0) (.v (.int .i64 (eV a0))))))
theorem ZX {p:Prop}(h:p:=by simp only[go_sem,Nat.reduceBEq,Nat.reduceLeDiff,Nat.reduceLT,decide_true,Nat.reduceAdd,Nat.reduceSub,Nat.reduceMul,Int.reduceLE,Int.reduceLT,Int.reduceToNat,Int.reduceNeg,reduceCtorEq,hb2]):p:=h
theorem xi:FnOk Tryz.prog 68 uu:=by
 have hG:ConsOk Tryz.prog (mkG [(69,lH),(120,fun l=>xf (aP [.sl .int] l)),(121,xh),(122,fun l=>tx (aP [.st .plea] l)),(123,fun l=>jD (aP [.sl .int,.o] l))] []):=am (cgc nK (cgc (A1.norm [.sl .int]) (cgc A2 (cgc (vZ.norm [.st .plea]) (cgc (jE.norm [.sl .int,.o]) cg0))))) cg0;refine av [.o] mixed ai hG (fn:=Tryz.f68) (c:=aa Tryz.f68) kr kr kr kr (aF fun a0=>(ah (fun hp=>?_)));dsimp only[an]at hp;unfold oo at hp;refine⟨nbl rfl,(fun id st=>bif Nat.beq id 0 then some (LCR (ρ:=Unit) (σ:=Unit) 1 [] [0] (fun k_0 s_0=>⟨[(1,.ptr 0 0),(3,.v (.int .i64 (k_0:Int)))],[.cells (cellsOf .plea a0)]⟩) (p7 a0) pT a0.clauses.length () (True) (fun _=>.ret) (fun x_0_0=>⟨[(2,.v (.int .i64 2))],[.dead]⟩) st)else bif Nat.beq id 2 then some (LCR (ρ:=Unit) (σ:=Unit) 1 [] [0] (fun k_1 s_1=>⟨[(1,.ptr 0 0),(4,.v (.int .i64 (k_1:Int)))],[.cells (cellsOf .plea a0)]⟩) (kF a0) (qK a0) a0.clauses.length () (True) (fun _=>.ret) (fun x_1_0=>⟨[(2,.v (.int .i64 510))],[.dead]⟩) st)else bif Nat.beq id 4 then some (LCR (ρ:=Unit) (σ:=Unit) 2 [] [0,1] (fun k_2 s_2=>⟨[(6,.os 1),(7,.v (.int .i64 (k_2:Int)))],[.dead,.row .int (az a0)]⟩) (tz a0) pT ((az a0).length) () (True) (fun _=>.ret) (fun x_2_0=>⟨[(2,.v (.int .i64 510))],[.dead,.dead]⟩) st)else none),?_,?_⟩
 ·unfold aa Tryz.f68;simp only[ak,true_and,and_true];refine⟨?_,?_,?_⟩
  ·refine cB (a0.clauses.length<=aA) mixed ai hG kr (fun _=>rfl) (a0.clauses.length:Int) rfl dV (fun hb0 k_0 s_0 hlt0 _ hw hc=>⟨L0,ag _,?_⟩) (fun hb0 s_0 hc=>?_) fun hb0 k_0 s_0=>?_
   ·exact aL (jl [0])
   ·exact aK (jl [0])
   ·exact zq7
  ·refine cB (a0.clauses.length<=aA) mixed ai hG kr (fun _=>rfl) (a0.clauses.length:Int) rfl dV (fun hb1 k_1 s_1 hlt1 hq1 hw hc=>⟨L0,ag _,?_⟩) (fun hb1 s_1 hc=>?_) fun hb1 k_1 s_1=>?_
   ·unfold qK at hq1;try simp only[hw,Int.toNat_natCast]at hq1
    exact aL (jl [0])
   ·exact aK (jl [0])
   ·exact OS
  ·refine cB ((az a0).length<=aA) mixed ai hG kr (fun _=>rfl) ((az a0).length:Int) rfl dV (fun hb2 k_2 s_2 hlt2 _ hw hc=>⟨L0,ag _,?_⟩) (fun hb2 s_2 hc=>?_) fun hb2 k_2 s_2=>?_
   ·exact aL (jl [0,1])
   ·exact aK (jl [0,1])
   ·exact ZX
 ·unfold aa Tryz.f68;try unfold eV
  exact zq1
def jF (s_:Acequiaref51State)(c:Clause):Bool:=(o8 s_.proved c.if_)
@[go_sem] def tA:List SV->Option Con:=(pD .acequiaref51State fun s_=>(pD .clause fun c=>(pE (.det True (.v (.bool (jF s_ c)))))))
theorem uc:FnOk Tryz.prog 234 tA:=by
 have hG:ConsOk Tryz.prog (mkG [(160,fun l=>xg (aP [.sl .int,.sl .int] l))] []):=am (cgc (zu.norm [.sl .int,.sl .int]) cg0) cg0;refine av [.o] mixed ai hG (fn:=Tryz.f234) (c:=aa Tryz.f234) kr kr kr kr (aF fun s_=>(aF fun c=>(ah (fun hp=>?_))));dsimp only[an]at hp;refine⟨nbl rfl,L0,ag _,?_⟩
 ·unfold aa Tryz.f234;try unfold jF
  exact zq1
def iF (s_:Acequiaref51State)(c:Clause):Bool:=(tw s_.refuted c.if_)
@[go_sem] def ud:List SV->Option Con:=(pD .acequiaref51State fun s_=>(pD .clause fun c=>(pE (.det True (.v (.bool (iF s_ c)))))))
theorem vP:FnOk Tryz.prog 232 ud:=by
 have hG:ConsOk Tryz.prog (mkG [(256,fun l=>zv (aP [.sl .int,.sl .int] l))] []):=am (cgc (Dz.norm [.sl .int,.sl .int]) cg0) cg0;refine av [.o] mixed ai hG (fn:=Tryz.f232) (c:=aa Tryz.f232) kr kr kr kr (aF fun s_=>(aF fun c=>(ah (fun hp=>?_))));dsimp only[an]at hp;refine⟨nbl rfl,L0,ag _,?_⟩
 ·unfold aa Tryz.f232;try unfold iF
  exact zq1
@[go_sem] def tB (p:Plea)(s_:Acequiaref51State)(q:Int)(k_0:Nat)(s_0:Unit):Unit⊕Unit:=(bif(((p.clauses.getD k_0 default).then_==q)&&(jF s_ (p.clauses.getD k_0 default)))then .inl ()else .inr ())
def jk (p:Plea)(s_:Acequiaref51State)(q:Int):Bool:=(match aq (tB p s_ q) p.clauses.length 0 ()with| .inl x_0_0=>true| .inr s_0=>false)
@[go_sem] def ue:List SV->Option Con:=(pD .plea fun p=>(pD .acequiaref51State fun s_=>(pI fun q=>(pE (.det True (.v (.bool (jk p s_ q))))))))
theorem yB:FnOk Tryz.prog 231 ue:=by
 have hG:ConsOk Tryz.prog (mkG [(234,fun l=>tA (aP [.st .acequiaref51State,.st .clause] l))] []):=am (cgc (uc.norm [.st .acequiaref51State,.st .clause]) cg0) cg0;refine av [.o] mixed ai hG (fn:=Tryz.f231) (c:=aa Tryz.f231) kr kr kr kr (aF fun p=>(aF fun s_=>(br fun q=>(ah (fun hp=>?_)))));dsimp only[an]at hp;refine⟨nbl rfl,(fun id st=>bif Nat.beq id 0 then some (LCR (ρ:=Unit) (σ:=Unit) 2 [] [0,1] (fun k_0 s_0=>⟨[(2,.v (.int .i64 q)),(3,.ptr 0 0),(4,.ptr 1 0),(7,.v (.int .i64 (k_0:Int)))],[.cells (cellsOf .plea p),.cells (cellsOf .acequiaref51State s_)]⟩) (tB p s_ q) pT p.clauses.length () (True) (fun _=>.ret) (fun x_0_0=>⟨[(6,.v (.bool true))],[.dead,.dead]⟩) st)else none),?_,?_⟩
 ·unfold aa Tryz.f231;simp only[ak,true_and,and_true]
  ·refine cB (p.clauses.length<=aA) mixed ai hG kr (fun _=>rfl) (p.clauses.length:Int) rfl dV (fun hb0 k_0 s_0 hlt0 _ hw hc=>⟨L0,ag _,?_⟩) (fun hb0 s_0 hc=>?_) fun hb0 k_0 s_0=>?_
   ·exact aL (jl [0,1])
   ·exact aK (jl [0,1])
   ·exact zq7
 ·unfold aa Tryz.f231;try unfold jk
  exact zq1
@[go_sem] def v2 (p:Plea)(s_:Acequiaref51State)(q:Int)(rank:Int)(k_0:Nat)(s_0:Unit):Unit⊕Unit:=(bif((((p.clauses.getD k_0 default).then_==q)&&(jF s_ (p.clauses.getD k_0 default)))&&(decide ((p.clauses.getD k_0 default).rank > rank)))then .inl ()else .inr ())
def ln (p:Plea)(s_:Acequiaref51State)(q:Int)(rank:Int):Bool:=(match aq (v2 p s_ q rank) p.clauses.length 0 ()with| .inl x_0_0=>true| .inr s_0=>false)
@[go_sem] def xj:List SV->Option Con:=(pD .plea fun p=>(pD .acequiaref51State fun s_=>(pI fun q=>(pI fun rank=>(pE (.det True (.v (.bool (ln p s_ q rank)))))))))
theorem A3:FnOk Tryz.prog 233 xj:=by
 have hG:ConsOk Tryz.prog (mkG [(234,fun l=>tA (aP [.st .acequiaref51State,.st .clause] l))] []):=am (cgc (uc.norm [.st .acequiaref51State,.st .clause]) cg0) cg0;refine av [.o] mixed ai hG (fn:=Tryz.f233) (c:=aa Tryz.f233) kr kr kr kr (aF fun p=>(aF fun s_=>(br fun q=>(br fun rank=>(ah (fun hp=>?_))))));dsimp only[an]at hp;refine⟨nbl rfl,(fun id st=>bif Nat.beq id 0 then some (LCR (ρ:=Unit) (σ:=Unit) 2 [] [0,1] (fun k_0 s_0=>⟨[(2,.v (.int .i64 q)),(3,.v (.int .i64 rank)),(4,.ptr 0 0),(5,.ptr 1 0),(9,.v (.int .i64 (k_0:Int)))],[.cells (cellsOf .plea p),.cells (cellsOf .acequiaref51State s_)]⟩) (v2 p s_ q rank) pT p.clauses.length () (True) (fun _=>.ret) (fun x_0_0=>⟨[(8,.v (.bool true))],[.dead,.dead]⟩) st)else none),?_,?_⟩
 ·unfold aa Tryz.f233;simp only[ak,true_and,and_true]
  ·refine cB (p.clauses.length<=aA) mixed ai hG kr (fun _=>rfl) (p.clauses.length:Int) rfl dV (fun hb0 k_0 s_0 hlt0 _ hw hc=>⟨L0,ag _,?_⟩) (fun hb0 s_0 hc=>?_) fun hb0 k_0 s_0=>?_
   ·exact aL (jl [0,1])
   ·exact aK (jl [0,1])
   ·exact zq7
 ·unfold aa Tryz.f233;try unfold ln
  exact zq1
@[go_sem] def v6 (p:Plea)(s_:Acequiaref51State)(q:Int)(k_0:Nat)(s_0:Unit):Unit⊕Unit:=(bif((((p.clauses.getD k_0 default).then_==(i64.wrap (0 - q)))&&(!(iF s_ (p.clauses.getD k_0 default))))&&(!(ln p s_ q ((p.clauses.getD k_0 default).rank))))then .inl ()else .inr ())
def lr (p:Plea)(s_:Acequiaref51State)(q:Int):Bool:=(bif((aO s_.strict (i64.wrap (0 - q))) ||(!(jk p s_ q)))then false else(match aq (v6 p s_ q) p.clauses.length 0 ()with| .inl x_0_0=>false| .inr s_0=>true))
@[go_sem] def xk:List SV->Option Con:=(pD .plea fun p=>(pD .acequiaref51State fun s_=>(pI fun q=>(pE (.det True (.v (.bool (lr p s_ q))))))))
theorem A4:FnOk Tryz.prog 204 xk:=by
 have hG:ConsOk Tryz.prog (mkG [(123,fun l=>jD (aP [.sl .int,.o] l)),(231,fun l=>ue (aP [.st .plea,.st .acequiaref51State,.o] l)),(232,fun l=>ud (aP [.st .acequiaref51State,.st .clause] l)),(233,fun l=>xj (aP [.st .plea,.st .acequiaref51State,.o,.o] l))] []):=am (cgc (jE.norm [.sl .int,.o]) (cgc (yB.norm [.st .plea,.st .acequiaref51State,.o]) (cgc (vP.norm [.st .acequiaref51State,.st .clause]) (cgc (A3.norm [.st .plea,.st .acequiaref51State,.o,.o]) cg0)))) cg0;refine av [.o] mixed ai hG (fn:=Tryz.f204) (c:=aa Tryz.f204) kr kr kr kr (aF fun p=>(aF fun s_=>(br fun q=>(ah (fun hp=>?_)))));dsimp only[an]at hp;refine⟨nbl rfl,(fun id st=>bif Nat.beq id 0 then some (LCR (ρ:=Unit) (σ:=Unit) 2 [] [0,1] (fun k_0 s_0=>⟨[(2,.v (.int .i64 q)),(3,.ptr 0 0),(4,.ptr 1 0),(7,.v (.int .i64 (k_0:Int)))],[.cells (cellsOf .plea p),.cells (cellsOf .acequiaref51State s_)]⟩) (v6 p s_ q) pT p.clauses.length () (True) (fun _=>.ret) (fun x_0_0=>⟨[(6,.v (.bool false))],[.dead,.dead]⟩) st)else none),?_,?_⟩
 ·unfold aa Tryz.f204;simp only[ak,true_and,and_true]
  ·refine cB (p.clauses.length<=aA) mixed ai hG kr (fun _=>rfl) (p.clauses.length:Int) rfl dV (fun hb0 k_0 s_0 hlt0 _ hw hc=>⟨L0,ag _,?_⟩) (fun hb0 s_0 hc=>?_) fun hb0 k_0 s_0=>?_
   ·exact aL (jl [0,1])
   ·exact aK (jl [0,1])
   ·exact zq7
 ·unfold aa Tryz.f204;try unfold lr
  exact zq1
@[go_sem] def x7 (p:Plea)(s_:Acequiaref51State)(q:Int)(rank:Int)(k_0:Nat)(s_0:Unit):Unit⊕Unit:=(bif((((p.clauses.getD k_0 default).then_==q)&&(!(iF s_ (p.clauses.getD k_0 default))))&&(decide ((p.clauses.getD k_0 default).rank > rank)))then .inl ()else .inr ())
def oS (p:Plea)(s_:Acequiaref51State)(q:Int)(rank:Int):Bool:=(match aq (x7 p s_ q rank) p.clauses.length 0 ()with| .inl x_0_0=>false| .inr s_0=>true)
@[go_sem] def zw:List SV->Option Con:=(pD .plea fun p=>(pD .acequiaref51State fun s_=>(pI fun q=>(pI fun rank=>(pE (.det True (.v (.bool (oS p s_ q rank)))))))))
theorem DA:FnOk Tryz.prog 236 zw:=by
 have hG:ConsOk Tryz.prog (mkG [(232,fun l=>ud (aP [.st .acequiaref51State,.st .clause] l))] []):=am (cgc (vP.norm [.st .acequiaref51State,.st .clause]) cg0) cg0;refine av [.o] mixed ai hG (fn:=Tryz.f236) (c:=aa Tryz.f236) kr kr kr kr (aF fun p=>(aF fun s_=>(br fun q=>(br fun rank=>(ah (fun hp=>?_))))));dsimp only[an]at hp;refine⟨nbl rfl,(fun id st=>bif Nat.beq id 0 then some (LCR (ρ:=Unit) (σ:=Unit) 2 [] [0,1] (fun k_0 s_0=>⟨[(2,.v (.int .i64 q)),(3,.v (.int .i64 rank)),(4,.ptr 0 0),(5,.ptr 1 0),(9,.v (.int .i64 (k_0:Int)))],[.cells (cellsOf .plea p),.cells (cellsOf .acequiaref51State s_)]⟩) (x7 p s_ q rank) pT p.clauses.length () (True) (fun _=>.ret) (fun x_0_0=>⟨[(8,.v (.bool false))],[.dead,.dead]⟩) st)else none),?_,?_⟩
 ·unfold aa Tryz.f236;simp only[ak,true_and,and_true]
  ·refine cB (p.clauses.length<=aA) mixed ai hG kr (fun _=>rfl) (p.clauses.length:Int) rfl dV (fun hb0 k_0 s_0 hlt0 _ hw hc=>⟨L0,ag _,?_⟩) (fun hb0 s_0 hc=>?_) fun hb0 k_0 s_0=>?_
   ·exact aL (jl [0,1])
   ·exact aK (jl [0,1])
   ·exact zq7
 ·unfold aa Tryz.f236;try unfold oS
  exact zq1
@[go_sem] def x8 (p:Plea)(s_:Acequiaref51State)(q:Int)(k_0:Nat)(s_0:Unit):Unit⊕Unit:=(bif(((p.clauses.getD k_0 default).then_==q)&&(!(iF s_ (p.clauses.getD k_0 default))))then .inl ()else .inr ())
def qL (p:Plea)(s_:Acequiaref51State)(q:Int):Bool:=(match aq (x8 p s_ q) p.clauses.length 0 ()with| .inl x_0_0=>false| .inr s_0=>true)
@[go_sem] def zx:List SV->Option Con:=(pD .plea fun p=>(pD .acequiaref51State fun s_=>(pI fun q=>(pE (.det True (.v (.bool (qL p s_ q))))))))
theorem DB:FnOk Tryz.prog 235 zx:=by
 have hG:ConsOk Tryz.prog (mkG [(232,fun l=>ud (aP [.st .acequiaref51State,.st .clause] l))] []):=am (cgc (vP.norm [.st .acequiaref51State,.st .clause]) cg0) cg0;refine av [.o] mixed ai hG (fn:=Tryz.f235) (c:=aa Tryz.f235) kr kr kr kr (aF fun p=>(aF fun s_=>(br fun q=>(ah (fun hp=>?_)))));dsimp only[an]at hp;refine⟨nbl rfl,(fun id st=>bif Nat.beq id 0 then some (LCR (ρ:=Unit) (σ:=Unit) 2 [] [0,1] (fun k_0 s_0=>⟨[(2,.v (.int .i64 q)),(3,.ptr 0 0),(4,.ptr 1 0),(7,.v (.int .i64 (k_0:Int)))],[.cells (cellsOf .plea p),.cells (cellsOf .acequiaref51State s_)]⟩) (x8 p s_ q) pT p.clauses.length () (True) (fun _=>.ret) (fun x_0_0=>⟨[(6,.v (.bool false))],[.dead,.dead]⟩) st)else none),?_,?_⟩
 ·unfold aa Tryz.f235;simp only[ak,true_and,and_true]
  ·refine cB (p.clauses.length<=aA) mixed ai hG kr (fun _=>rfl) (p.clauses.length:Int) rfl dV (fun hb0 k_0 s_0 hlt0 _ hw hc=>⟨L0,ag _,?_⟩) (fun hb0 s_0 hc=>?_) fun hb0 k_0 s_0=>?_
   ·exact aL (jl [0,1])
   ·exact aK (jl [0,1])
   ·exact zq7
 ·unfold aa Tryz.f235;try unfold qL
  exact zq1
@[go_sem] def u4 (p:Plea)(s_:Acequiaref51State)(q:Int)(k_0:Nat)(s_0:Unit):Unit⊕Unit:=(bif((((p.clauses.getD k_0 default).then_==(i64.wrap (0 - q)))&&(jF s_ (p.clauses.getD k_0 default)))&&(oS p s_ q ((p.clauses.getD k_0 default).rank)))then .inl ()else .inr ())
def jT (p:Plea)(s_:Acequiaref51State)(q:Int):Bool:=(bif(aO s_.strict q)then false else(bif((aO s_.strict (i64.wrap (0 - q))) ||(qL p s_ q))then true else(match aq (u4 p s_ q) p.clauses.length 0 ()with| .inl x_0_0=>true| .inr s_0=>false)))
@[go_sem] def v7:List SV->Option Con:=(pD .plea fun p=>(pD .acequiaref51State fun s_=>(pI fun q=>(pE (.det True (.v (.bool (jT p s_ q))))))))
theorem Ah:FnOk Tryz.prog 206 v7:=by
 have hG:ConsOk Tryz.prog (mkG [(123,fun l=>jD (aP [.sl .int,.o] l)),(234,fun l=>tA (aP [.st .acequiaref51State,.st .clause] l)),(235,fun l=>zx (aP [.st .plea,.st .acequiaref51State,.o] l)),(236,fun l=>zw (aP [.st .plea,.st .acequiaref51State,.o,.o] l))] []):=am (cgc (jE.norm [.sl .int,.o]) (cgc (uc.norm [.st .acequiaref51State,.st .clause]) (cgc (DB.norm [.st .plea,.st .acequiaref51State,.o]) (cgc (DA.norm [.st .plea,.st .acequiaref51State,.o,.o]) cg0)))) cg0;refine av [.o] mixed ai hG (fn:=Tryz.f206) (c:=aa Tryz.f206) kr kr kr kr (aF fun p=>(aF fun s_=>(br fun q=>(ah (fun hp=>?_)))));dsimp only[an]at hp;refine⟨nbl rfl,(fun id st=>bif Nat.beq id 0 then some (LCR (ρ:=Unit) (σ:=Unit) 2 [] [0,1] (fun k_0 s_0=>⟨[(2,.v (.int .i64 q)),(3,.ptr 0 0),(4,.ptr 1 0),(7,.v (.int .i64 (k_0:Int)))],[.cells (cellsOf .plea p),.cells (cellsOf .acequiaref51State s_)]⟩) (u4 p s_ q) pT p.clauses.length () (True) (fun _=>.ret) (fun x_0_0=>⟨[(6,.v (.bool true))],[.dead,.dead]⟩) st)else none),?_,?_⟩
 ·unfold aa Tryz.f206;simp only[ak,true_and,and_true]
  ·refine cB (p.clauses.length<=aA) mixed ai hG kr (fun _=>rfl) (p.clauses.length:Int) rfl dV (fun hb0 k_0 s_0 hlt0 _ hw hc=>⟨L0,ag _,?_⟩) (fun hb0 s_0 hc=>?_) fun hb0 k_0 s_0=>?_
   ·exact aL (jl [0,1])
   ·exact aK (jl [0,1])
   ·exact zq7
 ·unfold aa Tryz.f206;try unfold jT
  exact zq1
@[go_sem] def v8 (p:Plea)(s_:Acequiaref51State)(q:Int)(k_0:Nat)(s_0:Unit):Int⊕Unit:=(bif(((p.clauses.getD k_0 default).then_==q)&&(jF s_ (p.clauses.getD k_0 default)))then .inl (i64.wrap ((k_0:Int)+1))else .inr ())
def sG (p:Plea)(s_:Acequiaref51State)(q:Int):Int:=(match aq (v8 p s_ q) p.clauses.length 0 ()with| .inl x_0_0=>x_0_0| .inr s_0=>0)
@[go_sem] def xl:List SV->Option Con:=(pD .plea fun p=>(pD .acequiaref51State fun s_=>(pI fun q=>(pE (.det True (.v (.int .i64 (sG p s_ q))))))))
theorem A5:FnOk Tryz.prog 205 xl:=by
 have hG:ConsOk Tryz.prog (mkG [(234,fun l=>tA (aP [.st .acequiaref51State,.st .clause] l))] []):=am (cgc (uc.norm [.st .acequiaref51State,.st .clause]) cg0) cg0;refine av [.o] mixed ai hG (fn:=Tryz.f205) (c:=aa Tryz.f205) kr kr kr kr (aF fun p=>(aF fun s_=>(br fun q=>(ah (fun hp=>?_)))));dsimp only[an]at hp;refine⟨nbl rfl,(fun id st=>bif Nat.beq id 0 then some (LCR (ρ:=Int) (σ:=Unit) 2 [] [0,1] (fun k_0 s_0=>⟨[(2,.v (.int .i64 q)),(3,.ptr 0 0),(4,.ptr 1 0),(7,.v (.int .i64 (k_0:Int)))],[.cells (cellsOf .plea p),.cells (cellsOf .acequiaref51State s_)]⟩) (v8 p s_ q) pT p.clauses.length () (True) (fun _=>.ret) (fun x_0_0=>⟨[(6,.v (.int .i64 x_0_0))],[.dead,.dead]⟩) st)else none),?_,?_⟩
 ·unfold aa Tryz.f205;simp only[ak,true_and,and_true]
  ·refine cB (p.clauses.length<=aA) mixed ai hG kr (fun _=>rfl) (p.clauses.length:Int) rfl dV (fun hb0 k_0 s_0 hlt0 _ hw hc=>⟨L0,ag _,?_⟩) (fun hb0 s_0 hc=>?_) fun hb0 k_0 s_0=>?_
   ·exact aL (jl [0,1])
   ·exact aK (jl [0,1])
   ·exact zq7
 ·unfold aa Tryz.f205;try unfold sG
  exact zq1
@[go_sem] def eH (p:Plea)(s_:Acequiaref51State)(k_0:Nat)(s_0:Int×List Reason):(List Reason)⊕(Int×List Reason):=letI q0:=i64.wrap (s_0.1+1);(bif(decide (s_0.1<=32))then(bif(((s_0.1==0) ||(aO s_.proved s_0.1)) ||(aO s_.refuted s_0.1))then .inr (q0,s_0.2)else(bif(aO s_.strict s_0.1)then .inr (q0,(s_0.2++([({ literal:=s_0.1,clause:=0,proved:=true}:Reason)])))else(bif(lr p s_ s_0.1)then .inr (q0,(s_0.2++([({ literal:=s_0.1,clause:=(sG p s_ s_0.1),proved:=true}:Reason)])))else(bif(jT p s_ s_0.1)then .inr (q0,(s_0.2++([({ literal:=s_0.1,clause:=0,proved:=false}:Reason)])))else .inr (q0,s_0.2)))))else .inl s_0.2)
def kG (p:Plea)(s_:Acequiaref51State)(k_0:Nat)(s_0:Int×List Reason):Prop:=letI q0:=aO s_.strict s_0.1;letI q1:=lr p s_ s_0.1;((decide (s_0.1<=32))=true->((((s_0.1==0) ||(aO s_.proved s_0.1)) ||(aO s_.refuted s_0.1))=false->((q0=true->((s_0.2++([({ literal:=s_0.1,clause:=0,proved:=true}:Reason)])).length*24<=ez))/\(q0=false->((q1=true->((s_0.2++([({ literal:=s_0.1,clause:=(sG p s_ s_0.1),proved:=true}:Reason)])).length*24<=ez))/\(q1=false->((jT p s_ s_0.1)=true->((s_0.2++([({ literal:=s_0.1,clause:=0,proved:=false}:Reason)])).length*24<=ez))))))))
def g7 (p:Plea)(s_:Acequiaref51State):List Reason:=(match aq (eH p s_) 130 0 ((-32),[])with| .inl x_0_0=>x_0_0| .inr s_0=>default)
def oq (p:Plea)(s_:Acequiaref51State):Prop:=(okI (eH p s_) (kG p s_) 130 0 ((-32),[])/\(∀ z_,aq (eH p s_) 130 0 ((-32),[])≠ .inr z_))
@[go_sem] def x9:List SV->Option Con:=(pD .plea fun p=>(pD .acequiaref51State fun s_=>(pE (.det (oq p s_) (.nw .reason (g7 p s_))))))
theorem CX:FnOk Tryz.prog 161 x9:=by
 have hG:ConsOk Tryz.prog (mkG [(123,fun l=>jD (aP [.sl .int,.o] l)),(204,fun l=>xk (aP [.st .plea,.st .acequiaref51State,.o] l)),(205,fun l=>xl (aP [.st .plea,.st .acequiaref51State,.o] l)),(206,fun l=>v7 (aP [.st .plea,.st .acequiaref51State,.o] l))] []):=am (cgc (jE.norm [.sl .int,.o]) (cgc (A4.norm [.st .plea,.st .acequiaref51State,.o]) (cgc (A5.norm [.st .plea,.st .acequiaref51State,.o]) (cgc (Ah.norm [.st .plea,.st .acequiaref51State,.o]) cg0)))) cg0;refine CK [(.tmp 4,.reason)] mixed ai hG (fn:=Tryz.f161) (c:=aa Tryz.f161) kr kr kr kr (aF fun p=>(aF fun s_=>(ah (fun hp=>?_))));dsimp only[an]at hp;unfold oq at hp;refine⟨nbl rfl,(fun id st=>bif Nat.beq id 0 then some (LCV (ρ:=(List Reason)) (σ:=(Int×List Reason)) 2 [.slot 5 (.row .reason ([]))] [0,1,2] (fun k_0 s_0=>⟨[(2,.ptr 0 0),(3,.ptr 1 0),(5,.os 2),(6,.v (.int .i64 s_0.1))],[.cells (cellsOf .plea p),.cells (cellsOf .acequiaref51State s_),.row .reason s_0.2]⟩) (eH p s_) (kG p s_) 130 ((-32),[]) (fun _=>.normal) (fun x_0_0=>⟨[(5,.os 2)],[.dead,.dead,.row .reason x_0_0]⟩) st)else none),?_,?_⟩
 ·unfold aa Tryz.f161;simp only[ak,true_and,and_true]
  ·refine pj mixed ai hG kr (fun _=>rfl) fun k_0 s_0 hq0=>⟨L0,ag _,?_⟩
   ·unfold kG at hq0;exact Hf (jl [0,1,2]) (jl [0,1,4]) (jl [0,1,3])
 ·unfold aa Tryz.f161;try unfold g7
  exact zq1
@[go_sem] def zy (p:Plea)(k_0:Nat)(s_0:Unit):Unit⊕Unit:=(bif(((decide ((((p.clauses.getD k_0 default).if_).length:Int) > 4))&&(decide ((((p.clauses.getD k_0 default).if_).length:Int)<=8))) ||(decide ((((p.clauses.getD k_0 default).if_).length:Int) > 100)))then .inl ()else .inr ())
def Ai (p:Plea):Bool:=letI q0:=(p.clauses.length:Int);letI q1:=(p.facts.length:Int);(bif(((((decide (q1 > 20))&&(decide (q1<=64))) ||(decide (q1 > 100))) ||((decide (q0 > 12))&&(decide (q0<=64)))) ||(decide (q0 > 100)))then false else(match aq (zy p) p.clauses.length 0 ()with| .inl x_0_0=>false| .inr s_0=>true))
@[go_sem] def AE:List SV->Option Con:=(pD .plea fun p=>(pE (.det True (.v (.bool (Ai p))))))
theorem FK:FnOk Tryz.prog 63 AE:=by
 have hG:ConsOk Tryz.prog (mkG [] []):=am cg0 cg0;refine av [.o] mixed ai hG (fn:=Tryz.f63) (c:=aa Tryz.f63) kr kr kr kr (aF fun p=>(ah (fun hp=>?_)));dsimp only[an]at hp;refine⟨nbl rfl,(fun id st=>bif Nat.beq id 0 then some (LCR (ρ:=Unit) (σ:=Unit) 1 [] [0] (fun k_0 s_0=>⟨[(1,.ptr 0 0),(3,.v (.int .i64 (k_0:Int)))],[.cells (cellsOf .plea p)]⟩) (zy p) pT p.clauses.length () (True) (fun _=>.ret) (fun x_0_0=>⟨[(2,.v (.bool false))],[.dead]⟩) st)else none),?_,?_⟩
 ·unfold aa Tryz.f63;simp only[ak,true_and,and_true]
  ·refine cB (p.clauses.length<=aA) mixed ai hG kr (fun _=>rfl) (p.clauses.length:Int) rfl dV (fun hb0 k_0 s_0 hlt0 _ hw hc=>⟨L0,ag _,?_⟩) (fun hb0 s_0 hc=>?_) fun hb0 k_0 s_0=>?_
   ·exact aL (jl [0])
   ·exact aK (jl [0])
   ·exact zq7
 ·unfold aa Tryz.f63;try unfold Ai
  exact zq1
end Go.Sx
end
