/- Part of the proof that the law JudgementClash returns true and leaves its arguments as they were, for all arguments of bulk at most 1048576 (the Upto form). -/
import Derived.Test.YtnanafpgfihjfaaGreatJ508
import Derived.Test.YtnanafpgfihjfaaGreatJ507
import Derived.Sort.Statements
import Derived.Shelf.SlSortCmp.Insertion
set_option linter.all false
set_option maxHeartbeats 4000000
set_option maxRecDepth 100000
section
namespace Go.Sx
open Go.Proofs
open IntKind (i64)
theorem sR {l0 l1:List Nat}(a0:JL l0)(a1:JL l1){p:Prop}(h:JL l0->JL l1->p:=by intro ja jb;(first|done|(repeat' (first|with_reducible refine And.intro ?_ ?_|((with_reducible show _≠_);first|assumption|omega|(simp_all [et,fN];done) |grind) |with_reducible intro _)) <;>(first|done|with_reducible exact Empty.elim ‹Empty› |with_reducible assumption|rfl|omega|assumption|decide|exact fk ja|exact fk jb|exact czl|(simp only[*,cond_true,cond_false,Bool.not_true,Bool.not_false,go_sem,Nat.reduceBEq,Nat.reduceLeDiff,Nat.reduceLT,decide_true,Nat.reduceAdd,Nat.reduceSub,Nat.reduceMul,Int.reduceLE,Int.reduceLT,Int.reduceToNat,Int.reduceNeg,reduceCtorEq];(repeat' (first|with_reducible refine And.intro ?_ ?_|((with_reducible show _≠_);first|assumption|omega|(simp_all [et,fN];done) |grind) |with_reducible intro _)) <;>(first|done|assumption|rfl|omega|decide|exact fk ja|exact fk jb|(simp_all [et,fN];done))) |(simp_all [okI,et,fN];done) |(simp_all [et,fN];(first|done|exact fk2 ja|exact fk2 jb)) |exact fk2 ja|exact fk2 jb))):p:=h a0 a1
theorem mP {l0 l1:List Nat}(a0:JL l0)(a1:JL l1){p:Prop}(h:JL l0->JL l1->p:=by intro ja jb;simp only[go_sem,Nat.reduceBEq,Nat.reduceLeDiff,Nat.reduceLT,decide_true,Nat.reduceAdd,Nat.reduceSub,Nat.reduceMul,Int.reduceLE,Int.reduceLT,Int.reduceToNat,Int.reduceNeg,reduceCtorEq,hc];all_goals exact sR ja jb):p:=h a0 a1
@[go_sem] def bD (a0:Cases)(k_0:Nat)(s_0:Int×Int):(Int×Int)⊕(Int×Int):=letI q0:=a0.sides.getD k_0 0;letI q1:=Af .u64 1 (k_0:Int);(bif(!(aT q0 1))then .inl (s_0.1,s_0.2)else(bif(decide (q0=0))then .inr ((orI .u64 s_0.1 q1),s_0.2)else(bif(decide (q0=1))then .inr (s_0.1,(orI .u64 s_0.2 q1))else .inr default)))
def eh (a0:Cases)(k_0:Nat)(s_0:Int×Int):Prop:=letI q0:=a0.sides.getD k_0 0;((!(aT q0 1))=false->(((decide (q0=0))=true->0<=(k_0:Int))/\((decide (q0=0))=false->(((decide (q0=1))=true->0<=(k_0:Int))/\((decide (q0=1))=false->False)))))
@[go_sem] def eu (a0:Cases)(s_0:Int×Int)(k_1:Nat)(s_1:List PrecedentsDecided×Int×Int×Int):(List PrecedentsDecided)⊕(List PrecedentsDecided×Int×Int×Int):=letI q0:=a0.cases.getD k_1 default;letI q4:=(a0.sides.length:Int);letI q1:=aq (q0.reason) q4;letI q2:=aq (q0.facts) q4;letI q3:=((s_1.1++([({ winner:=q0.winner,facts:=q2.1,reason:=q1.1}:PrecedentsDecided)])),q0.no,q0.hour,q0.winner);(bif(((((decide (q0.no<=s_1.2.1)) ||(!(aT (q0.no) 1048576))) ||(decide (q0.hour<s_1.2.2.1))) ||(!(aT (q0.hour) 4096))) ||(!(aT (q0.winner) 1)))then .inl s_1.1 else(bif(decide (q0.winner=0))then(bif(((!q2.2) ||(!q1.2)) ||(!(aR (q1.1) (wi .u64 (q2.1) s_0.1))))then .inl s_1.1 else .inr q3)else(bif(decide (q0.winner=1))then(bif(((!q2.2) ||(!q1.2)) ||(!(aR (q1.1) (wi .u64 (q2.1) s_0.2))))then .inl s_1.1 else .inr q3)else .inr default)))
def ei (a0:Cases)(s_0:Int×Int)(k_1:Nat)(s_1:List PrecedentsDecided×Int×Int×Int):Prop:=letI q0:=a0.cases.getD k_1 default;letI q1:=(a0.sides.length:Int);letI q3:=aq (q0.reason) q1;letI q4:=aq (q0.facts) q1;letI q2:=(s_1.1++([({ winner:=q0.winner,facts:=q4.1,reason:=q3.1}:PrecedentsDecided)])).length*24<=c6;letI q5:=decide (q0.winner=0);letI q6:=decide (q0.winner=1);((((((decide (q0.no<=s_1.2.1)) ||(!(aT (q0.no) 1048576))) ||(decide (q0.hour<s_1.2.2.1))) ||(!(aT (q0.hour) 4096))) ||(!(aT (q0.winner) 1)))=false->(a0.sides.length<=aD->((gX (q0.facts) q1)/\(a0.sides.length<=aD->((gX (q0.reason) q1)/\((q5=true->((((!q4.2) ||(!q3.2)) ||(!(aR (q3.1) (wi .u64 (q4.1) s_0.1))))=false->q2))/\(q5=false->((q6=true->((((!q4.2) ||(!q3.2)) ||(!(aR (q3.1) (wi .u64 (q4.1) s_0.2))))=false->q2))/\(q6=false->False)))))))))
def av (a0:Cases):PrecedentsCourt×Int:=(bif((decide ((a0.sides.length:Int) > 32)) ||(decide ((a0.cases.length:Int) > 64)))then(({ favour:=(0,0),cases:=[]}:PrecedentsCourt),2)else(match an (bD a0) a0.sides.length 0 (0,0)with| .inl x_0_0=>(({ favour:=(x_0_0.1,x_0_0.2),cases:=[]}:PrecedentsCourt),520) | .inr s_0=>(match an (eu a0 s_0) a0.cases.length 0 ([],(-1),0,0)with| .inl x_1_0=>(({ favour:=(s_0.1,s_0.2),cases:=x_1_0}:PrecedentsCourt),520) | .inr s_1=>(({ favour:=(s_0.1,s_0.2),cases:=s_1.1}:PrecedentsCourt),0))))
def fH (a0:Cases):Prop:=letI q0:=bD a0;(a0.sides.length<=aD->(((decide ((a0.sides.length:Int) > 32)) ||(decide ((a0.cases.length:Int) > 64)))=false->(a0.sides.length<=aD->(okI q0 (eh a0) a0.sides.length 0 (0,0)/\(∀ s_0,an q0 a0.sides.length 0 (0,0)=.inr s_0->(a0.cases.length<=aD->okI (eu a0 s_0) (ei a0 s_0) a0.cases.length 0 ([],(-1),0,0)))))))
@[go_sem] def mm:List SV->Option Con:=(pD .cases fun a0=>(pE (.det (fH a0) (.tup [.agg (cellsOf .precedentsCourt ((av a0).1)),.v (.int .i64 ((av a0).2))]))))
theorem zq21 {l0:List Nat}(a0:JL l0){p:Prop}(h:JL l0->p:=by intro ja;simp only[go_sem,Nat.reduceBEq,Nat.reduceLeDiff,Nat.reduceLT,decide_true,Nat.reduceAdd,Nat.reduceSub,Nat.reduceMul,Int.reduceLE,Int.reduceLT,Int.reduceToNat,Int.reduceNeg,reduceCtorEq,hc,hw,hs0,Int.reduceEq,Int.reduceBEq,decide_false];all_goals exact jA ja):p:=h a0
theorem zq22 {l0:List Nat}(a0:JL l0){p:Prop}(h:JL l0->p:=by intro ja;simp only[go_sem,Nat.reduceBEq,Nat.reduceLeDiff,Nat.reduceLT,decide_true,Nat.reduceAdd,Nat.reduceSub,Nat.reduceMul,Int.reduceLE,Int.reduceLT,Int.reduceToNat,Int.reduceNeg,reduceCtorEq,hc,hw,hs1,Int.reduceEq,Int.reduceBEq,decide_false];all_goals exact jA ja):p:=h a0
theorem zq23 {l0 l1:List Nat}(a0:JL l0)(a1:JL l1){p:Prop}(h:JL l0->JL l1->p:=by intro ja jb;simp only[go_sem,Nat.reduceBEq,Nat.reduceLeDiff,Nat.reduceLT,decide_true,Nat.reduceAdd,Nat.reduceSub,Nat.reduceMul,Int.reduceLE,Int.reduceLT,Int.reduceToNat,Int.reduceNeg,reduceCtorEq,hc,hw,hs0,Int.reduceEq,Int.reduceBEq,decide_false];all_goals exact sR ja jb):p:=h a0 a1
theorem zq24 {l0 l1:List Nat}(a0:JL l0)(a1:JL l1){p:Prop}(h:JL l0->JL l1->p:=by intro ja jb;simp only[go_sem,Nat.reduceBEq,Nat.reduceLeDiff,Nat.reduceLT,decide_true,Nat.reduceAdd,Nat.reduceSub,Nat.reduceMul,Int.reduceLE,Int.reduceLT,Int.reduceToNat,Int.reduceNeg,reduceCtorEq,hc,hw,hs1,Int.reduceEq,Int.reduceBEq,decide_false];all_goals exact sR ja jb):p:=h a0 a1
theorem oS:FnOk Tryz.prog 75 mm:=by
 have hG:ConsOk Tryz.prog (mkG [(81,j8),(129,oe),(130,fun l=>rQ (bp [.sl .int,.o] l))] []):=ar (cgc mN (cgc rt (cgc (uX.norm [.sl .int,.o]) cg0))) cg0;refine ay [.st .precedentsCourt,.o] mixed ak hG (fn:=Tryz.f75) (c:=ae Tryz.f75) kr kr kr kr (bk fun a0=>(ai (fun hp=>?_)));dsimp only[ax]at hp;unfold fH at hp;refine⟨nbl rfl,(fun id st=>bif Nat.beq id 0 then some (LCR (ρ:=(Int×Int)) (σ:=(Int×Int)) 2 [] [0,1] (fun k_0 s_0=>⟨[(1,.ptr 0 0),(2,.ptr 1 0),(25,.rs .int a0.sides),(26,.v (.int .i64 (a0.sides.length:Int))),(27,.v (.int .i64 (k_0:Int)))],[.cells (cellsOf .cases a0),.cells [.v (.int .u64 s_0.1),.v (.int .u64 s_0.2),.v (.slice none 0 0)]]⟩) (bD a0) (eh a0) a0.sides.length (0,0) (a0.sides.length<=aD) (fun _=>.ret) (fun x_0_0=>⟨[(2,.ptr 1 0),(3,.v (.int .i64 520))],[.dead,.cells [.v (.int .u64 x_0_0.1),.v (.int .u64 x_0_0.2),.v (.slice none 0 0)]]⟩) st)else bif Nat.beq id 2 then some (LCR (ρ:=(List PrecedentsDecided)) (σ:=(List PrecedentsDecided×Int×Int×Int)) 3 [.cell 1 2 (.row .precedentsDecided ([]))] [0,1,2,3] (fun k_1 s_1=>⟨[(1,.ptr 0 0),(2,.ptr 1 0),(6,.ptr 2 0),(48,.rs .case a0.cases),(49,.v (.int .i64 (a0.cases.length:Int))),(50,.v (.int .i64 (k_1:Int)))],[.cells (cellsOf .cases a0),.cells [.v (.int .u64 (et (an (bD a0) a0.sides.length 0 (0,0))).1),.v (.int .u64 (et (an (bD a0) a0.sides.length 0 (0,0))).2),.os 3],.cells [.v (.int .i64 s_1.2.1),.v (.int .i64 s_1.2.2.1),.v (.int .i64 s_1.2.2.2),.any,.any],.row .precedentsDecided s_1.1]⟩) (eu a0 (et (an (bD a0) a0.sides.length 0 (0,0)))) (ei a0 (et (an (bD a0) a0.sides.length 0 (0,0)))) a0.cases.length ([],(-1),0,0) (a0.cases.length<=aD) (fun _=>.ret) (fun x_1_0=>⟨[(2,.ptr 1 0),(3,.v (.int .i64 520))],[.dead,.cells [.v (.int .u64 (et (an (bD a0) a0.sides.length 0 (0,0))).1),.v (.int .u64 (et (an (bD a0) a0.sides.length 0 (0,0))).2),.os 3],.dead,.row .precedentsDecided x_1_0]⟩) st)else none),?_,?_⟩
 ·unfold ae Tryz.f75;simp only[am,true_and,and_true];refine⟨?_,?_⟩
  ·refine a_ mixed ak hG kr (fun _=>rfl) (a0.sides.length:Int) rfl gA (fun hb0 k_0 s_0 hlt0 hq0 hw hc=>⟨L0,ag _,?_⟩) (fun hb0 s_0 hc=>?_)
   ·unfold eh at hq0;try simp only[hw,Int.toNat_natCast]at hq0
    by_cases hs0:(a0.sides.getD k_0 (0:Int))=0
    ·try simp only[hs0,decide_true,decide_false,Int.reduceEq,Bool.false_eq_true,Bool.true_eq_false,forall_const,true_imp_iff,false_imp_iff,and_true,true_and,reduceCtorEq]at hq0
     exact zq21 (jl [0,1])
    ·have hn0:=decide_eq_false hs0;by_cases hs1:(a0.sides.getD k_0 (0:Int))=1
     ·try simp only[hs1,decide_true,decide_false,Int.reduceEq,Bool.false_eq_true,Bool.true_eq_false,forall_const,true_imp_iff,false_imp_iff,and_true,true_and,reduceCtorEq]at hq0
      exact zq22 (jl [0,1])
     ·have hn1:=decide_eq_false hs1;simp only[go_sem,Nat.reduceBEq,Nat.reduceLeDiff,Nat.reduceLT,decide_true,Nat.reduceAdd,Nat.reduceSub,Nat.reduceMul,Int.reduceLE,Int.reduceLT,Int.reduceToNat,Int.reduceNeg,reduceCtorEq,hc,hw,hn0,hn1];all_goals (repeat' (first|with_reducible refine And.intro ?_ ?_|with_reducible intro _))
      all_goals first|exact jA (jl [0,1]) |(exfalso;simp_all;done)
   ·exact ba (jl [0,1])
  ·refine a_ mixed ak hG kr (fun _=>rfl) (a0.cases.length:Int) rfl gA (fun hb1 k_1 s_1 hlt1 hq1 hw hc=>⟨L0,ag _,?_⟩) (fun hb1 s_1 hc=>?_)
   ·unfold ei at hq1;try simp only[hw,Int.toNat_natCast]at hq1
    by_cases hs0:(a0.cases.getD k_1 (default:Case)).winner=0
    ·try simp only[hs0,decide_true,decide_false,Int.reduceEq,Bool.false_eq_true,Bool.true_eq_false,forall_const,true_imp_iff,false_imp_iff,and_true,true_and,reduceCtorEq]at hq1
     exact zq23 (jl [0,1,2,6]) (jl [0,1,2,3])
    ·have hn0:=decide_eq_false hs0;by_cases hs1:(a0.cases.getD k_1 (default:Case)).winner=1
     ·try simp only[hs1,decide_true,decide_false,Int.reduceEq,Bool.false_eq_true,Bool.true_eq_false,forall_const,true_imp_iff,false_imp_iff,and_true,true_and,reduceCtorEq]at hq1
      exact zq24 (jl [0,1,2,6]) (jl [0,1,2,3])
     ·have hn1:=decide_eq_false hs1;simp only[go_sem,Nat.reduceBEq,Nat.reduceLeDiff,Nat.reduceLT,decide_true,Nat.reduceAdd,Nat.reduceSub,Nat.reduceMul,Int.reduceLE,Int.reduceLT,Int.reduceToNat,Int.reduceNeg,reduceCtorEq,hc,hw,hn0,hn1];all_goals (repeat' (first|with_reducible refine And.intro ?_ ?_|with_reducible intro _))
      all_goals first|exact sR (jl [0,1,2,6]) (jl [0,1,2,3]) |(exfalso;simp_all;done)
   ·exact mP (jl [0,1,2,6]) (jl [0,1,2,3])
 ·unfold ae Tryz.f75;try unfold av
  exact zq1
def cS (b:Cases)(l_:List Int)(side:Int):PrecedentsCourt×Int×Int:=letI q0:=av b;letI q1:=aq l_ (b.sides.length:Int);(bif(q0.2 !=0)then((q0.1),0,q0.2)else(bif(!q1.2)then((q0.1),0,520)else(bif(!(aT side 1))then((q0.1),0,1)else((q0.1),q1.1,0))))
def iY (b:Cases)(l_:List Int)(side:Int):Prop:=((fH b)/\(((av b).2 !=0)=false->(b.sides.length<=aD->(gX l_ (b.sides.length:Int)))))
@[go_sem] def uY:List SV->Option Con:=(pD .cases fun b=>(pR .int fun l_=>(pI fun side=>(pE (.det (iY b l_ side) (.tup [.agg (cellsOf .precedentsCourt ((cS b l_ side).1)),.v (.int .u64 ((cS b l_ side).2.1)),.v (.int .i64 ((cS b l_ side).2.2))]))))))
theorem zp:FnOk Tryz.prog 79 uY:=by
 have hG:ConsOk Tryz.prog (mkG [(75,fun l=>mm (bp [.st .cases] l)),(129,oe),(130,fun l=>rQ (bp [.sl .int,.o] l))] []):=ar (cgc (oS.norm [.st .cases]) (cgc rt (cgc (uX.norm [.sl .int,.o]) cg0))) cg0;refine ay [.st .precedentsCourt,.o,.o] mixed ak hG (fn:=Tryz.f79) (c:=ae Tryz.f79) kr kr kr kr (bk fun b=>(bC fun l_=>(cI fun side=>(ai (fun hp=>?_)))));dsimp only[ax]at hp;unfold iY at hp;refine⟨nbl rfl,L0,ag _,?_⟩
 ·unfold ae Tryz.f79;try unfold cS
  exact zq1
def fS (c:PrecedentsCourt)(x:PrecedentsDecided)(facts:Int):Int:=(bif(decide ((i64.wrap (1 - x.winner))=0))then(nJ .u64 (wi .u64 facts c.favour.1) x.facts)else(bif(decide ((i64.wrap (1 - x.winner))=1))then(nJ .u64 (wi .u64 facts c.favour.2) x.facts)else default))
def ff (c:PrecedentsCourt)(x:PrecedentsDecided)(facts:Int):Prop:=((decide ((i64.wrap (1 - x.winner))=0))=false->((decide ((i64.wrap (1 - x.winner))=1))=false->False))
@[go_sem] def mQ:List SV->Option Con:=(pD .precedentsCourt fun c=>(pD .precedentsDecided fun x=>(pU fun facts=>(pE (.det (ff c x facts) (.v (.int .u64 (fS c x facts))))))))
theorem zq27 {p:Prop}(h:p:=by simp only[go_sem,Nat.reduceBEq,Nat.reduceLeDiff,Nat.reduceLT,decide_true,Nat.reduceAdd,Nat.reduceSub,Nat.reduceMul,Int.reduceLE,Int.reduceLT,Int.reduceToNat,Int.reduceNeg,reduceCtorEq,hs0,Int.reduceEq,Int.reduceBEq,decide_false];all_goals exact cl):p:=h
theorem zq28 {p:Prop}(h:p:=by simp only[go_sem,Nat.reduceBEq,Nat.reduceLeDiff,Nat.reduceLT,decide_true,Nat.reduceAdd,Nat.reduceSub,Nat.reduceMul,Int.reduceLE,Int.reduceLT,Int.reduceToNat,Int.reduceNeg,reduceCtorEq,hs1,Int.reduceEq,Int.reduceBEq,decide_false];all_goals exact cl):p:=h
theorem sr:FnOk Tryz.prog 82 mQ:=by
 have hG:ConsOk Tryz.prog (mkG [] []):=ar cg0 cg0;refine ay [.o] mixed ak hG (fn:=Tryz.f82) (c:=ae Tryz.f82) kr kr kr kr (bk fun c=>(bk fun x=>(Jz fun facts=>(ai (fun hp=>?_)))));dsimp only[ax]at hp;unfold ff at hp;refine⟨nbl rfl,L0,ag _,?_⟩
 ·unfold ae Tryz.f82;try unfold fS
  by_cases hs0:(i64.wrap (1 - x.winner))=0
  ·try simp only[hs0,decide_true,decide_false,Int.reduceEq,Bool.false_eq_true,Bool.true_eq_false,forall_const,true_imp_iff,false_imp_iff,and_true,true_and,reduceCtorEq]at hp
   exact zq27
  ·have hn0:=decide_eq_false hs0;by_cases hs1:(i64.wrap (1 - x.winner))=1
   ·try simp only[hs1,decide_true,decide_false,Int.reduceEq,Bool.false_eq_true,Bool.true_eq_false,forall_const,true_imp_iff,false_imp_iff,and_true,true_and,reduceCtorEq]at hp
    exact zq28
   ·have hn1:=decide_eq_false hs1;simp only[go_sem,Nat.reduceBEq,Nat.reduceLeDiff,Nat.reduceLT,decide_true,Nat.reduceAdd,Nat.reduceSub,Nat.reduceMul,Int.reduceLE,Int.reduceLT,Int.reduceToNat,Int.reduceNeg,reduceCtorEq,hn0,hn1];all_goals (repeat' (first|with_reducible refine And.intro ?_ ?_|with_reducible intro _))
    all_goals first|exact cl|(exfalso;simp_all;done)
def dN (b:Cases):Int:=(av b).2
def f_ (b:Cases):Prop:=(fH b)
@[go_sem] def li:List SV->Option Con:=(pD .cases fun b=>(pE (.det (f_ b) (.v (.int .i64 (dN b))))))
theorem og:FnOk Tryz.prog 64 li:=by
 have hG:ConsOk Tryz.prog (mkG [(75,fun l=>mm (bp [.st .cases] l))] []):=ar (cgc (oS.norm [.st .cases]) cg0) cg0;refine ay [.o] mixed ak hG (fn:=Tryz.f64) (c:=ae Tryz.f64) kr kr kr kr (bk fun b=>(ai (fun hp=>?_)));dsimp only[ax]at hp;unfold f_ at hp;refine⟨nbl rfl,L0,ag _,?_⟩
 ·unfold ae Tryz.f64;try unfold dN
  exact zq1
end Go.Sx
end
section
namespace Go.Sx
open Go.RowKit
def orC {α:Type 1}:Option α->Option α->Option α
 |some x,_=>some x
 |none,y=>y
@[go_sem] theorem Zg {α:Type 1}{x:α}{y:Option α}:orC (some x) y=some x:=(rfl)
@[go_sem] theorem Zh {α:Type 1}{y:Option α}:orC none y=y:=(rfl)
theorem xA {α:Type 1}{a b:Option α}{c:α}(h:orC a b=some c):a=some c\/b=some c:=by
 cases a with
 |none=>exact .inr h
 |some x=>exact .inl h
theorem FnOkO.or {P:Program}{f:FuncId}{C D:List SV->List Ob->Option HCon}(h1:FnOkO P f C)(h2:FnOkO P f D):FnOkO P f (fun l h=>orC (C l h) (D l h)):=
 ⟨fun l h c hc=>by rcases xA hc with e|e;exact h1.enter l h c e;exact h2.enter l h c e,
  fun l h c hc=>by rcases xA hc with e|e;exact h1.calls l h c e;exact h2.calls l h c e⟩
theorem FnOk.or {P:Program}{f:FuncId}{C D:List SV->Option Con}(h1:FnOk P f C)(h2:FnOk P f D):FnOk P f (fun l=>orC (C l) (D l)):=
 ⟨fun l c hc=>by rcases xA hc with e|e;exact h1.enter l c e;exact h2.enter l c e,
  fun l c hc=>by rcases xA hc with e|e;exact h1.calls l c e;exact h2.calls l c e⟩
end Go.Sx
end
section
namespace Go.Sx
open Go.Proofs
open IntKind (i64)
theorem sS {l0:List Nat}(a0:JL l0){p:Prop}(h:JL l0->p:=by intro ja;simp only[go_sem,Nat.reduceBEq,Nat.reduceLeDiff,Nat.reduceLT,decide_true,Nat.reduceAdd,Nat.reduceSub,Nat.reduceMul,Int.reduceLE,Int.reduceLT,Int.reduceToNat,Int.reduceNeg,reduceCtorEq];all_goals exact jA ja):p:=h a0
def gb (x:PrecedentsDecided)(side_:Int)(facts_:Int)(c_:PrecedentsCourt):Bool:=(((x.winner==side_)&&(aR x.reason facts_))&&((fS c_ x facts_) ==0))
def gc (x:PrecedentsDecided)(side_:Int)(facts_:Int)(c_:PrecedentsCourt):Prop:=(((x.winner==side_)&&(aR x.reason facts_))=true->(ff c_ x facts_))
@[go_sem] def ru:List SV->Option Con:=(pD .precedentsDecided fun x=>(pX .int fun side_=>(pXU fun facts_=>(pX .precedentsCourt fun c_=>(pE (.det (gc x side_ facts_ c_) (.v (.bool (gb x side_ facts_ c_)))))))))
theorem wj:FnOk Tryz.prog 80 ru:=by
 have hG:ConsOk Tryz.prog (mkG [(81,j8),(82,fun l=>mQ (bp [.st .precedentsCourt,.st .precedentsDecided,.o] l))] []):=ar (cgc mN (cgc (sr.norm [.st .precedentsCourt,.st .precedentsDecided,.o]) cg0)) cg0;refine ay [.o] mixed ak hG (fn:=Tryz.f80) (c:=ae Tryz.f80) kr kr kr kr (bk fun x=>(aQ fun side_=>(K1 fun facts_=>(aQ fun c_=>(ai (fun hp=>?_))))));dsimp only[ax]at hp;unfold gc at hp;refine⟨nbl rfl,L0,ag _,?_⟩
 ·unfold ae Tryz.f80;try unfold gb
  exact zq1
theorem clW {p:Prop}(h:p:=by((repeat' (first|with_reducible refine And.intro ?_ ?_|with_reducible intro _)) <;>first|exact cl|(rename_i x hx;rcases x with x|x <;>simp only[go_sem,Nat.reduceBEq,Nat.reduceLeDiff,Nat.reduceLT,decide_true,Nat.reduceAdd,Nat.reduceSub,Nat.reduceMul,Int.reduceLE,Int.reduceLT,Int.reduceToNat,Int.reduceNeg,reduceCtorEq] <;>(simp only[*];done)))):p:=h
@[go_sem] def aO (l_:List PrecedentsDecided)(side_:Int)(facts_:Int)(c_:PrecedentsCourt)(k_0:Nat)(s_0:Int):(Int⊕Unit)⊕Int:=(bif(decide (s_0< (l_.length:Int)))then(bif(gb (l_.getD (Int.toNat s_0) default) side_ facts_ c_)then .inl (.inl s_0)else .inr (i64.wrap (s_0+1)))else .inl (.inr ()))
def be (l_:List PrecedentsDecided)(side_:Int)(facts_:Int)(c_:PrecedentsCourt)(k_0:Nat)(s_0:Int):Prop:=(l_.length<=aD->((decide (s_0< (l_.length:Int)))=true->((0<=s_0/\s_0< (l_.length:Int))/\(gc (l_.getD (Int.toNat s_0) default) side_ facts_ c_))))
def cg (l_:List PrecedentsDecided)(fr:Int)(side_:Int)(facts_:Int)(c_:PrecedentsCourt):Int×Bool:=(match an (aO l_ side_ facts_ c_) (l_.length+1) 0 fr with| .inl (.inl x_0_0) =>(x_0_0,true) | .inl (.inr x_0_1) =>(0,false) | .inr s_0=>default)
def bT (l_:List PrecedentsDecided)(fr:Int)(side_:Int)(facts_:Int)(c_:PrecedentsCourt):Prop:=letI q0:=aO l_ side_ facts_ c_;(okI q0 (be l_ side_ facts_ c_) (l_.length+1) 0 fr/\(∀ z_,an q0 (l_.length+1) 0 fr≠ .inr z_))
@[go_sem] def fa:List SV->Option Con:=(pR .precedentsDecided fun l_=>(pI fun fr=>(pFn 80 (pX .int fun side_=>(pXU fun facts_=>(pX .precedentsCourt fun c_=>(pE ((pE (.det (bT l_ fr side_ facts_ c_) (.tup [.v (.int .i64 ((cg l_ fr side_ facts_ c_).1)),.v (.bool ((cg l_ fr side_ facts_ c_).2))])))))))))))
theorem Zi {p:Prop}(h:p:=by simp only[go_sem,Nat.reduceBEq,Nat.reduceLeDiff,Nat.reduceLT,decide_true,Nat.reduceAdd,Nat.reduceSub,Nat.reduceMul,Int.reduceLE,Int.reduceLT,Int.reduceToNat,Int.reduceNeg,reduceCtorEq];all_goals exact clW):p:=h
theorem ia:FnOk Tryz.prog 77 fa:=by
 have hG:ConsOk Tryz.prog (mkG [(80,ru)] []):=ar (cgc wj cg0) cg0;refine ay [.o,.o] mixed ak hG (fn:=Tryz.f77) (c:=ae Tryz.f77) kr kr kr kr (bC fun l_=>(cI fun fr=>(bJ (aQ fun side_=>(K1 fun facts_=>(aQ fun c_=>(ai ((ai (fun hp=>?_))))))))));dsimp only[ax]at hp;unfold bT at hp;refine⟨nbl rfl,(fun id st=>bif Nat.beq id 0 then some (LCV (ρ:=(Int⊕Unit)) (σ:=Int) 0 [] [] (fun k_0 s_0=>⟨[(0,.rs .precedentsDecided l_),(2,.fn 80 [] [.ep [.v (.int .i64 side_)] 0,.ep [.v (.int .u64 facts_)] 0,.ep (cellsOf .precedentsCourt c_) 0]),(8,.v (.int .i64 s_0))],[]⟩) (aO l_ side_ facts_ c_) (be l_ side_ facts_ c_) (l_.length+1) fr (fun x=>match x with|(.inl _) =>.ret|(.inr _) =>.normal) (fun x=>match x with|(.inl x_0_0) =>⟨[(6,.v (.int .i64 x_0_0)),(7,.v (.bool true))],[]⟩ |(.inr x_0_1) =>⟨[],[]⟩) st)else none),?_,?_⟩
 ·unfold ae Tryz.f77;simp only[am,true_and,and_true]
  ·refine rq mixed ak hG kr (fun _=>rfl) fun k_0 s_0 hq0=>⟨L0,ag _,?_⟩
   ·unfold be at hq0;exact sS (jl [])
 ·unfold ae Tryz.f77;try unfold cg
  exact Zi
@[go_sem] noncomputable def fg:List SV->Option Con:=fun l=>(fa l)
theorem mA:FnOk Tryz.prog 77 fg:=ia
def aj (b:Cases)(l_:List Int)(side:Int):Int×Bool×Int:=letI q0:=cS b l_ side;letI q1:=cg ((q0.1).cases) 0 side (q0.2.1) (q0.1);(bif(q0.2.2 !=0)then(0,false,q0.2.2)else(q1.1,q1.2,0))
def cT (b:Cases)(l_:List Int)(side:Int):Prop:=((iY b l_ side)/\(((cS b l_ side).2.2 !=0)=false->(bT (((cS b l_ side).1).cases) 0 side ((cS b l_ side).2.1) ((cS b l_ side).1))))
@[go_sem] def lj:List SV->Option Con:=(pD .cases fun b=>(pR .int fun l_=>(pI fun side=>(pE (.det (cT b l_ side) (.tup [.v (.int .i64 ((aj b l_ side).1)),.v (.bool ((aj b l_ side).2.1)),.v (.int .i64 ((aj b l_ side).2.2))]))))))
theorem zq32 {p:Prop}(h:p:=by simp only[go_sem,Nat.reduceBEq,Nat.reduceLeDiff,Nat.reduceLT,decide_true,Nat.reduceAdd,Nat.reduceSub,Nat.reduceMul,Int.reduceLE,Int.reduceLT,Int.reduceToNat,Int.reduceNeg,reduceCtorEq,fg];all_goals exact cl):p:=h
theorem oh:FnOk Tryz.prog 34 lj:=by
 have hG:ConsOk Tryz.prog (mkG [(77,fun l=>fg (bp [.sl .precedentsDecided,.o,.o] l)),(79,fun l=>uY (bp [.st .cases,.sl .int,.o] l))] []):=ar (cgc (mA.norm [.sl .precedentsDecided,.o,.o]) (cgc (zp.norm [.st .cases,.sl .int,.o]) cg0)) cg0;refine ay [.o,.o,.o] mixed ak hG (fn:=Tryz.f34) (c:=ae Tryz.f34) kr kr kr kr (bk fun b=>(bC fun l_=>(cI fun side=>(ai (fun hp=>?_)))));dsimp only[ax]at hp;unfold cT at hp;refine⟨nbl rfl,L0,ag _,?_⟩
 ·unfold ae Tryz.f34;try unfold aj
  exact zq32
@[go_sem] def wb (l_:List Int)(k_0:Nat)(s_0:Unit):Int⊕Unit:=(bif((l_.getD k_0 0) !=0)then .inl (l_.getD k_0 0)else .inr ())
def iM (l_:List Int):Int:=(match an (wb l_) l_.length 0 ()with| .inl x_0_0=>x_0_0| .inr s_0=>0)
@[go_sem] def wT:List SV->Option Con:=(pR .int fun l_=>(pE (.det True (.v (.int .i64 (iM l_))))))
theorem Bp:FnOk Tryz.prog 128 wT:=by
 have hG:ConsOk Tryz.prog (mkG [] []):=ar cg0 cg0;refine ay [.o] mixed ak hG (fn:=Tryz.f128) (c:=ae Tryz.f128) kr kr kr kr (bC fun l_=>(ai (fun hp=>?_)));dsimp only[ax]at hp;refine⟨nbl rfl,(fun id st=>bif Nat.beq id 0 then some (LCR (ρ:=Int) (σ:=Unit) 0 [] [] (fun k_0 s_0=>⟨[(5,.rs .int l_),(6,.v (.int .i64 (l_.length:Int))),(7,.v (.int .i64 (k_0:Int)))],[]⟩) (wb l_) pT l_.length () (l_.length<=aD) (fun _=>.ret) (fun x_0_0=>⟨[(2,.v (.int .i64 x_0_0))],[]⟩) st)else none),?_,?_⟩
 ·unfold ae Tryz.f128;simp only[am,true_and,and_true]
  ·refine a_ mixed ak hG kr (fun _=>rfl) (l_.length:Int) rfl gA (fun hb0 k_0 s_0 hlt0 _ hw hc=>⟨L0,ag _,?_⟩) (fun hb0 s_0 hc=>?_)
   ·exact bi (jl [])
   ·exact ba (jl [])
 ·unfold ae Tryz.f128;try unfold iM
  exact zq1
def ll (a:Claim)(b:Claim):Int:=(iM ([(cK a.hour b.hour),(cK a.rank b.rank),(cK a.right b.right),(cK a.farm b.farm)]))
@[go_sem] def wU:List SV->Option Con:=(pD .claim fun a=>(pD .claim fun b=>(pE (.det True (.v (.int .i64 (ll a b)))))))
theorem Bq:FnOk Tryz.prog 74 wU:=by
 have hG:ConsOk Tryz.prog (mkG [(97,ml),(128,fun l=>wT (bp [.sl .int] l))] []):=ar (cgc oR (cgc (Bp.norm [.sl .int]) cg0)) cg0;refine ay [.o] mixed ak hG (fn:=Tryz.f74) (c:=ae Tryz.f74) kr kr kr kr (bk fun a=>(bk fun b=>(ai (fun hp=>?_))));dsimp only[ax]at hp;refine⟨nbl rfl,L0,ag _,?_⟩
 ·unfold ae Tryz.f74;try unfold ll
  exact zq1
@[go_sem] def gY (a0:District)(a1:List Claim)(k_0:Nat)(s_0:Unit):Unit⊕Unit:=letI q0:=a1.getD k_0 default;letI q1:=a0.rights.getD (Int.toNat (q0.right)) default;(bif((((!((((((((decide (q0.right>=0))&&(decide (q0.right< (a0.rights.length:Int))))&&(decide (q0.farm>=0)))&&(decide (q0.farm< (a0.farms.length:Int))))&&(decide (q0.hour>=0)))&&(decide (q0.hour<a0.hours)))&&(decide (q0.litres>=1)))&&(decide (q0.litres<=1073741824)))) ||(q1.kind !=1)) ||(q1.rank !=q0.rank)) ||((decide ((k_0:Int) > 0))&&(decide ((ll (a1.getD (Int.toNat (i64.wrap ((k_0:Int) - 1))) default) q0)>=0))))then .inl ()else .inr ())
def mn (a0:District)(a1:List Claim)(k_0:Nat)(s_0:Unit):Prop:=letI q1:=a1.getD k_0 default;letI q2:=a0.rights.getD (Int.toNat (q1.right)) default;letI q4:=i64.wrap ((k_0:Int) - 1);letI q5:=(a0.rights.length:Int);letI q0:= !((((((((decide (q1.right>=0))&&(decide (q1.right<q5)))&&(decide (q1.farm>=0)))&&(decide (q1.farm< (a0.farms.length:Int))))&&(decide (q1.hour>=0)))&&(decide (q1.hour<a0.hours)))&&(decide (q1.litres>=1)))&&(decide (q1.litres<=1073741824)));letI q3:=0<=q1.right/\q1.right<q5;((q0=false->q3)/\(((q0||(q2.kind !=1))=false->q3)/\(((q0||(q2.kind !=1)) ||(q2.rank !=q1.rank))=false->((decide ((k_0:Int) > 0))=true->(0<=q4/\q4< (a1.length:Int))))))
def di (a0:District)(a1:List Claim):Int:=(bif((bW a0) !=0)then(bW a0)else(bif(decide ((a1.length:Int) > 4096))then 2 else(match an (gY a0 a1) a1.length 0 ()with| .inl x_0_0=>260| .inr s_0=>0)))
def pF (a0:District)(a1:List Claim):Prop:=(((bW a0) !=0)=false->(a1.length<=aD->((decide ((a1.length:Int) > 4096))=false->(a1.length<=aD->okI (gY a0 a1) (mn a0 a1) a1.length 0 ()))))
@[go_sem] def wV:List SV->Option Con:=(pD .district fun a0=>(pR .claim fun a1=>(pE (.det (pF a0 a1) (.v (.int .i64 (di a0 a1)))))))
theorem Br:FnOk Tryz.prog 32 wV:=by
 have hG:ConsOk Tryz.prog (mkG [(57,fun l=>sQ (bp [.st .district] l)),(74,wU)] []):=ar (cgc (wa.norm [.st .district]) (cgc Bq cg0)) cg0;refine ay [.o] mixed ak hG (fn:=Tryz.f32) (c:=ae Tryz.f32) kr kr kr kr (bk fun a0=>(bC fun a1=>(ai (fun hp=>?_))));dsimp only[ax]at hp;unfold pF at hp;refine⟨nbl rfl,(fun id st=>bif Nat.beq id 0 then some (LCR (ρ:=Unit) (σ:=Unit) 1 [] [0] (fun k_0 s_0=>⟨[(1,.rs .claim a1),(2,.ptr 0 0),(16,.rs .claim a1),(17,.v (.int .i64 (a1.length:Int))),(18,.v (.int .i64 (k_0:Int)))],[.cells (cellsOf .district a0)]⟩) (gY a0 a1) (mn a0 a1) a1.length () (a1.length<=aD) (fun _=>.ret) (fun x_0_0=>⟨[(4,.v (.int .i64 260))],[.dead]⟩) st)else none),?_,?_⟩
 ·unfold ae Tryz.f32;simp only[am,true_and,and_true]
  ·refine a_ mixed ak hG kr (fun _=>rfl) (a1.length:Int) rfl gA (fun hb0 k_0 s_0 hlt0 hq0 hw hc=>⟨L0,ag _,?_⟩) (fun hb0 s_0 hc=>?_)
   ·unfold mn at hq0;try simp only[hw,Int.toNat_natCast]at hq0
    exact bi (jl [0])
   ·exact ba (jl [0])
 ·unfold ae Tryz.f32;try unfold di
  exact zq1
def aI (n:Int)(lo:Int)(hi:Int):Bool:=((decide (n>=lo))&&(decide (n<=hi)))
@[go_sem] def kx (b:Int)(k_0:Nat)(s_0:Int×Int):Int⊕(Int×Int):=(bif(decide (s_0.2 > 0))then .inr (s_0.2,(Int.tmod s_0.1 s_0.2))else .inl s_0.1)
def yD (b:Int)(k_0:Nat)(s_0:Int×Int):Prop:=((decide (s_0.2 > 0))=true->s_0.2≠0)
def ui (a:Int)(b:Int):Int:=(match an (kx b) (Int.toNat b+1) 0 (a,b)with| .inl x_0_0=>x_0_0| .inr s_0=>default)
def wc (a:Int)(b:Int):Prop:=(okI (kx b) (yD b) (Int.toNat b+1) 0 (a,b)/\(∀ z_,an (kx b) (Int.toNat b+1) 0 (a,b)≠ .inr z_))
def vS (n:Int):Int:=(bif(decide (n<0))then(i64.wrap (0 - n))else n)
def jB (a:Ratio):Bool:=(((((decide (a.d>=1))&&(decide (a.d<=1073741824)))&&(decide (a.n>=(-1073741824))))&&(decide (a.n<=1073741824)))&&((ui (vS a.n) a.d) ==1))
def qO (a:Ratio):Prop:=(((((decide (a.d>=1))&&(decide (a.d<=1073741824)))&&(decide (a.n>=(-1073741824))))&&(decide (a.n<=1073741824)))=true->(wc (vS a.n) a.d))
def mR (a:Ratio):Int:=(bif(!(jB a))then 120 else 0)
def x7 (a:Ratio):Prop:=(qO a)
def yE (a:Ratio)(b:Ratio):Bool:=(decide ((i64.wrap (a.n*b.d)) < (i64.wrap (b.n*a.d))))
def yF (a:Ratio)(b:Ratio):Bool:=((jB a)&&(jB b))
def zq (a:Ratio)(b:Ratio):Prop:=((qO a)/\((jB a)=true->(qO b)))
def xB (a:Ratio)(b:Ratio):Int×Int:=(bif(!(yF a b))then(0,120)else(bif(yE a b)then((-1),0)else(bif(yE b a)then(1,0)else(0,0))))
def HI (a:Ratio)(b:Ratio):Prop:=(zq a b)
def jC (x:Ratio×Ratio):Bool:=(bif(((mR x.1) !=0) ||((mR x.2) !=0))then false else(((decide (x.1.n>=0))&&(decide ((xB x.1 x.2).1<=0)))&&(decide (x.2.n<=x.2.d))))
def wW (x:Ratio×Ratio):Prop:=((x7 x.1)/\((((mR x.1) !=0)=false->(x7 x.2))/\((((mR x.1) !=0) ||((mR x.2) !=0))=false->(HI x.1 x.2))))
def wX (x:Reach):Bool:=(bif(((!(aI x.delay 1 16)) ||(!(aI x.cap 0 1073741824))) ||(!(aI x.bank 0 1099511627776)))then false else(bif(((!(aI x.siphon 0 (if x.bank<x.cap then x.bank else x.cap))) ||(!(aI x.evap.lo 0 x.evap.hi))) ||(decide (x.evap.hi > 1073741824)))then false else(jC x.seep)))
def x8 (x:Reach):Prop:=((((!(aI x.delay 1 16)) ||(!(aI x.cap 0 1073741824))) ||(!(aI x.bank 0 1099511627776)))=false->((((!(aI x.siphon 0 (if x.bank<x.cap then x.bank else x.cap))) ||(!(aI x.evap.lo 0 x.evap.hi))) ||(decide (x.evap.hi > 1073741824)))=false->(wW x.seep)))
@[go_sem] def ky (l_:List Reach)(k_0:Nat)(s_0:Unit):Unit⊕Unit:=letI q0:=l_.getD k_0 default;letI q1:=(k_0:Int);(bif(((q1==0)&&(q0.up !=(-1))) ||((decide (q1 > 0))&&(!(aI (q0.up) 0 (i64.wrap (q1 - 1))))))then .inl ()else(bif(!(wX q0))then .inl ()else .inr ()))
def yG (l_:List Reach)(k_0:Nat)(s_0:Unit):Prop:=(l_.length<=aD->(((((k_0:Int) ==0)&&((l_.getD k_0 default).up !=(-1))) ||((decide ((k_0:Int) > 0))&&(!(aI ((l_.getD k_0 default).up) 0 (i64.wrap ((k_0:Int) - 1))))))=false->(x8 (l_.getD k_0 default))))
def uj (l_:List Reach):Bool:=(match an (ky l_) l_.length 0 ()with| .inl x_0_0=>false| .inr s_0=>(decide ((l_.length:Int) > 0)))
def Bt (l_:List Reach):Prop:=okI (ky l_) (yG l_) l_.length 0 ()
@[go_sem] def pG (a0:District)(k_0:Nat)(s_0:Unit):Unit⊕Unit:=(bif(!(aI ((a0.crops.getD k_0 default).need) 0 1048576))then .inl ()else .inr ())
@[go_sem] def pH (a0:District)(k_1:Nat)(s_1:Unit):Unit⊕Unit:=letI q0:=a0.farms.getD k_1 default;(bif((!(aI (q0.reach) 0 (i64.wrap ((a0.reaches.length:Int) - 1)))) ||(!(aI (q0.area) 0 1048576)))then .inl ()else(bif(((q0.area==0)&&(q0.crop !=(-1))) ||((decide (q0.area > 0))&&(!(aI (q0.crop) 0 (i64.wrap ((a0.crops.length:Int) - 1))))))then .inl ()else .inr ()))
def wY (a0:District):Bool:=(match an (pG a0) a0.crops.length 0 ()with| .inl x_0_0=>false| .inr s_0=>(match an (pH a0) a0.farms.length 0 ()with| .inl x_1_0=>false| .inr s_1=>true))
def wZ (a0:District)(a1:Right):Bool:=letI q0:=(((a1.rank==0)&&(a1.litres==0))&&(a1.every==0))&&(a1.length==0);(bif((((!(aI a1.farm 0 (i64.wrap ((a0.farms.length:Int) - 1)))) ||(!(aI a1.reach 0 (i64.wrap ((a0.reaches.length:Int) - 1))))) ||(!(aI a1.since 0 a1.to))) ||(decide (a1.to>=a0.hours)))then false else(bif(a1.kind==1)then(((((a1.reach==0)&&(aI a1.rank 0 1048576))&&(aI a1.litres 1 1073741824))&&(aI a1.length 1 a1.every))&&(decide (a1.every<=a0.hours)))else(bif(a1.kind==2)then((q0&&(a1.since==0))&&(a1.to==(i64.wrap (a0.hours - 1))))else(bif(a1.kind==3)then q0 else false))))
@[go_sem] def pJ (a0:District)(k_0:Nat)(s_0:Unit):Unit⊕Unit:=(bif(!(wZ a0 (a0.rights.getD k_0 default)))then .inl ()else .inr ())
@[go_sem] def pK (a0:District)(k_1:Nat)(s_1:Unit):Unit⊕Unit:=letI q0:=a0.duties.getD k_1 default;(bif(((!(aI (q0.farm) 0 (i64.wrap ((a0.farms.length:Int) - 1)))) ||(!(aI (q0.reach) 0 (i64.wrap ((a0.reaches.length:Int) - 1))))) ||(!(aI (q0.due) 0 a0.hours)))then .inl ()else .inr ())
def tS (a0:District):Bool:=(bif(((!(aI a0.hours 1 4096)) ||(!(aI a0.tank.start 0 a0.tank.cap))) ||(decide (a0.tank.cap > 1099511627776)))then false else(bif((!(uj a0.reaches)) ||(!(wY a0)))then false else(match an (pJ a0) a0.rights.length 0 ()with| .inl x_0_0=>false| .inr s_0=>(match an (pK a0) a0.duties.length 0 ()with| .inl x_1_0=>false| .inr s_1=>true))))
def x9 (a0:District):Prop:=((((!(aI a0.hours 1 4096)) ||(!(aI a0.tank.start 0 a0.tank.cap))) ||(decide (a0.tank.cap > 1099511627776)))=false->(Bt a0.reaches))
def gf (d:District):Int:=(bif(((((decide ((d.reaches.length:Int) > 64)) ||(decide ((d.farms.length:Int) > 600))) ||(decide ((d.crops.length:Int) > 32))) ||(decide ((d.rights.length:Int) > 256))) ||(decide ((d.duties.length:Int) > 256)))then 2 else(bif(!(tS d))then 191 else 0))
def uk (d:District):Prop:=(d.reaches.length<=aD->((((((decide ((d.reaches.length:Int) > 64)) ||(decide ((d.farms.length:Int) > 600))) ||(decide ((d.crops.length:Int) > 32))) ||(decide ((d.rights.length:Int) > 256))) ||(decide ((d.duties.length:Int) > 256)))=false->(x9 d)))
@[go_sem] def qP (a:List Claim)(b:List Claim)(k_0:Nat)(s_0:Unit):Unit⊕Unit:=letI q0:=a.getD k_0 default;letI q1:=b.getD k_0 default;(bif(!((q0.right==q1.right)&&((q0.farm==q1.farm)&&((q0.hour==q1.hour)&&((q0.litres==q1.litres)&&(q0.rank==q1.rank))))))then .inl ()else .inr ())
def rR (a:List Claim)(b:List Claim)(k_0:Nat)(s_0:Unit):Prop:=(a.length<=aD->(0<=(k_0:Int)/\(k_0:Int) < (b.length:Int)))
def qv (a:List Claim)(b:List Claim):Bool:=(bif((a.length:Int) !=(b.length:Int))then false else(match an (qP a b) a.length 0 ()with| .inl x_0_0=>false| .inr s_0=>true))
def pL (a:List Claim)(b:List Claim):Prop:=(a.length<=aD->(b.length<=aD->(((a.length:Int) !=(b.length:Int))=false->okI (qP a b) (rR a b) a.length 0 ())))
@[go_sem] def zr:List SV->Option Con:=(pR .claim fun a=>(pR .claim fun b=>(pE (.det (pL a b) (.v (.bool (qv a b)))))))
theorem DT:FnOk Tryz.prog 18 zr:=by
 have hG:ConsOk Tryz.prog (mkG [] []):=ar cg0 cg0;refine ay [.o] mixed ak hG (fn:=Tryz.f18) (c:=ae Tryz.f18) kr kr kr kr (bC fun a=>(bC fun b=>(ai (fun hp=>?_))));dsimp only[ax]at hp;unfold pL at hp;refine⟨nbl rfl,(fun id st=>bif Nat.beq id 0 then some (LCR (ρ:=Unit) (σ:=Unit) 0 [] [] (fun k_0 s_0=>⟨[(0,.rs .claim a),(1,.rs .claim b),(5,.v (.int .i64 (k_0:Int)))],[]⟩) (qP a b) (rR a b) a.length () (True) (fun _=>.ret) (fun x_0_0=>⟨[(4,.v (.bool false))],[]⟩) st)else none),?_,?_⟩
 ·unfold ae Tryz.f18;simp only[am,true_and,and_true]
  ·refine kw (a.length<=aD) mixed ak hG kr (fun _=>rfl) (a.length:Int) rfl gA (fun hb0 k_0 s_0 hlt0 hq0 hw hc=>⟨L0,ag _,?_⟩) (fun hb0 s_0 hc=>?_) fun hb0 k_0 s_0=>?_
   ·unfold rR at hq0;try simp only[hw,Int.toNat_natCast]at hq0
    exact bi (jl [])
   ·exact ba (jl [])
   ·exact zq7
 ·unfold ae Tryz.f18;try unfold qv
  exact zq1
def aK (a:Claim)(b:Claim):Bool:=(bif(a.hour !=b.hour)then(decide (a.hour<b.hour))else(bif(a.rank !=b.rank)then(decide (a.rank<b.rank))else(bif(a.right !=b.right)then(decide (a.right<b.right))else(decide (a.farm<b.farm)))))
def mS (a0:District)(a1:Claim):Bool:=letI q0:=a0.rights.getD (Int.toNat a1.right) default;(bif((((((((decide (a1.right<0)) ||(decide (a1.right>=(a0.rights.length:Int)))) ||(decide (a1.farm<0))) ||(decide (a1.farm>=(a0.farms.length:Int)))) ||(decide (a1.hour<0))) ||(decide (a1.hour>=a0.hours))) ||(decide (a1.litres<1))) ||(decide (a1.litres > 1073741824)))then false else((q0.kind==1)&&(q0.rank==a1.rank)))
def ul (a0:District)(a1:Claim):Prop:=letI q1:=(a0.rights.length:Int);letI q0:=0<=a1.right/\a1.right<q1;(((((((((decide (a1.right<0)) ||(decide (a1.right>=q1))) ||(decide (a1.farm<0))) ||(decide (a1.farm>=(a0.farms.length:Int)))) ||(decide (a1.hour<0))) ||(decide (a1.hour>=a0.hours))) ||(decide (a1.litres<1))) ||(decide (a1.litres > 1073741824)))=false->(q0/\(((a0.rights.getD (Int.toNat a1.right) default).kind==1)=true->q0)))
@[go_sem] def pN (d:District)(c:List Claim)(k_0:Nat)(s_0:Unit):Unit⊕Unit:=(bif((!(mS d (c.getD k_0 default))) ||((decide ((k_0:Int) > 0))&&(!(aK (c.getD (Int.toNat (i64.wrap ((k_0:Int) - 1))) default) (c.getD k_0 default)))))then .inl ()else .inr ())
def Ay (d:District)(c:List Claim)(k_0:Nat)(s_0:Unit):Prop:=letI q0:=i64.wrap ((k_0:Int) - 1);letI q1:=c.getD k_0 default;(c.length<=aD->((ul d q1)/\((!(mS d q1))=false->((decide ((k_0:Int) > 0))=true->(0<=q0/\q0< (c.length:Int))))))
def tT (d:District)(c:List Claim):Int:=(bif((gf d) !=0)then(gf d)else(bif(decide ((c.length:Int) > 4096))then 2 else(match an (pN d c) c.length 0 ()with| .inl x_0_0=>260| .inr s_0=>0)))
def ya (d:District)(c:List Claim):Prop:=((uk d)/\(((gf d) !=0)=false->(c.length<=aD->((decide ((c.length:Int) > 4096))=false->okI (pN d c) (Ay d c) c.length 0 ()))))
end Go.Sx
end
section
namespace Go.Sx
theorem RU {κ υ:Type}[DecidableEq κ](l:List (κ×υ))(x z:κ)(y:υ):kR (wy l x y) z=if z=x then some y else kR l z:=by
 induction l with
 |nil=>simp[wy,kR]
 |cons a r ih=>
  obtain⟨a,b⟩:=a;unfold wy;by_cases h:x=a
  ·subst h;simp only[if_pos];unfold kR;by_cases hz:z=x <;>simp[hz]
  ·rw[if_neg h];unfold kR;by_cases hz:z=a
   ·subst hz;rw[if_pos rfl,if_neg (fun e=>h e.symm),if_pos rfl]
   ·rw[if_neg hz,ih,if_neg hz]
def sT {κ υ:Type}(l:List (κ×υ)):List κ:=l.map fun p=>p.1
theorem EJ {κ υ:Type}[DecidableEq κ]:∀ {l:List (κ×υ)} {x:κ},x ∉ sT l->kR l x=none
 | [],_,_=>rfl
 |(a,b)::r,x,h=>by
  unfold kR;rw[if_neg (fun e=>h (by simp[sT,e]))];exact EJ fun hm=>h (by simp only[sT,List.map_cons,List.mem_cons]at hm |-;exact .inr hm)
theorem EK {κ υ:Type}[DecidableEq κ](x:κ)(y:υ):∀ (l:List (κ×υ)),(sT l).Nodup->(sT (wy l x y)).Nodup/\∀ z,z∈sT (wy l x y)->z=x\/z∈sT l
 | [],_=>by simp[wy,sT]
 |(a,b)::r,h=>by
  have h':=List.nodup_cons.1 h;unfold wy;by_cases e:x=a
  ·subst e;rw[if_pos rfl];exact⟨h,fun z hz=>.inr hz⟩
  ·rw[if_neg e];obtain⟨g1,g2⟩:=EK x y r h'.2;refine⟨List.nodup_cons.2 ⟨fun hm=>?_,g1⟩,fun z hz=>?_⟩
   ·rcases g2 _ hm with h3|h3
    ·exact e h3.symm
    ·exact h'.1 h3
   ·rcases List.mem_cons.1 hz with rfl|hz
    ·exact .inr List.mem_cons_self
    ·rcases g2 z hz with h3|h3
     ·exact .inl h3
     ·exact .inr (List.mem_cons_of_mem _ h3)
theorem Az {κ υ:Type}[DecidableEq κ](x:κ):∀ (l:List (κ×υ)),(sT l).Nodup->(sT (Bf l x)).Nodup/\(∀ z,z∈sT (Bf l x)->z∈sT l)/\∀ z,kR (Bf l x) z=if z=x then none else kR l z
 | [],_=>by simp[Bf,sT,kR]
 |(a,b)::r,h=>by
  have h':=List.nodup_cons.1 h;unfold Bf;by_cases e:x=a
  ·subst e;rw[if_pos rfl];refine⟨h'.2,fun z hz=>List.mem_cons_of_mem _ hz,fun z=>?_⟩;by_cases hz:z=x
   ·subst hz;rw[if_pos rfl];exact EJ h'.1
   ·rw[if_neg hz];simp only[kR,if_neg hz]
  ·rw[if_neg e];obtain⟨g1,g2,g3⟩:=Az x r h'.2;refine⟨List.nodup_cons.2 ⟨fun hm=>h'.1 (g2 _ hm),g1⟩,fun z hz=>?_,fun z=>?_⟩
   ·rcases List.mem_cons.1 hz with rfl|hz
    ·exact List.mem_cons_self
    ·exact List.mem_cons_of_mem _ (g2 z hz)
   ·simp only[kR,g3];by_cases hz:z=a
    ·subst hz;rw[if_pos rfl,if_neg (fun e2=>e e2.symm),if_pos rfl]
    ·simp only[if_neg hz]
theorem xC {kk vk:Tag}(l:List (kk.T×vk.T))(x z:kk.T)(y:vk.T):dS kk vk (lF kk vk l x y) z=if z=x then y else dS kk vk l z:=by
 unfold dS lF;rw[RU];by_cases h:z=x <;>simp[h]
theorem Mt {kk vk:Tag}(l:List (kk.T×vk.T))(hN:(sT l).Nodup)(x z:kk.T):dS kk vk (yU kk vk l x) z=if z=x then gw vk else dS kk vk l z:=by
 unfold dS yU;rw[(Az x l hN).2.2];by_cases h:z=x <;>simp[h]
end Go.Sx
end
section
namespace Go.Sx
open Go.RowKit
section
variable {P:Program}{ts:Tis}{G:Cons}
theorem yb {n:Nat}{g:FuncId}{i1 q:Nat}{o1:Oper}{tys:Array TypeId}{Q:Exit->Act->World->Prop}{a:Act}{w:World}{b:Nat}
  (ho1:o1.dst=none/\o1.op=.defer ⟨.value (.func g),#[.tmp q],tys⟩/\o1.guard=none)
  (hq:a.tmps.getD q undef=.pointer (some ⟨b,0,none⟩))
  (h:Q .normal { tmps:=a.tmps,defers:= { target:=.fn (.func g) #[],args:= #[.pointer (some ⟨b,0,none⟩)]}::a.defers} w):
  (Code.region i1 #[o1] false).wpIn (rd none) n P Q a w:=by
 obtain⟨d1,p1,t1,s1,f1,g1⟩:=o1;obtain⟨rfl,rfl,rfl⟩:=ho1;refine wpIn_region ?_;have hr1:List.range (#[(⟨none,.defer ⟨.value (.func g),#[.tmp q],tys⟩,t1,s1,f1,none⟩:Oper)]:Array Oper).size=[0]:=rfl;rw[hr1];simp only[wpOpsIn,Oper.wpIn,Region.wanted];have e1:(#[(⟨none,.defer ⟨.value (.func g),#[.tmp q],tys⟩,t1,s1,f1,none⟩:Oper)]:Array Oper)[0]? =some ⟨none,.defer ⟨.value (.func g),#[.tmp q],tys⟩,t1,s1,f1,none⟩:=rfl;rw[e1];simp only[if_true];refine⟨fun _ _=>trivial,?_⟩;have r2:((⟨none,.defer ⟨.value (.func g),#[.tmp q],tys⟩,t1,s1,f1,none⟩:Oper).semAt (rd none).round a.eval).run P w=.ok (.defer { target:=.fn (.func g) #[],args:= #[.pointer (some ⟨b,0,none⟩)]}) w:=by
  simp[Oper.semAt,execOp,go_sem,Act.eval,hq];try rfl
 rw[r2];simp only[Oper.uponIn_defer];exact h
theorem K2 {g:FuncId}{RC:Value->Option SV}(hrec:HH P g RC)(pks:List Pk)(hm:P.follows .mixedOrders=true)(hts:ts.ok P)(hG:ConsOk P G){f:FuncId}{fn:Func}{c0 c1:Code}{i1 q:Nat}{o1:Oper}{tys:Array TypeId}
  (hf:P.funcs[f]? =some fn) (hb:fn.body=some (.seq c0 (.seq (.region i1 #[o1] false) c1))) (hname:(fn.name== "runtime.NumGoroutine")=false)
  (ho1:o1.dst=none/\o1.op=.defer ⟨.value (.func g),#[.tmp q],tys⟩/\o1.guard=none)
  (hc0:cp fn.ntmps c0=true) (hc1:cp fn.ntmps c1=true) {C:List SV->Option Con}
  (h:∀ l con,C l=some con->ax con->l.length<=fn.ntmps/\∃ L L' id,am P none fn.ntmps L c0/\am P none fn.ntmps L' c1/\exec ts G L c0 ⟨mG 0 l,[]⟩ (fun e st=>e=.normal/\lk q st.t=.ptr id 0/\DR (al st.h id)/\
   exec ts G L' c1 ⟨st.t,st.h⟩ (Oe RC fn.results.toList ts (fun s=>dH con (uh pks s)) id))):FnOk P f C:=by
 refine⟨fun l con _ args w=>?_,fun l con hcon hpre F w vs hF hvs=>?_⟩
 ·have hn:¬fn.name= "runtime.NumGoroutine":=by simpa using hname
  simp[callFunc,hf,hn,hb]
 ·obtain⟨hlen,L,L',id,hl,hl',hx⟩:=h l con hcon hpre;refine oO (n:=0) (callsIn_of_wp_marks hf hb trivial ?_);have hr:StRel F { w:=w,own:=cO} fn.ntmps cO ⟨mG 0 l,[]⟩ { tmps:=vs++Array.replicate (fn.ntmps - vs.size) undef,defers:=[]} w:=
   ⟨by have:=hvs.1;simp;omega,Dfr.nil,vN hF,Fr.refl _,fun t=>mM hvs _ t⟩
  refine wpIn_seq (wpIn_mono (nQ hm hts hG c0 hc0 hl F _ _ hx cO _ w hr) ?_);intro e a1 w1 hq;cases e with
  |normal=>
   obtain⟨F1,own1,st1,hF1,hst1,_,hlk,_,hx1⟩:=hq;have hsq:=hst1.slots q;rw[hlk]at hsq;generalize hv:a1.tmps.getD q undef=pv at hsq;cases hsq with
   | @ptr _ _ b hd ho hp=>
   show(Code.seq (.region i1 #[o1] false) c1).wpIn (rd none) 0 P _ a1 w1;have hsz:=hst1.size;refine wpIn_seq (yb ho1 hv ?_);show c1.wpIn (rd none) 0 P _ _ w1;obtain⟨ms,Ds,k0,k1,k2,k3⟩:=hst1.defers;have k0':a1.defers=ms:=by rw[k0];exact List.append_nil _
   let d:Deferred:= { target:=.fn (.func g) #[],args:= #[.pointer (some ⟨b,0,none⟩)]}
   let B:Bs:= { w:=w1,own:=own1,ds:=d::a1.defers}
   have hr2:StRel F1 B fn.ntmps own1 ⟨st1.t,st1.h⟩ { tmps:=a1.tmps,defers:=d::a1.defers} w1:=by
    exact⟨hsz,Dfr.nil,hst1.hp,Fr.refl B,hst1.slots⟩
   have hbd:∀ D∈Ds,¬ ∃ id hd,own1 id=some hd/\D∈hd.bs:=fun D hD ⟨i,hd,e,hm⟩ =>hst1.hp.apart i hd D e hm (k3 D hD).2.1;have fin:∀ F2 own2 st2 (a2:Act) w2,(∀ b,F1 b->F2 b)->StRel F2 B fn.ntmps own2 st2 a2 w2->eU (fun s=>dH con (uh pks s)) (wC fn.results.toList ts st2)->
     LeavesInM (rd none) 0 P fn a2.tmps (fun e w'=>(∃ s u own',dH con s/\e=.returned u/\Handed F w own' w' s u/\Below w.heap.size w w')\/(∃ x,mK con x/\e=.panicked [{ v:=x,recovered:=false}]/\Below w.heap.size w w')) a1.defers .returning w2:=by
    intro F2 own2 st2 a2 w2 hF2 hst2 hdone;have hB:StRel F2 { w:=w,own:=cO} fn.ntmps own2 st2 { a2 with defers:=[]} w2:=⟨hst2.size,Dfr.nil,hst2.hp,hst1.fr.trans ⟨hst2.fr.ids,hst2.fr.base,hst2.fr.os,hst2.fr.tape,hst2.fr.output,hst2.fr.size,hst2.fr.block⟩,hst2.slots⟩;have hkeep:∀ D∈Ds,w2.heap[D]? =some (.deferred (some [])):=fun D hD=>by
     rw[hst2.fr.block D ⟨nM (k3 D hD).2.2,hbd D hD⟩];exact(k3 D hD).2.2
    rw[k0',<-List.append_nil ms];refine uT (by simp) Ds ms w2 k1 k2 hkeep fun w4 hs=>?_;have hst4:=(hB.shut (Ds:=Ds) (fun D hD=>⟨(k3 D hD).1,hF2 D (k3 D hD).2.1,hkeep D hD⟩) hs).less (fun c hc=>hF2 c (hF1 c hc)) rfl;simp only[wC]at hdone;cases hres:lH (km ts st2 fn.results.toList)with
    |none=>rw[hres]at hdone;exact hdone.elim
    |some s=>
     obtain⟨u,e1,e2⟩:=vM (P:=P) hts hst4 hres;rw[hres]at hdone;exact⟨u,e1,.inl ⟨_,u,cO,hdone,rfl,tQ hst4.hp.foreign (zm (vJ hst4.hp 4 s u e2)),px hst4.fr⟩⟩
   have hinv:∀ w2:World,(invoke (.fn (.func g) #[]) #[.pointer (some ⟨b,0,none⟩)]).run P w2=.ok (.enter g #[.pointer (some ⟨b,0,none⟩)]) w2:=fun w2=>by simp[invoke,go_sem,hrec.1]
   refine wpIn_mono (nQ hm hts hG c1 hc1 hl' F1 _ _ hx1 own1 _ w1 hr2) ?_;have idle:∀ (a':Act) (w':World) F2 own2 st2,(∀ b,F1 b->F2 b)->StRel F2 B fn.ntmps own2 st2 a' w'->eU (fun s=>dH con (uh pks s)) (wC fn.results.toList ts st2)->
     LeavesInM (rd none) 0 P fn a'.tmps (fun e w'=>(∃ s u own',dH con s/\e=.returned u/\Handed F w own' w' s u/\Below w.heap.size w w')\/(∃ x,mK con x/\e=.panicked [{ v:=x,recovered:=false}]/\Below w.heap.size w w')) a'.defers .returning w':=by
    intro a' w' F2 own2 st2 hF2 hst2 hdone;refine jz hst2 (by simp) fun w2 hst3=>?_;refine⟨by simp,.inr ⟨fun h=>(by cases h),.func g,#[],g,#[.pointer (some ⟨b,0,none⟩)],rfl,hinv w2,fun _ _=>trivial,?_⟩⟩;refine(hrec.2.1 ⟨b,0,none⟩ w2).mono ?_;rintro e u' w3 ⟨⟨v,rfl⟩,rfl,rfl⟩;exact fin F2 own2 st2 { a' with defers:=B.ds} _ hF2 hst3 hdone
   intro e a' w' hq;cases e with
   |normal=>obtain⟨F2,own2,st2,h0,h1,h2⟩:=hq;exact idle a' w' F2 own2 st2 h0 h1 h2
   |ret=>obtain⟨F2,own2,st2,h0,h1,h2⟩:=hq;exact idle a' w' F2 own2 st2 h0 h1 h2
   |exit jd=>obtain⟨F2,own2,st2,h0,h1,h2⟩:=hq;exact h2.elim
   |panic ch=>
    obtain⟨x,F2,own2,st2,h0,h1,hm,rfl⟩:=hq;change Od fn.results.toList ts _ id st2 (RC x)at hm;cases m1:RC x with
    |none=>rw[m1]at hm;exact hm.elim
    |some s=>
    rw[m1]at hm;obtain⟨hm2,m4,m3⟩:=hm;obtain⟨y,m2⟩:=CY hm2;refine jz h1 (by simp) fun w2 hst3=>?_;refine⟨by simp,.inr ⟨fun h=>(by cases h),.func g,#[],g,#[.pointer (some ⟨b,0,none⟩)],rfl,hinv w2,fun _ _=>trivial,?_⟩⟩;obtain⟨hd2,e2,l2⟩:=hst3.fr.ids id hd ho;refine(hrec.2.2 x s m1 F2 own2 w2 st2.h id hd2 b y m4 hst3.hp m2 e2 (l2.1.trans hp)).mono ?_;rintro e u' w3 ⟨⟨v,rfl⟩,rfl,own3,q1,q2⟩;exact fin F2 own3 ⟨st2.t,_⟩ { a' with defers:=B.ds} w3 h0 (hst3.moved q1 q2) m3
   |_=>exact hq.elim
  |ret=>obtain⟨F1,own,st,h0,h1,h2,_⟩:=hq;cases h2
  |exit jd=>obtain⟨F1,own,st,h0,h1,h2,_⟩:=hq;cases h2
  |panic ch=>obtain⟨x,F1,own,st,h0,h1,⟨h2,_⟩,_⟩:=hq;cases h2
  |_=>exact hq.elim
end
end Go.Sx
end
section
namespace Go.Sx
open Go.Proofs Go.RowKit
def RCJ:Value->Option SV
 | .iface t (.int .i64 e) =>bif Nat.beq t 36 then some (.i e)else none
 |_=>none
theorem F0:HH Tryz.prog 56 RCJ:=by
 obtain⟨fn,hfn,hbody,hn,hres⟩:∃ fn,Tryz.prog.funcs[56]? =some fn/\fn.body=some (ae Tryz.f56)/\fn.ntmps=14/\fn.results= #[]:=⟨Tryz.f56,by kernel_rfl,by kernel_rfl,by kernel_rfl,by kernel_rfl⟩;have hG:ConsOk Tryz.prog (mkG [] []):=ar (by simp) (by simp);refine⟨fun args w=>by kernel_rfl,fun p w=>?_,?_⟩
 ·refine callsDIn_of_wpSIn hfn hbody trivial fun c₀ cs hu=>?_;unfold ae Tryz.f56;refine wpSIn_seq (wpSIn_region ?_);simp[wpOpsSIn,go_sem,recoverD,hu,hn,Exit.thenS,Oper.about,Region.wanted];refine wpSIn_of_wpIn rfl (wpIn_block (wpIn_seq (wpIn_region ?_)));simp[wpOpsIn,Oper.wpIn,go_sem,Oper.about,Region.wanted];refine wpIn_cond_true (by simp[Act.eval]) (wpIn_region ?_);simp[wpOpsIn,Oper.wpIn,go_sem,Oper.about,Region.wanted];cases c₀;simp_all [Exit.inBlock,bodyPostS,results]
 ·intro x s hx F own w h id hd b y hfw hp hob ho hpb;unfold RCJ at hx;split at hx
  ·rename_i t e;cases ht:Nat.beq t 36 with
   |false=>rw[ht]at hx;cases hx
   |true=>
    rw[ht]at hx;cases hx;have ht':=Nat.eq_of_beq_eq_true ht;subst ht';refine callsDIn_of_wpSIn hfn hbody trivial fun c₀ cs hu=>?_;unfold ae Tryz.f56;refine wpSIn_seq (wpSIn_region ?_);simp[wpOpsSIn,go_sem,recoverD,hu,hn,Exit.thenS,Oper.about,Region.wanted];refine wpSIn_of_wpIn rfl (wpIn_block (wpIn_seq (wpIn_region ?_)));simp[wpOpsIn,Oper.wpIn,go_sem,Oper.about,Region.wanted];refine wpIn_cond_false (by simp[Act.eval]) ?_;have hr:StRel F { w:=w,own:=own} 14 own ⟨[(0,.ptr id 0),(5,.v (.iface 36 (.int .i64 e)))],h⟩ { tmps:= #[.pointer (some ⟨b,0,none⟩),undef,undef,undef,undef,.iface 36 (.int .i64 e),undef,.bool false,undef,undef,undef,undef,undef,undef],defers:=[]} w:=by
     refine⟨rfl,Dfr.nil,hp,Fr.refl { w:=w,own:=own},fun t=>?_⟩;rw[oN];by_cases h0:0=t
     ·subst h0;rw[if_pos rfl];exact .ptr ho hpb
     ·rw[if_neg h0,oN];by_cases h1:5=t
      ·subst h1;rw[if_pos rfl];exact .v _
      ·rw[if_neg h1];exact .any _
    refine wpIn_seq (wpIn_mono (vQ (ts:=ts) (L:=L0) (Q:=fun st=>st=⟨[(10,.v (.int .i64 e)),(9,.b true),(8,.tup [.v (.int .i64 e),.b true]),(0,.ptr id 0),(5,.v (.iface 36 (.int .i64 e)))],h⟩) mixed ak hG kr ?_ hr) ?_)
    ·simp only[go_sem,hob,hfw,cond_false,Nat.reduceBEq,Nat.reduceLeDiff,Nat.reduceAdd,true_and,and_true,true_imp_iff]
    ·rintro ex a1 w1 ⟨rfl,own1,st1,hst1,rfl⟩;have h9:=hst1.slots 9;have h9':a1.tmps.getD 9 undef=.bool true:=bG h9;refine wpIn_cond_true (by simpa[Act.eval]using h9') ?_;refine wpIn_seq (wpIn_mono (vQ (ts:=ts) (L:=L0) (Q:=fun st=>st=⟨[(3,.v (.int .i64 e)),(10,.v (.int .i64 e)),(9,.b true),(8,.tup [.v (.int .i64 e),.b true]),(0,.ptr id 0),(5,.v (.iface 36 (.int .i64 e)))],h⟩) mixed ak hG kr ?_ hst1) ?_)
     ·simp only[go_sem,hob,hfw,cond_false,Nat.reduceBEq,Nat.reduceLeDiff,Nat.reduceAdd,true_and,and_true,true_imp_iff]
     ·rintro ex a2 w2 ⟨rfl,own2,st2,hst2,rfl⟩;refine wpIn_mono (vQ (ts:=ts) (L:=L0) (Q:=fun st=>st.h=bA h id (.cells [.i e])) mixed ak hG kr ?_ hst2) ?_
      ·simp only[go_sem,hob,hfw,cond_false,vP (h:=h) (i:=id) (o:=.cells [.v (.int .i64 e)]) rfl hfw,Nat.reduceBEq,Nat.reduceLeDiff,Nat.reduceAdd,true_and,and_true,true_imp_iff]
      ·rintro ex a' w' ⟨rfl,own3,st3,hst3,hh⟩;have hd0:a'.defers=[]:=by
        obtain⟨ms,Ds,q0,q1,q2,q3⟩:=hst3.defers;cases Ds with
        |nil=>rw[q0];simp at q1;simp[q1]
        |cons D r=>
         obtain⟨m1,m2,_⟩:=q3 D (by simp);have:=hp.foreign D m2;simp only at m1;omega
       refine⟨hd0,.panicking [{ v:=.iface 36 (.int .i64 e),recovered:=true}],?_,_,by simp[results,hres];rfl,⟨_,rfl⟩,rfl,own3,hh▸hst3.hp,hst3.fr⟩;cases c₀;simp_all
  ·cases hx
end Go.Sx
end
section
namespace Go.Sx
open Go.Proofs
open IntKind (i64 u64)
theorem ov {l0 l1:List Nat}(a0:JL l0)(a1:JL l1){p:Prop}(h:JL l0->JL l1->p:=by intro ja jb;simp only[go_sem,Nat.reduceBEq,Nat.reduceLeDiff,Nat.reduceLT,decide_true,Nat.reduceAdd,Nat.reduceSub,Nat.reduceMul,Int.reduceLE,Int.reduceLT,Int.reduceToNat,Int.reduceNeg,reduceCtorEq,hc,hw];all_goals exact sR ja jb):p:=h a0 a1
def aG (n:Int)(lo:Int)(hi:Int):Bool:=((decide (n>=lo))&&(decide (n<=hi)))
@[go_sem] def gP:List SV->Option Con:=(pI fun n=>(pI fun lo=>(pI fun hi=>(pE (.det True (.v (.bool (aG n lo hi))))))))
theorem iF:FnOk Tryz.prog 52 gP:=by
 have hG:ConsOk Tryz.prog (mkG [] []):=ar cg0 cg0;refine ay [.o] mixed ak hG (fn:=Tryz.f52) (c:=ae Tryz.f52) kr kr kr kr (cI fun n=>(cI fun lo=>(cI fun hi=>(ai (fun hp=>?_)))));dsimp only[ax]at hp;refine⟨nbl rfl,L0,ag _,?_⟩
 ·unfold ae Tryz.f52;try unfold aG
  exact zq1
def C8 (ok:Bool)(e:Int):Unit:=(bif(!ok)then default else())
def aw (ok:Bool)(e:Int):Bool:=(bif(!ok)then false else true)
@[go_sem] def kz:List SV->Option Con:=(pB fun ok=>(pI fun e=>(pE (.may (aw ok e) (.tup []) (.iface 36 (.int .i64 e))))))
theorem mo:FnOk Tryz.prog 58 kz:=by
 have hG:ConsOk Tryz.prog (mkG [] []):=ar cg0 cg0;refine ay [] mixed ak hG (fn:=Tryz.f58) (c:=ae Tryz.f58) kr kr kr kr (OO fun ok=>(cI fun e=>(ai (fun hp=>?_))));dsimp only[ax]at hp;refine⟨nbl rfl,L0,ag _,?_⟩
 ·unfold ae Tryz.f58;try unfold C8
  try unfold aw
  exact zq1
@[go_sem] def yc (cP:List Int)(k_0:Nat)(s_0:Unit):Int⊕Unit:=(bif((cP.getD k_0 0) !=0)then .inl (cP.getD k_0 0)else .inr ())
def lm (cP:List Int):Int:=(match an (yc cP) cP.length 0 ()with| .inl x_0_0=>x_0_0| .inr s_0=>0)
@[go_sem] def zt:List SV->Option Con:=(pR .int fun cP=>(pE (.det True (.v (.int .i64 (lm cP))))))
theorem DU:FnOk Tryz.prog 96 zt:=by
 have hG:ConsOk Tryz.prog (mkG [] []):=ar cg0 cg0;refine ay [.o] mixed ak hG (fn:=Tryz.f96) (c:=ae Tryz.f96) kr kr kr kr (bC fun cP=>(ai (fun hp=>?_)));dsimp only[ax]at hp;refine⟨nbl rfl,(fun id st=>bif Nat.beq id 0 then some (LCR (ρ:=Int) (σ:=Unit) 0 [] [] (fun k_0 s_0=>⟨[(3,.v (.int .i64 0)),(6,.rs .int cP),(7,.v (.int .i64 (cP.length:Int))),(8,.v (.int .i64 (k_0:Int)))],[]⟩) (yc cP) pT cP.length () (cP.length<=aD) (fun _=>.ret) (fun x_0_0=>⟨[(2,.v (.int .i64 x_0_0))],[]⟩) st)else none),?_,?_⟩
 ·unfold ae Tryz.f96;simp only[am,true_and,and_true]
  ·refine a_ mixed ak hG kr (fun _=>rfl) (cP.length:Int) rfl gA (fun hb0 k_0 s_0 hlt0 _ hw hc=>⟨L0,ag _,?_⟩) (fun hb0 s_0 hc=>?_)
   ·exact bi (jl [])
   ·exact ba (jl [])
 ·unfold ae Tryz.f96;try unfold lm
  exact zq1
def ap (x:Claim):Bool:=(x.litres==0)
@[go_sem] def oT:List SV->Option Con:=(pD .claim fun x=>(pE (.det True (.v (.bool (ap x))))))
theorem sa:FnOk Tryz.prog 93 oT:=by
 have hG:ConsOk Tryz.prog (mkG [] []):=ar cg0 cg0;refine ay [.o] mixed ak hG (fn:=Tryz.f93) (c:=ae Tryz.f93) kr kr kr kr (bk fun x=>(ai (fun hp=>?_)));dsimp only[ax]at hp;refine⟨nbl rfl,L0,ag _,?_⟩
 ·unfold ae Tryz.f93;try unfold ap
  exact zq1
def dO (a:Claim)(b:Claim):Int:=(lm ([(cK a.rank b.rank),(cK a.right b.right),(cK a.farm b.farm)]))
@[go_sem] def sU:List SV->Option Con:=(pD .claim fun a=>(pD .claim fun b=>(pE (.det True (.v (.int .i64 (dO a b)))))))
theorem xN:FnOk Tryz.prog 95 sU:=by
 have hG:ConsOk Tryz.prog (mkG [(96,fun l=>zt (bp [.sl .int] l)),(97,ml)] []):=ar (cgc (DU.norm [.sl .int]) (cgc oR cg0)) cg0;refine ay [.o] mixed ak hG (fn:=Tryz.f95) (c:=ae Tryz.f95) kr kr kr kr (bk fun a=>(bk fun b=>(ai (fun hp=>?_))));dsimp only[ax]at hp;refine⟨nbl rfl,L0,ag _,?_⟩
 ·unfold ae Tryz.f95;try unfold dO
  exact zq1
def fh (right:Int)(farm:Int)(hour:Int)(litres:Int):Claim:=({ right:=right,farm:=farm,hour:=hour,litres:=litres,rank:=2}:Claim)
@[go_sem] def um:List SV->Option Con:=(pI fun right=>(pI fun farm=>(pI fun hour=>(pI fun litres=>(pE (.det True (.agg (cellsOf .claim (fh right farm hour litres)))))))))
theorem w5:FnOk Tryz.prog 40 um:=by
 have hG:ConsOk Tryz.prog (mkG [] []):=ar cg0 cg0;refine ay [.st .claim] mixed ak hG (fn:=Tryz.f40) (c:=ae Tryz.f40) kr kr kr kr (cI fun right=>(cI fun farm=>(cI fun hour=>(cI fun litres=>(ai (fun hp=>?_))))));dsimp only[ax]at hp;refine⟨nbl rfl,L0,ag _,?_⟩
 ·unfold ae Tryz.f40;try unfold fh
  exact zq1
@[go_sem] def sV (k_0:Nat)(s_0:List Right):Empty⊕(List Right):=.inr (s_0++([({ name:=(ByteArray.mk #[]),kind:=1,farm:=(([0,1,0]).getD k_0 0),reach:=0,rank:=2,litres:=4,since:=0,to:=7,every:=1,length:=1}:Right)]))
def qw (k_0:Nat)(s_0:List Right):Prop:=((s_0++([({ name:=(ByteArray.mk #[]),kind:=1,farm:=(([0,1,0]).getD k_0 0),reach:=0,rank:=2,litres:=4,since:=0,to:=7,every:=1,length:=1}:Right)])).length*88<=c6)
def cW:District:=(match an (sV) (([0,1,0]).length) 0 ([])with| .inl x=>x.elim| .inr s_0=>({ name:=(ByteArray.mk #[]),hours:=8,tank:=({ cap:=900,start:=900}:Tank),reaches:=[({ name:=(ByteArray.mk #[]),up:=(-1),delay:=1,cap:=50,bank:=50,siphon:=0,evap:=({ lo:=0,hi:=0}:Range),seep:=(({ n:=0,d:=1}:Ratio),({ n:=0,d:=1}:Ratio))}:Reach)],farms:=[({ name:=(ByteArray.mk #[]),reach:=0,area:=0,crop:=(-1)}:Farm),({ name:=(ByteArray.mk #[]),reach:=0,area:=0,crop:=(-1)}:Farm),({ name:=(ByteArray.mk #[]),reach:=0,area:=0,crop:=(-1)}:Farm)],crops:=[],rights:=s_0,duties:=[],wells:=[]}:District))
def qQ:Prop:=(([0,1,0]).length<=aD->okI (sV) (qw) (([0,1,0]).length) 0 ([]))
@[go_sem] def yd:List SV->Option Con:=(pE (.det (qQ) (.agg (cellsOf .district (cW)))))
theorem C9:FnOk Tryz.prog 38 yd:=by
 have hG:ConsOk Tryz.prog (mkG [] []):=ar cg0 cg0;refine ay [.st .district] mixed ak hG (fn:=Tryz.f38) (c:=ae Tryz.f38) kr kr kr kr (ai (fun hp=>?_));dsimp only[ax]at hp;unfold qQ at hp;refine⟨nbl rfl,(fun id st=>bif Nat.beq id 0 then some (LCR (ρ:=Empty) (σ:=(List Right)) 3 [.cell 2 7 (.row .right ([]))] [0,1,2,3] (fun k_0 s_0=>⟨[(0,.ptr 0 0),(2,.ptr 2 0),(17,.rs .int ([0,1,0])),(18,.v (.int .i64 (([0,1,0]).length:Int))),(19,.v (.int .i64 (k_0:Int)))],[.cells [.v (.string (ByteArray.mk #[])),.v (.int .i64 0),.v (.int .i64 0),.v (.int .i64 0),.v (.slice none 0 0),.v (.slice none 0 0),.v (.slice none 0 0),.v (.slice none 0 0),.v (.slice none 0 0),.v (.slice none 0 0)],.dead,.cells [.v (.string (ByteArray.mk #[])),.v (.int .i64 8),.v (.int .i64 900),.v (.int .i64 900),.rs .reach ([({ name:=(ByteArray.mk #[]),up:=(-1),delay:=1,cap:=50,bank:=50,siphon:=0,evap:=({ lo:=0,hi:=0}:Range),seep:=(({ n:=0,d:=1}:Ratio),({ n:=0,d:=1}:Ratio))}:Reach)]),.rs .farm ([({ name:=(ByteArray.mk #[]),reach:=0,area:=0,crop:=(-1)}:Farm),({ name:=(ByteArray.mk #[]),reach:=0,area:=0,crop:=(-1)}:Farm),({ name:=(ByteArray.mk #[]),reach:=0,area:=0,crop:=(-1)}:Farm)]),.v (.slice none 0 0),.os 3,.v (.slice none 0 0),.v (.slice none 0 0)],.row .right s_0]⟩) (sV) (qw) (([0,1,0]).length) ([]) (([0,1,0]).length<=aD) ((·.elim)) ((·.elim)) st)else none),?_,?_⟩
 ·unfold ae Tryz.f38;simp only[am,true_and,and_true]
  ·refine a_ mixed ak hG kr (fun _=>rfl) (([0,1,0]).length:Int) rfl gA (fun hb0 k_0 s_0 hlt0 hq0 hw hc=>⟨L0,ag _,?_⟩) (fun hb0 s_0 hc=>?_)
   ·unfold qw at hq0;try simp only[hw,Int.toNat_natCast]at hq0
    exact ov (jl [0,1,2,5]) (jl [0,1,2,3])
   ·exact mP (jl [0,1,2,5]) (jl [0,1,2,3])
 ·unfold ae Tryz.f38;try unfold cW
  exact zq1
def iS:List Claim:=[(fh 0 0 3 4),(fh 1 1 3 4),(fh 2 0 3 4),(fh 0 0 5 4)]
@[go_sem] def ye:List SV->Option Con:=(pE (.det True (.rs .claim (iS))))
theorem C_:FnOk Tryz.prog 39 ye:=by
 have hG:ConsOk Tryz.prog (mkG [(40,um)] []):=ar (cgc w5 cg0) cg0;refine ay [.sl .claim] mixed ak hG (fn:=Tryz.f39) (c:=ae Tryz.f39) kr kr kr kr (ai (fun hp=>?_));dsimp only[ax]at hp;refine⟨nbl rfl,L0,ag _,?_⟩
 ·unfold ae Tryz.f39;try unfold iS
  exact zq1
@[go_sem] def DV (a:List Int)(b:List Int)(k_0:Nat)(s_0:Unit):Unit⊕Unit:=(bif((a.getD k_0 0) !=(b.getD k_0 0))then .inl ()else .inr ())
def yH (a:List Int)(b:List Int):Bool:=(bif((a.length:Int) !=(b.length:Int))then false else(match an (DV a b) a.length 0 ()with| .inl x_0_0=>false| .inr s_0=>true))
theorem w6 (x y:Int):cK x y=if x<y then -1 else if x > y then 1 else 0:=by
 unfold cK lQ;simp[Bool.cond_eq_ite]
theorem JB (x:Int)(l:List Int):lm (x::l)=if x=0 then lm l else x:=by
 have key:∀ l:List Int,lm l=match jO (ρ:=Int) (fun(x:Int) (_:Unit) =>bif(x !=0)then .inl x else .inr ()) l ()with| .inl y=>y| .inr _=>0:=fun l=>by
  unfold lm;have:=zl (ρ:=Int) (fun(x:Int) (_:Unit) =>bif(x !=0)then .inl x else .inr ()) 0 l ();rw[<-this];rfl
 rw[key,key];simp only[jO];by_cases h:x=0
 ·subst h;rfl
 ·have:(x !=0)=true:=by simpa using h
  rw[if_neg h,this];rfl
theorem Mu:lm []=0:=rfl
def un:List (Int×Int)->Prop
 | [] =>False
 |(a,b)::r=>a<b\/a=b/\un r
theorem EL:∀ l:List (Int×Int),(lm (l.map fun p=>cK p.1 p.2) <0↔un l)
 | [] =>by simp[Mu,un]
 |(a,b)::r=>by
  have hc:=w6 a b;simp only[List.map_cons,JB,hc,un];rcases Int.lt_trichotomy a b with h|h|h
  ·simp[h]
  ·subst h;simp only[Int.lt_irrefl,if_false,if_true,true_and,false_or,gt_iff_lt];exact EL r
  ·have h1:¬a<b:=by omega
   have h2:a≠b:=by omega
   simp[h1,h2,h]
def tlt (a b:Claim):Prop:=un [(a.rank,b.rank),(a.right,b.right),(a.farm,b.farm)]
theorem K3 (a b:Claim):dO a b<0↔tlt a b:=EL [(a.rank,b.rank),(a.right,b.right),(a.farm,b.farm)]
open Go.Shelf Go.Sort in
theorem U5 {α:Type}{f:α->α->Int}{r:α->α->Prop}(e:∀ x y,f x y<0↔r x y)(h1:∀ x,¬r x x)(h2:∀ x y z,r x y->r y z->r x z)(h3:∀ x y z,¬r x y->¬r y z->¬r x z):SWO (ltOf f):=by
 have e1:∀ x y,ltOf f x y=true↔r x y:=fun x y=>by unfold ltOf;rw[decide_eq_true_eq,e]
 have e2:∀ x y,ltOf f x y=false↔¬r x y:=fun x y=>by rw[<-e1];simp
 exact⟨fun x=>(e2 x x).2 (h1 x),fun x y z a b=>(e1 x z).2 (h2 x y z ((e1 x y).1 a) ((e1 y z).1 b)),fun x y z a b=>(e2 x z).2 (h3 x y z ((e2 x y).1 a) ((e2 y z).1 b))⟩
open Go.Shelf Go.Sort in
theorem HJ:SWO (ltOf dO):=U5 K3 (fun x=>by simp only[tlt,un,and_false,or_false];omega) (fun x y z h1 h2=>by simp only[tlt,un,and_false,or_false]at *;omega) (fun x y z h1 h2=>by simp only[tlt,un,and_false,or_false]at *;omega)
theorem pa {n i:Nat}{step:Nat->Unit->Unit⊕Unit}{s:Unit}(h:an step n i s=.inr s):∀ j,i<=j->j<i+n->step j ()=.inr ():=by
 induction n generalizing i with
 |zero=>intro j h1 h2;omega
 |succ n ih=>
  simp only[an]at h;cases hs:step i s with
  |inl r=>rw[hs]at h;cases h
  |inr s'=>
   rw[hs]at h;intro j h1 h2;by_cases e:j=i
   ·subst e;cases s;exact hs
   ·exact ih h j (by omega) (by omega)
theorem ow {b:Bool}{e:Int}:dg b e=b:=by
 cases b <;>rfl
theorem K4 {a b c:Int}(h:aM [a,b,c]=true):a<=b/\b<=c:=by
 unfold aM at h;simp only[List.length_cons,List.length_nil,Nat.zero_add,Nat.reduceAdd,Nat.reduceSub]at h;split at h
 ·cases h
 ·rename_i s hs;have h0:=pa hs 0 (by omega) (by omega);have h1:=pa hs 1 (by omega) (by omega);simp[bS,IntKind.wrap,IntKind.bits,IntKind.signed]at h0 h1;constructor
  ·cases hd:decide (b<a) <;>simp_all <;>omega
  ·cases hd:decide (c<b) <;>simp_all <;>omega
theorem K5 {a b c d:Int}(h:aM [a,b,c,d]=true):a<=b/\b<=c/\c<=d:=by
 unfold aM at h;simp only[List.length_cons,List.length_nil,Nat.zero_add,Nat.reduceAdd,Nat.reduceSub]at h;split at h
 ·cases h
 ·rename_i s hs;have h0:=pa hs 0 (by omega) (by omega);have h1:=pa hs 1 (by omega) (by omega);have h2:=pa hs 2 (by omega) (by omega);simp[bS,IntKind.wrap,IntKind.bits,IntKind.signed]at h0 h1 h2;refine⟨?_,?_,?_⟩
  ·cases hd:decide (b<a) <;>simp_all <;>omega
  ·cases hd:decide (c<b) <;>simp_all <;>omega
  ·cases hd:decide (d<c) <;>simp_all <;>omega
structure Right1 (d:District):Prop where
 reaches:d.reaches.length<=64
 one:0<d.reaches.length
 farms:d.farms.length<=600
 rights:d.rights.length<=256
 hours1:1<=d.hours
 hours:d.hours<=4096
 start0:0<=d.tank.start
 start:d.tank.start<=d.tank.cap
 cap:d.tank.cap<=1099511627776
 reach:∀ k,k<d.reaches.length->lh (k:Int) (d.reaches.getD k default)=true
 farm:∀ k,k<d.farms.length->0<=(d.farms.getD k default).reach/\(d.farms.getD k default).reach< (d.reaches.length:Int)
theorem Mv {k:Nat}(h:k<9223372036854775807)(h1:0<k):i64.wrap ((k:Int) - 1)=((k - 1:Nat):Int):=by
 rw[fE (by omega) (by omega)];omega
theorem EM {step:Nat->Unit->Unit⊕Unit}:∀ {n i:Nat},(∀ j,i<=j->j<i+n->step j ()=.inr ())->an step n i ()=.inr ()
 |0,_,_=>rfl
 |n+1,i,h=>by
  simp only[an];rw[h i (by omega) (by omega)];exact EM fun j h1 h2=>h j (by omega) (by omega)
theorem kA {step:Nat->Unit->Unit⊕Unit}{n:Nat}:an step n 0 ()=.inr ()↔∀ j,j<n->step j ()=.inr ():=
 ⟨fun h j hj=>pa h j (by omega) (by omega),fun h=>EM fun j _ h2=>h j (by omega)⟩
theorem qR {α:Type}(l:List α)(d:α){n:Nat}(h:n<l.length):l.getD n d=l[n]:=by
 rw[List.getD_eq_getElem?_getD,List.getElem?_eq_getElem h];rfl
theorem U6 {step:Nat->Unit->Unit⊕Unit}{n:Nat}{α:Type}{a b:α}:(match an step n 0 ()with| .inl _=>a| .inr _=>b)=b\/∃ y,an step n 0 ()=.inl y:=by
 cases h:an step n 0 ()with
 |inl y=>exact .inr ⟨y,rfl⟩
 |inr y=>exact .inl rfl
theorem Da {a b c:Int}(h1:a<=b)(h2:b<=c):aM [a,b,c]=true:=by
 have e:an (bS [a,b,c]) 2 0 ()=.inr ():=kA.2 fun j hj=>by
  rcases(by omega:j=0\/j=1)with rfl|rfl
  ·simp[bS,IntKind.wrap,IntKind.bits,IntKind.signed,Bool.cond_eq_ite];omega
  ·simp[bS,IntKind.wrap,IntKind.bits,IntKind.signed,Bool.cond_eq_ite];omega
 unfold aM;simp only[List.length_cons,List.length_nil,Nat.zero_add,Nat.reduceAdd,Nat.reduceSub,e]
theorem Db {a b c d:Int}(h1:a<=b)(h2:b<=c)(h3:c<=d):aM [a,b,c,d]=true:=by
 have e:an (bS [a,b,c,d]) 3 0 ()=.inr ():=kA.2 fun j hj=>by
  rcases(by omega:j=0\/j=1\/j=2)with rfl|rfl|rfl
  ·simp[bS,IntKind.wrap,IntKind.bits,IntKind.signed,Bool.cond_eq_ite];omega
  ·simp[bS,IntKind.wrap,IntKind.bits,IntKind.signed,Bool.cond_eq_ite];omega
  ·simp[bS,IntKind.wrap,IntKind.bits,IntKind.signed,Bool.cond_eq_ite];omega
 unfold aM;simp only[List.length_cons,List.length_nil,Nat.zero_add,Nat.reduceAdd,Nat.reduceSub,e]
theorem rv (d:District):bW d=0↔(d.reaches.length<=64/\d.farms.length<=600/\d.crops.length<=32/\d.rights.length<=256/\d.duties.length<=256)/\(1<=d.hours/\d.hours<=4096)/\(0<=d.tank.start/\d.tank.start<=d.tank.cap/\d.tank.cap<=1099511627776)/\0<d.reaches.length/\
  (∀ k,k<d.reaches.length->eV d 191 k ()=.inr ())/\(∀ k,k<d.crops.length->eW d 191 k ()=.inr ())/\(∀ k,k<d.farms.length->eX d 191 k ()=.inr ())/\(∀ k,k<d.rights.length->fF d 191 k ()=.inr ())/\(∀ k,k<d.duties.length->fG d 191 k ()=.inr ()):=by
 have hx:gO d 191=true↔(1<=d.hours/\d.hours<=4096)/\(0<=d.tank.start/\d.tank.start<=d.tank.cap/\d.tank.cap<=1099511627776)/\0<d.reaches.length/\
  (∀ k,k<d.reaches.length->eV d 191 k ()=.inr ())/\(∀ k,k<d.crops.length->eW d 191 k ()=.inr ())/\(∀ k,k<d.farms.length->eX d 191 k ()=.inr ())/\(∀ k,k<d.rights.length->fF d 191 k ()=.inr ())/\(∀ k,k<d.duties.length->fG d 191 k ()=.inr ()):=by
  unfold gO;simp only[ow];cases h3:(aM [1,d.hours,4096]&&aM [0,d.tank.start,d.tank.cap,1099511627776]&&decide ((d.reaches.length:Int) > 0))with
  |false=>
   simp only[cond_false,Bool.false_eq_true,false_iff];rintro⟨⟨a1,a2⟩,⟨a3,a4,a5⟩,a6,_⟩;rw[Da a1 a2,Db a3 a4 a5,decide_eq_true (by omega:(d.reaches.length:Int) > 0)]at h3;cases h3
  |true=>
   simp only[Bool.and_eq_true,decide_eq_true_eq]at h3;have b1:=K4 h3.1.1;have b2:=K5 h3.1.2;have b3:=h3.2;simp only[cond_true];rw[<-kA,<-kA,<-kA,<-kA,<-kA]
   repeat' split
   all_goals (rename_i e;first|simp_all;done|skip)
   all_goals simp_all
   all_goals omega
 unfold bW;simp only[ow];rw[<-hx];cases h1:(((((decide ((d.reaches.length:Int)<=64))&&(decide ((d.farms.length:Int)<=600)))&&(decide ((d.crops.length:Int)<=32)))&&(decide ((d.rights.length:Int)<=256)))&&(decide ((d.duties.length:Int)<=256)))with
 |false=>
  simp only[cond_false];simp only[Bool.and_eq_false_iff,decide_eq_false_iff_not]at h1;omega
 |true=>
  simp only[Bool.and_eq_true,decide_eq_true_eq]at h1;cases gO d 191 <;>simp <;>omega
theorem HK:∀ (f n d:Nat),1<=d->d<=f->1<=n->∀ x,(At f n d).getLastD x=Nat.gcd n d
 |0,n,d,h1,h2,_,x=>by omega
 |f+1,n,d,h1,h2,h3,x=>by
  unfold At;have hm:max d 1=d:=by omega
  rw[if_neg (by omega),hm];by_cases h0:n % d=0
  ·rw[if_pos h0];have:d ∣ n:=Nat.dvd_of_mod_eq_zero h0;rw[Nat.gcd_eq_right this];rfl
  ·rw[if_neg h0];have hlt:n % d<d:=Nat.mod_lt _ (by omega);have ih:=HK f d (n % d) (by omega) (by omega) (by omega) n;have e:Nat.gcd n d=Nat.gcd d (n % d):=by rw[Nat.gcd_comm n d,Nat.gcd_rec d n,Nat.gcd_comm]
   rw[e,<-ih,List.getLastD_cons]
theorem OQ {n d:Nat}(h:1<=d):Mo n d=Nat.gcd n d:=by
 unfold Mo;rw[if_neg (by omega)];by_cases h0:n=0
 ·subst h0;cases d with
  |zero=>omega
  |succ d=>simp[At]
 ·exact HK d n d h (Nat.le_refl _) (by omega) d
theorem F4 (b0:Int):∀ (n i:Nat) (a b:Int),0<=a->0<=b->b.toNat<n->an (kx b0) n i (a,b)=.inl ((Nat.gcd a.toNat b.toNat:Nat):Int)
 |0,_,_,_,_,_,h=>by omega
 |n+1,i,a,b,ha,hb,h=>by
  simp only[an,kx];by_cases h0:b > 0
  ·rw[decide_eq_true h0];simp only[cond_true];have e1:=Int.tmod_eq_emod_of_nonneg (b:=b) ha;have e2:=Int.emod_nonneg a (by omega:b≠0);have e3:=Int.emod_lt_of_pos a h0;rw[e1,F4 b0 n (i+1) b (a % b) hb e2 (by omega)];have e4:(a % b).toNat=a.toNat % b.toNat:=by
    obtain⟨x,rfl⟩:=Int.eq_ofNat_of_zero_le ha;obtain⟨y,rfl⟩:=Int.eq_ofNat_of_zero_le hb;simp only[<-Int.natCast_emod,Int.toNat_natCast]
   rw[e4,Nat.gcd_comm a.toNat b.toNat,Nat.gcd_rec b.toNat a.toNat,Nat.gcd_comm]
  ·rw[decide_eq_false h0];have:b=0:=by omega
   subst this;simp only[cond_false,Int.toNat_zero,Nat.gcd_zero_right];rw[Int.toNat_of_nonneg ha]
theorem A2 {a b:Int}(ha:0<=a)(hb:0<=b):ui a b=((Nat.gcd a.toNat b.toNat:Nat):Int):=by
 unfold ui;rw[F4 b _ 0 a b ha hb (by omega)]
theorem Mw {a b:Int}(ha:0<=a)(hb:0<=b):wc a b:=by
 refine⟨j7 _ _ _ fun j s _ _ h=>?_,fun z h=>?_⟩
 ·simp only[decide_eq_true_eq]at h;omega
 ·rw[F4 b _ 0 a b ha hb (by omega)]at h;cases h
theorem OS {n:Int}(h0:0<=n)(h1:n<18446744073709551616):u64.wrap n=n:=by
 simp only[IntKind.wrap,IntKind.bits,IntKind.signed];simp;omega
theorem DW {n:Int}(h0: -1073741824<=n)(h1:n<=1073741824):gW n=(n.natAbs:Int):=by
 unfold gW;by_cases h:n<0
 ·rw[decide_eq_true h];simp only[cond_true,IntKind.wrap,IntKind.bits,IntKind.signed];simp;omega
 ·rw[decide_eq_false h];simp only[cond_false];rw[OS (by omega) (by omega)];omega
theorem Dc {n:Int}(h0: -1073741824<=n)(h1:n<=1073741824):vS n=(n.natAbs:Int):=by
 unfold vS;by_cases h:n<0
 ·rw[decide_eq_true h];simp only[cond_true];rw[fE (by omega) (by omega)];omega
 ·rw[decide_eq_false h];simp only[cond_false];omega
structure RatioOk (a:Ratio):Prop where
 d1:1<=a.d
 d:a.d<=1073741824
 n0: -1073741824<=a.n
 n:a.n<=1073741824
 gcd:Nat.gcd a.n.natAbs a.d.toNat=1
theorem xD (a:Ratio):ee a=0↔RatioOk a:=by
 unfold ee;cases h:((((decide (a.d<1)) ||(decide (a.d > 1073741824))) ||(decide (a.n< (-1073741824)))) ||(decide (a.n > 1073741824)))with
 |true=>
  simp only[Bool.true_or,cond_true];simp only[Bool.or_eq_true,decide_eq_true_eq]at h;refine⟨fun e=>(by cases e),fun r=>?_⟩;have:=r.d1;have:=r.d;have:=r.n0;have:=r.n;omega
 |false=>
  simp only[Bool.or_eq_false_iff,decide_eq_false_iff_not]at h;rw[DW (by omega) (by omega),OS (by omega) (by omega),Int.toNat_natCast,OQ (by omega)];simp only[Bool.false_or];by_cases hg:Nat.gcd a.n.natAbs a.d.toNat=1
  ·rw[hg];exact⟨fun _=>⟨by omega,by omega,by omega,by omega,hg⟩,fun _=>rfl⟩
  ·have:((Nat.gcd a.n.natAbs a.d.toNat:Nat):Int)≠1:=by omega
   rw[bne_iff_ne.2 this];exact⟨fun e=>(by cases e),fun r=>absurd r.gcd hg⟩
theorem xE (a:Ratio):jB a=true↔RatioOk a:=by
 unfold jB;constructor
 ·intro h;simp only[Bool.and_eq_true,decide_eq_true_eq,beq_iff_eq]at h;obtain⟨⟨⟨⟨h1,h2⟩,h3⟩,h4⟩,h5⟩:=h;rw[Dc (by omega) (by omega),A2 (by omega) (by omega),Int.toNat_natCast]at h5;exact⟨h1,h2,h3,h4,by omega⟩
 ·intro r;have:=r.d1;have:=r.d;have:=r.n0;have:=r.n;simp only[Bool.and_eq_true,decide_eq_true_eq,beq_iff_eq];rw[Dc (by omega) (by omega),A2 (by omega) (by omega),Int.toNat_natCast,r.gcd];exact⟨⟨⟨⟨by omega,by omega⟩,by omega⟩,by omega⟩,rfl⟩
theorem OT (a:Ratio):ee a=0\/ee a=120:=by
 unfold ee;rw[Bool.cond_eq_ite];split <;>simp
theorem HL (a:Ratio):ee a=mR a:=by
 unfold mR;cases h:jB a with
 |true=>exact(xD a).2 ((xE a).1 h)
 |false=>
  have:ee a≠0:=fun e=>by
   have:=(xE a).2 ((xD a).1 e);rw[h]at this;cases this
  have:=OT a;simp only[Bool.not_false,cond_true];omega
theorem zu (a:Ratio):jB a=(ee a==0):=by
 cases h:jB a with
 |true=>rw[(xD a).2 ((xE a).1 h)];rfl
 |false=>
  have:ee a≠0:=fun e=>by
   have:=(xE a).2 ((xD a).1 e);rw[h]at this;cases this
  simp[this]
theorem U7 (a b:Ratio):qt a b=xB a b:=by
 unfold qt xB yF yE;rw[zu,zu,w6];generalize i64.wrap (a.n*b.d)=x;generalize i64.wrap (b.n*a.d)=y;cases h1:(ee a==0) <;>cases h2:(ee b==0) <;>simp[bne,h1,h2,Bool.cond_eq_ite];split
 ·rfl
 ·split <;>rfl
theorem BK (a:Ratio):qO a:=fun h=>by
 simp only[Bool.and_eq_true,decide_eq_true_eq]at h;rw[Dc (by omega) (by omega)];exact Mw (by omega) (by omega)
theorem U8 (a b:Ratio):zq a b:=⟨BK a,fun _=>BK b⟩
theorem sE (a b c:Int):aM [a,b,c]=(decide (a<=b)&&decide (b<=c)):=by
 cases h:aM [a,b,c]with
 |true=>have:=K4 h;simp[this.1,this.2]
 |false=>
  by_cases h1:a<=b
  ·by_cases h2:b<=c
   ·rw[Da h1 h2]at h;cases h
   ·simp[h2]
  ·simp[h1]
theorem uZ (a b c d:Int):aM [a,b,c,d]=(decide (a<=b)&&decide (b<=c)&&decide (c<=d)):=by
 cases h:aM [a,b,c,d]with
 |true=>have:=K5 h;simp[this.1,this.2.1,this.2.2]
 |false=>
  by_cases h1:a<=b
  ·by_cases h2:b<=c
   ·by_cases h3:c<=d
    ·rw[Db h1 h2 h3]at h;cases h
    ·simp[h3]
   ·simp[h2]
  ·simp[h1]
theorem Zj {a b:Bool}(h:a=true↔b=true):a=b:=by cases a <;>cases b <;>simp_all
theorem OU (x:Ratio×Ratio):pA x=jC x:=by
 unfold pA jC;rw[U7,<-HL,<-HL];unfold xB yF;rw[zu,zu];cases h1:(ee x.1==0) <;>cases h2:(ee x.2==0) <;>simp[bne,h1,h2,Bool.cond_eq_ite]
 repeat' split
 all_goals simp
theorem U9 (i:Int)(x:Reach):lh i x=true↔((i > 0/\0<=x.up/\x.up<i)\/(¬i > 0/\x.up= -1))/\(1<=x.delay/\x.delay<=16)/\(0<=x.siphon/\x.siphon<=x.cap/\x.cap<=1073741824)/\(x.siphon<=x.bank/\x.bank<=1099511627776)/\(0<=x.evap.lo/\x.evap.lo<=x.evap.hi/\x.evap.hi<=1073741824)/\jC x.seep=true:=by
 unfold lh fu;rw[OU,sE,uZ,uZ,uZ];generalize jC x.seep=q;by_cases h:i > 0
 ·rw[decide_eq_true h];simp only[cond_true,Bool.and_eq_true,decide_eq_true_eq];cases q <;>simp only[Bool.false_eq_true,and_false,and_true] <;>omega
 ·rw[decide_eq_false h];simp only[cond_false,Bool.and_eq_true,decide_eq_true_eq,beq_iff_eq];cases q <;>simp only[Bool.false_eq_true,and_false,and_true] <;>omega
theorem U_ (x:Reach):wX x=true↔(1<=x.delay/\x.delay<=16)/\(0<=x.siphon/\x.siphon<=x.cap/\x.cap<=1073741824)/\(x.siphon<=x.bank/\x.bank<=1099511627776)/\(0<=x.evap.lo/\x.evap.lo<=x.evap.hi/\x.evap.hi<=1073741824)/\jC x.seep=true:=by
 unfold wX aI;generalize jC x.seep=q;have hb:∀ (A B:Bool) (q:Bool),(bif A then false else bif B then false else q)=true↔A=false/\B=false/\q=true:=fun A B q=>by cases A <;>cases B <;>simp
 rw[hb];simp only[Bool.or_eq_false_iff,Bool.not_eq_false',Bool.and_eq_true,decide_eq_true_eq,decide_eq_false_iff_not];by_cases h:x.bank<x.cap
 ·rw[if_pos h];cases q <;>simp only[Bool.false_eq_true,and_false,and_true] <;>omega
 ·rw[if_neg h];cases q <;>simp only[Bool.false_eq_true,and_false,and_true] <;>omega
theorem Dd (l:List Reach)(k:Nat)(hk:k<4096):ky l k ()=.inr ()↔lh (k:Int) (l.getD k default)=true:=by
 unfold ky aI;rw[U9];have hb:∀ A B:Bool,((bif A then Sum.inl ()else bif B then Sum.inl ()else Sum.inr ()):Unit⊕Unit)=.inr ()↔A=false/\B=false:=fun A B=>by cases A <;>cases B <;>simp
 rw[hb,Bool.not_eq_false',U_];generalize l.getD k default=x;generalize jC x.seep=q;by_cases h:0<k
 ·rw[Mv (by omega) h];simp only[Bool.or_eq_false_iff,Bool.and_eq_false_iff,Bool.not_eq_false',Bool.and_eq_true,decide_eq_true_eq,decide_eq_false_iff_not,beq_eq_false_iff_ne,bne_eq_false_iff_eq];cases q <;>simp only[Bool.false_eq_true,and_false,and_true] <;>omega
 ·have:k=0:=by omega
  subst this;simp only[Bool.or_eq_false_iff,Bool.and_eq_false_iff,Bool.not_eq_false',Bool.and_eq_true,decide_eq_true_eq,decide_eq_false_iff_not,beq_eq_false_iff_ne,bne_eq_false_iff_eq];cases q <;>simp only[Bool.false_eq_true,and_false,and_true] <;>omega
theorem JD {n:Nat}(h:n<=4096):i64.wrap ((n:Int) - 1)=(n:Int) - 1:=fE (by omega) (by omega)
theorem RV (x:ByteArray):(x==x)=true:=by
 cases x with
 |mk d=>
  show(d==d)=true;simp
theorem OV (d:District)(x:Right)(h1:d.farms.length<=600)(h2:d.reaches.length<=64)(h3:1<=d.hours)(h4:d.hours<=4096):pC d x=wZ d x:=by
 unfold pC wZ fu aI;rw[uZ,sE,sE,uZ,JD (by omega),JD (by omega),fE (by omega: -9223372036854775808<=d.hours - 1) (by omega)];rw[RV];refine Zj ?_;have hb:∀ (A q:Bool),(bif A then false else q)=true↔A=false/\q=true:=fun A q=>by cases A <;>simp
 rw[hb,hb];have hc:∀ (k1 k2 k3 a b c:Bool),(bif k1 then a else bif k2 then b else bif k3 then c else false)=true↔(k1=true/\a=true)\/(k1=false/\k2=true/\b=true)\/(k1=false/\k2=false/\k3=true/\c=true):=fun k1 k2 k3 a b c=>by cases k1 <;>cases k2 <;>cases k3 <;>simp
 rw[hc,hc];simp only[Bool.or_eq_false_iff,Bool.and_eq_true,Bool.not_eq_false',decide_eq_true_eq,decide_eq_false_iff_not,beq_iff_eq,beq_eq_false_iff_ne,and_true,true_and];omega
theorem ux (A:Bool):((bif A then Sum.inr ()else Sum.inl ()):Unit⊕Unit)=.inr ()↔A=true:=by cases A <;>simp
theorem uy (A:Bool):((bif A then Sum.inl ()else Sum.inr ()):Unit⊕Unit)=.inr ()↔A=false:=by cases A <;>simp
theorem EN (d:District)(k:Nat):pG d k ()=.inr ()↔eW d 191 k ()=.inr ():=by
 unfold pG eW aI;rw[ow,uy,ux,sE];simp only[Bool.not_eq_false',Bool.and_eq_true,decide_eq_true_eq,ge_iff_le]
theorem EO (d:District)(k:Nat)(h1:d.reaches.length<=64)(h2:d.crops.length<=32):pH d k ()=.inr ()↔eX d 191 k ()=.inr ():=by
 unfold pH eX aI fu;simp only[ow];rw[sE,JD (by omega),JD (by omega)];generalize d.farms.getD k default=x;have hb:∀ A B:Bool,((bif A then Sum.inl ()else bif B then Sum.inl ()else Sum.inr ()):Unit⊕Unit)=.inr ()↔A=false/\B=false:=fun A B=>by cases A <;>cases B <;>simp
 rw[hb];by_cases h:x.area > 0
 ·rw[decide_eq_true h];simp only[Bool.true_and,Bool.false_and,Bool.or_false,cond_true,ux,Bool.or_eq_false_iff,Bool.and_eq_false_iff,Bool.not_eq_false',Bool.and_eq_true,decide_eq_true_eq,decide_eq_false_iff_not,beq_eq_false_iff_ne,bne_eq_false_iff_eq];omega
 ·rw[decide_eq_false h];simp only[Bool.true_and,Bool.false_and,Bool.or_false,cond_false,ux,Bool.or_eq_false_iff,Bool.and_eq_false_iff,Bool.not_eq_false',Bool.and_eq_true,decide_eq_true_eq,decide_eq_false_iff_not,beq_eq_false_iff_ne,bne_eq_false_iff_eq,beq_iff_eq];omega
theorem EP (d:District)(k:Nat)(h1:d.reaches.length<=64)(h2:d.farms.length<=600):pK d k ()=.inr ()↔fG d 191 k ()=.inr ():=by
 unfold pK fG aI fu;simp only[ow];rw[sE,JD (by omega),JD (by omega),ux,uy];simp only[Bool.or_eq_false_iff,Bool.not_eq_false',Bool.and_eq_true,decide_eq_true_eq];omega
theorem A3 (d:District)(k:Nat)(h1:d.farms.length<=600)(h2:d.reaches.length<=64)(h3:1<=d.hours)(h4:d.hours<=4096):pJ d k ()=.inr ()↔fF d 191 k ()=.inr ():=by
 unfold pJ fF;rw[ow,OV d _ h1 h2 h3 h4,ux,uy,Bool.not_eq_false']
theorem m1 {r:Unit⊕Unit}{a b:Bool}:(match r with| .inl _=>a| .inr _=>b)=true↔(r=.inr ()/\b=true)\/((∃ y,r=.inl y)/\a=true):=by
 cases r with
 |inl y=>simp
 |inr y=>simp
theorem HM (d:District)(h1:d.reaches.length<=64)(h2:d.farms.length<=600)(h3:d.crops.length<=32):tS d=true↔(1<=d.hours/\d.hours<=4096)/\(0<=d.tank.start/\d.tank.start<=d.tank.cap/\d.tank.cap<=1099511627776)/\0<d.reaches.length/\
  (∀ k,k<d.reaches.length->eV d 191 k ()=.inr ())/\(∀ k,k<d.crops.length->eW d 191 k ()=.inr ())/\(∀ k,k<d.farms.length->eX d 191 k ()=.inr ())/\(∀ k,k<d.rights.length->fF d 191 k ()=.inr ())/\(∀ k,k<d.duties.length->fG d 191 k ()=.inr ()):=by
 have hR:uj d.reaches=true↔(∀ k,k<d.reaches.length->eV d 191 k ()=.inr ())/\0<d.reaches.length:=by
  unfold uj;refine Iff.trans (m1 (r:=an (ky d.reaches) d.reaches.length 0 ()) (a:=false) (b:=decide ((d.reaches.length:Int) > 0))) ?_;simp only[Bool.false_eq_true,and_false,or_false,decide_eq_true_eq];rw[kA];refine and_congr ⟨fun h k hk=>?_,fun h k hk=>?_⟩ (by omega)
  ·unfold eV;rw[ow,ux];exact(Dd _ k (by omega)).1 (h k hk)
  ·have:=h k hk;unfold eV at this;rw[ow,ux]at this;exact(Dd _ k (by omega)).2 this
 have hF:wY d=true↔(∀ k,k<d.crops.length->eW d 191 k ()=.inr ())/\(∀ k,k<d.farms.length->eX d 191 k ()=.inr ()):=by
  unfold wY;refine Iff.trans (m1 (r:=an (pG d) d.crops.length 0 ()) (a:=false) (b:=match an (pH d) d.farms.length 0 ()with| .inl _=>false| .inr _=>true)) ?_;simp only[Bool.false_eq_true,and_false,or_false];rw[kA];refine Iff.trans (and_congr_right fun _=>m1) ?_;simp only[Bool.false_eq_true,and_false,or_false,and_true];rw[kA];exact and_congr ⟨fun h k hk=>(EN d k).1 (h k hk),fun h k hk=>(EN d k).2 (h k hk)⟩ ⟨fun h k hk=>(EO d k h1 h3).1 (h k hk),fun h k hk=>(EO d k h1 h3).2 (h k hk)⟩
 unfold tS;have hb:∀ A B q:Bool,(bif A then false else bif B then false else q)=true↔A=false/\B=false/\q=true:=fun A B q=>by cases A <;>cases B <;>simp
 rw[hb];refine Iff.trans (and_congr_right fun _=>and_congr_right fun _=>Iff.trans (m1 (r:=an (pJ d) d.rights.length 0 ()) (a:=false) (b:=match an (pK d) d.duties.length 0 ()with| .inl _=>false| .inr _=>true)) (or_congr_left (and_congr_right fun _=>m1))) ?_;simp only[Bool.false_eq_true,and_false,or_false,and_true];rw[kA,kA];simp only[Bool.or_eq_false_iff,Bool.not_eq_false',hR,hF,aI,Bool.and_eq_true,decide_eq_true_eq,decide_eq_false_iff_not];constructor
 ·rintro⟨⟨⟨a1,a2⟩,a3⟩,⟨⟨b1,b2⟩,b3,b4⟩,b5,b6⟩;refine⟨by omega,by omega,b2,b1,b3,b4,fun k hk=>(A3 d k h2 h1 (by omega) (by omega)).1 (b5 k hk),fun k hk=>(EP d k h1 h2).1 (b6 k hk)⟩
 ·rintro⟨a1,a2,a3,b1,b2,b3,b4,b5⟩;refine⟨⟨⟨by omega,by omega⟩,by omega⟩,⟨⟨b1,a3⟩,b2,b3⟩,fun k hk=>(A3 d k h2 h1 (by omega) (by omega)).2 (b4 k hk),fun k hk=>(EP d k h1 h2).2 (b5 k hk)⟩
theorem w7 (d:District):bW d=gf d:=by
 have hs:=rv d;unfold gf;by_cases hl:d.reaches.length<=64/\d.farms.length<=600/\d.crops.length<=32/\d.rights.length<=256/\d.duties.length<=256
 ·have e1:(((((decide ((d.reaches.length:Int) > 64)) ||(decide ((d.farms.length:Int) > 600))) ||(decide ((d.crops.length:Int) > 32))) ||(decide ((d.rights.length:Int) > 256))) ||(decide ((d.duties.length:Int) > 256)))=false:=by
   simp only[Bool.or_eq_false_iff,decide_eq_false_iff_not];omega
  rw[e1];simp only[cond_false];have hv:=HM d hl.1 hl.2.1 hl.2.2.1;cases h:tS d with
  |true=>exact hs.2 ⟨hl,hv.1 h⟩
  |false=>
   have h0:bW d≠0:=fun e=>by
    have:=hv.2 (hs.1 e).2;rw[h]at this;cases this
   unfold bW at h0 |-;simp only[ow]at h0 |-;have e2:(((((decide ((d.reaches.length:Int)<=64))&&(decide ((d.farms.length:Int)<=600)))&&(decide ((d.crops.length:Int)<=32)))&&(decide ((d.rights.length:Int)<=256)))&&(decide ((d.duties.length:Int)<=256)))=true:=by
    simp only[Bool.and_eq_true,decide_eq_true_eq];omega
   rw[e2]at h0 |-;simp only[cond_true]at h0 |-;cases hx:gO d 191 with
   |true=>rw[hx]at h0;simp at h0
   |false=>rfl
 ·have e1:(((((decide ((d.reaches.length:Int) > 64)) ||(decide ((d.farms.length:Int) > 600))) ||(decide ((d.crops.length:Int) > 32))) ||(decide ((d.rights.length:Int) > 256))) ||(decide ((d.duties.length:Int) > 256)))=true:=by
   simp only[Bool.or_eq_true,decide_eq_true_eq];omega
  rw[e1];unfold bW;simp only[ow];have e2:(((((decide ((d.reaches.length:Int)<=64))&&(decide ((d.farms.length:Int)<=600)))&&(decide ((d.crops.length:Int)<=32)))&&(decide ((d.rights.length:Int)<=256)))&&(decide ((d.duties.length:Int)<=256)))=false:=by
   simp only[Bool.and_eq_false_iff,decide_eq_false_iff_not];omega
  rw[e2];rfl
theorem OW (x:Ratio×Ratio):wW x:=⟨BK _,fun _=>BK _,fun _=>U8 _ _⟩
theorem RW (x:Reach):x8 x:=fun _ _=>OW _
theorem Mx (d:District):x9 d:=fun _=>j7 _ _ _ fun _ _ _ _ _ _=>RW _
theorem EQ (d:District):uk d:=fun _ _=>Mx d
def aV (n:Int)(lo:Int)(hi:Int):Bool:=((decide (n>=lo))&&(decide (n<=hi)))
def mT (a0:District)(a1:Judgement):Bool:=letI q0:=i64.wrap ((a0.farms.length:Int) - 1);letI q1:=aV a1.n 1 1073741824;(bif(((((!(aV a1.kind 1 4)) ||(!(aV a1.farm 0 q0))) ||(decide (a1.since<0))) ||(decide (a1.since > a1.to))) ||(decide (a1.to>=a0.hours)))then false else(bif(a1.kind==1)then((a1.other==0)&&(a1.n==0))else(bif(a1.kind==2)then((a1.other==0)&&q1)else(bif(((!(aV a1.other 0 q0)) ||(a1.other==a1.farm)) ||(!q1))then false else((a1.kind==4) ||((a0.farms.getD (Int.toNat a1.other) default).reach==(a0.farms.getD (Int.toNat a1.farm) default).reach))))))
def DX (a0:District)(a1:Judgement):Prop:=letI q0:=(a0.farms.length:Int);letI q1:=i64.wrap (q0 - 1);(a0.farms.length<=aD->((((((!(aV a1.kind 1 4)) ||(!(aV a1.farm 0 q1))) ||(decide (a1.since<0))) ||(decide (a1.since > a1.to))) ||(decide (a1.to>=a0.hours)))=false->((a1.kind==1)=false->((a1.kind==2)=false->((((!(aV a1.other 0 q1)) ||(a1.other==a1.farm)) ||(!(aV a1.n 1 1073741824)))=false->(((a1.kind==4)=false->(0<=a1.other/\a1.other<q0))/\((a1.kind==4)=false->(0<=a1.farm/\a1.farm<q0))))))))
@[go_sem] def rS (a0:List Judgement)(a1:Judgement)(k_0:Nat)(s_0:Bool):Unit⊕Bool:=letI q0:=a0.getD k_0 default;(bif((q0.of_==0)&&(q0.no==(i64.wrap (a1.of_ - 1))))then(bif(q0.of_==a1.of_)then .inl ()else .inr true)else(bif(q0.of_==a1.of_)then .inl ()else .inr s_0))
def nR (a0:List Judgement)(a1:Judgement):Bool:=(bif((((((a1.kind !=0) ||(a1.farm !=0)) ||(a1.other !=0)) ||(a1.since !=0)) ||(a1.to !=0)) ||(a1.n !=0))then false else(match an (rS a0 a1) a0.length 0 false with| .inl x_0_0=>false| .inr s_0=>s_0))
def jD (d:District)(before:List Judgement)(x:Judgement):Bool:=letI q1:=(before.length:Int);letI q0:=before.getD (Int.toNat (i64.wrap (q1 - 1))) default;(bif(((!(aV x.no 0 1048576)) ||(!(aV x.hour 0 d.hours))) ||((decide (q1 > 0))&&((decide (x.no<=q0.no)) ||(decide (x.hour<q0.hour)))))then false else(bif(x.of_==0)then(mT d x)else((decide (x.of_ > 0))&&(nR before x))))
def DY (d:District)(before:List Judgement)(x:Judgement):Prop:=letI q1:=(before.length:Int);letI q0:=i64.wrap (q1 - 1);letI q2:=before.getD (Int.toNat q0) default;letI q3:= !(aV x.hour 0 d.hours);letI q4:= !(aV x.no 0 1048576);letI q5:=decide (q1 > 0);letI q6:=decide (x.no<=q2.no);(before.length<=aD->(((q4||q3)=false->(q5=true->(0<=q0/\q0<q1)))/\(((q4||q3)=false->(q5=true->(q6=false->(0<=q0/\q0<q1))))/\(((q4||q3) ||(q5&&(q6||(decide (x.hour<q2.hour)))))=false->((x.of_==0)=true->(DX d x))))))
@[go_sem] def i9 (d:District)(j:List Judgement)(k_0:Nat)(s_0:Unit):Unit⊕Unit:=(bif(!(jD d ((j.take k_0).drop 0) (j.getD k_0 default)))then .inl ()else .inr ())
def AA (d:District)(j:List Judgement)(k_0:Nat)(s_0:Unit):Prop:=(j.length<=aD->((0<=0/\0<=(k_0:Int)/\(k_0:Int)<=(j.length:Int))/\(DY d ((j.take k_0).drop 0) (j.getD k_0 default))))
def iu (d:District)(j:List Judgement):Int:=(bif((gf d) !=0)then(gf d)else(bif(decide ((j.length:Int) > 64))then 2 else(match an (i9 d j) j.length 0 ()with| .inl x_0_0=>530| .inr s_0=>0)))
def uo (d:District)(j:List Judgement):Prop:=((uk d)/\(((gf d) !=0)=false->(j.length<=aD->((decide ((j.length:Int) > 64))=false->okI (i9 d j) (AA d j) j.length 0 ()))))
@[go_sem] def sW (j:List Judgement)(x:Judgement)(hour:Int)(k_0:Nat)(s_0:Unit):Unit⊕Unit:=(bif(((j.getD k_0 default).of_==(i64.wrap (x.no+1)))&&(decide ((j.getD k_0 default).hour<=hour)))then .inl ()else .inr ())
def tU (j:List Judgement)(x:Judgement)(hour:Int):Bool:=(match an (sW j x hour) j.length 0 ()with| .inl x_0_0=>true| .inr s_0=>false)
def br (j:List Judgement)(x:Judgement)(hour:Int):Bool:=(((((x.of_==0)&&(decide (x.hour<=hour)))&&(decide (x.since<=hour)))&&(decide (hour<=x.to)))&&(!(tU j x hour)))
end Go.Sx
end
section
namespace Go.Sx
open Go.RowKit
def My (k:Tag)(i:Nat)(t:List (Nat×SV))(h:List Ob):SV->St
 | .v (.slice none 0 0) =>⟨(i,.os h.length)::t,h++[.row k []]⟩
 |_=>⟨t,h⟩
def OX (k:Tag)(id off:Nat)(t:List (Nat×SV))(h:List Ob)(l:List SV):Option SV->St
 |some (.v (.slice none 0 0)) =>⟨t,bA h id (.cells (l.set off (.os h.length)))++[.row k []]⟩
 |_=>⟨t,h⟩
def RX (k:Tag)(id off:Nat)(t:List (Nat×SV))(h:List Ob):Ob->St
 | .cells l=>OX k id off t h l (nth l off)
 |_=>⟨t,h⟩
def OY (k:Tag)(t:List (Nat×SV))(h:List Ob):SV->St
 | .ptr id off=>RX k id off t h (al h id)
 |_=>⟨t,h⟩
def HN (k:Tag):ResultVar->List (Nat×SV)->List Ob->St
 | .tmp i,t,h=>My k i t h (lk i t)
 | .cell i _,t,h=>OY k t h (lk i t)
def De:List (ResultVar×Tag)->St->St
 | [],st=>st
 |x::r,st=>De r (HN x.2 x.1 st.t st.h)
theorem RY (k:Tag)(r:ResultVar)(st:St):NilS st (HN k r st.t st.h):=by
 obtain⟨t,h⟩:=st;cases r with
 |tmp i=>
  show NilS _ (My k i t h (lk i t));unfold My;split
  ·rename_i e;exact .slot _ (.refl _) e (.inl ⟨_,rfl⟩)
  ·exact .refl _
 |cell i _=>
  show NilS _ (OY k t h (lk i t));unfold OY;split
  ·unfold RX;split
   ·rename_i e;unfold OX;split
    ·rename_i e2;exact .cell _ (.refl _) e (by rw[<-gN];exact e2) (.inl ⟨_,rfl⟩)
    ·exact .refl _
   ·exact .refl _
  ·exact .refl _
theorem NilS.trans {a b c:St}(h1:NilS a b)(h2:NilS b c):NilS a c:=by
 induction h2 with
 |refl=>exact h1
 |cell o _ e1 e2 ho ih=>exact .cell o ih e1 e2 ho
 |slot o _ e1 ho ih=>exact .slot o ih e1 ho
 |slotE k _ e1 ih=>exact .slotE k ih e1
theorem Va (l:List (ResultVar×Tag)):∀ st,NilS st (De l st):=by
 induction l with
 |nil=>exact fun st=>.refl _
 |cons x r ih=>exact fun st=>(RY x.2 x.1 st).trans (ih _)
def K6 (l:List (ResultVar×Tag))(rs:List ResultVar)(ts:Tis)(post:SV->Prop)(pp:Value->Prop):Ex->St->Prop
 | .exit _,_=>False
 | .normal,st=>eU post (yn true rs ts (De l st))
 | .ret,st=>eU post (yn true rs ts (De l st))
 | .pan x,_=>pp x
section
variable {l:List (ResultVar×Tag)}{rs:List ResultVar}{ts:Tis}{post:SV->Prop}{pp:Value->Prop}{st:St}{k:Tag}{i id off:Nat}{t:List (Nat×SV)}{h:List Ob}{m:List SV}
@[go_sem] theorem Xl:K6 l rs ts post pp .ret st=eU post (yn true rs ts (De l st)):=(rfl)
@[go_sem] theorem RZ:K6 l rs ts post pp .normal st=eU post (yn true rs ts (De l st)):=(rfl)
@[go_sem] theorem Xm {x:Value}:K6 l rs ts post pp (.pan x) st=pp x:=(rfl)
@[go_sem] theorem Zk:De [] st=st:=(rfl)
@[go_sem] theorem Xn {r:ResultVar}:De ((r,k)::l) ⟨t,h⟩=De l (HN k r t h):=(rfl)
@[go_sem] theorem Xo:HN k (.tmp i) t h=My k i t h (lk i t):=(rfl)
@[go_sem] theorem Vb {ty:TypeId}:HN k (.cell i ty) t h=OY k t h (lk i t):=(rfl)
@[go_sem] theorem Zl:My k i t h (.v (.slice none 0 0))=⟨(i,.os h.length)::t,h++[.row k []]⟩:=(rfl)
@[go_sem] theorem abq:My k i t h (.os id)=⟨t,h⟩:=(rfl)
@[go_sem] theorem Zm:OY k t h (.ptr id off)=RX k id off t h (al h id):=(rfl)
@[go_sem] theorem Vc:RX k id off t h (.cells m)=OX k id off t h m (nth m off):=(rfl)
@[go_sem] theorem Zn:OX k id off t h m (some (.v (.slice none 0 0)))=⟨t,bA h id (.cells (m.set off (.os h.length)))++[.row k []]⟩:=(rfl)
@[go_sem] theorem abr:OX k id off t h m (some (.os i))=⟨t,h⟩:=(rfl)
attribute [go_sem] List.set_cons_zero
end
section
variable {P:Program}{ts:Tis}{G:Cons}
theorem F5 (l:List (ResultVar×Tag)) (hm:P.follows .mixedOrders=true) (hts:ts.ok P) (hG:ConsOk P G) {f:FuncId} {fn:Func} {c:Code} (hf:P.funcs[f]? =some fn) (hb:fn.body=some c) (hname:(fn.name== "runtime.NumGoroutine")=false)
  (hc:cp fn.ntmps c=true) {C:List SV->Option Con}
  (h:∀ l0 con,C l0=some con->ax con->l0.length<=fn.ntmps/\∃ L,am P none fn.ntmps L c/\exec ts G L c ⟨mG 0 l0,[]⟩ (K6 l fn.results.toList ts (dH con) (mK con))):FnOk P f C:=by
 refine⟨fun l con _ args w=>?_,fun l0 con hcon hpre F w vs hF hvs=>?_⟩
 ·have hn:¬fn.name= "runtime.NumGoroutine":=by simpa using hname
  simp[callFunc,hf,hn,hb]
 ·obtain⟨hlen,L,hl,hx⟩:=h l0 con hcon hpre;refine oO (n:=0) (callsIn_of_wp_marks hf hb trivial ?_);have hr:StRel F { w:=w,own:=cO} fn.ntmps cO ⟨mG 0 l0,[]⟩ { tmps:=vs++Array.replicate (fn.ntmps - vs.size) undef,defers:=[]} w:=
   ⟨by have:=hvs.1;simp;omega,Dfr.nil,vN hF,Fr.refl _,fun t=>mM hvs _ t⟩
  refine wpIn_mono (nQ hm hts hG c hc hl F _ _ hx cO _ w hr) ?_;intro e a' w' hq;have key:∀ F1 own st,(∀ b,F b->F1 b)->StRel F1 { w:=w,own:=cO} fn.ntmps own st a' w'->eU (dH con) (yn true fn.results.toList ts (De l st))->LeavesInM (rd none) 0 P fn a'.tmps
    (fun e w'=>(∃ s u own',dH con s/\e=.returned u/\Handed F w own' w' s u/\Below w.heap.size w w')\/(∃ x,mK con x/\e=.panicked [{ v:=x,recovered:=false}]/\Below w.heap.size w w')) a'.defers .returning w':=by
   intro F1 own0' st0 hF1 hst0 hdone;obtain⟨own,hst⟩:=(Va l st0).rel hst0;generalize De l st0=st at hst hdone;refine jz hst (by simp) fun w2 hst2=>?_;have hst3:=hst2.less hF1 rfl;unfold yn at hdone;cases hs:lH (km ts st fn.results.toList)with
   |none=>
    simp only[cond_true,LM]at hdone;rw[hs]at hdone;exact hdone.elim
   |some s=>
    obtain⟨u,e1,e2⟩:=vM (P:=P) hts hst3 hs;refine⟨u,e1,.inl ?_⟩;simp only[cond_true,LM]at hdone;rw[hs]at hdone;change eU (dH con) (AT st.h s)at hdone;cases hg:AT st.h s with
    |none=>rw[hg]at hdone;exact hdone.elim
    |some s2=>
     rw[hg]at hdone;obtain⟨own',hh⟩:=KA hst3 e2 hg;exact⟨_,u,own',hdone,rfl,hh,px hst3.fr⟩
  cases e with
  |normal=>obtain⟨F1,own,st,h0,h1,h2⟩:=hq;exact key F1 own st h0 h1 h2
  |ret=>obtain⟨F1,own,st,h0,h1,h2⟩:=hq;exact key F1 own st h0 h1 h2
  |exit id=>obtain⟨F1,own,st,h0,h1,h2⟩:=hq;exact h2.elim
  |panic ch=>
   obtain⟨x,F1,own,st,h0,h1,h2,rfl⟩:=hq;exact jz h1 (by simp) fun w2 hst2=>.inr ⟨x,h2,rfl,px hst2.fr⟩
  |_=>exact hq.elim
end
end Go.Sx
end
section
namespace Go.Sx
open Go.Proofs
open IntKind (i64)
@[go_sem] def jE (l_:List Claim)(x:Claim)(k_0:Nat)(s_0:List Claim×Int):(Int×List Claim)⊕(List Claim×Int):=(bif((decide (s_0.2< (l_.length:Int)))&&(aK (l_.getD (Int.toNat s_0.2) default) x))then .inr ((s_0.1++([(l_.getD (Int.toNat s_0.2) default)])),(i64.wrap (s_0.2+1)))else .inl (s_0.2,s_0.1))
def mU (l_:List Claim)(x:Claim)(k_0:Nat)(s_0:List Claim×Int):Prop:=letI q0:=(l_.length:Int);letI q1:=l_.getD (Int.toNat s_0.2) default;letI q2:=0<=s_0.2/\s_0.2<q0;letI q3:=decide (s_0.2<q0);(l_.length<=aD->((q3=true->q2)/\((q3&&(aK q1 x))=true->(q2/\((s_0.1++([q1])).length*40<=c6)))))
def sF (l_:List Claim)(x:Claim):List Claim:=letI q0:=l_.take (Int.toNat (l_.length:Int));(match an (jE l_ x) (l_.length+1) 0 ([],0)with| .inl x_0_0=>(bif((decide (x_0_0.1< (l_.length:Int)))&&(!(aK x (l_.getD (Int.toNat x_0_0.1) default))))then((x_0_0.2++([({ right:=x.right,farm:=x.farm,hour:=x.hour,litres:=(i64.wrap (x.litres+(l_.getD (Int.toNat x_0_0.1) default).litres)),rank:=x.rank}:Claim)]))++(q0.drop (Int.toNat (i64.wrap (x_0_0.1+1)))))else((x_0_0.2++([x]))++(q0.drop (Int.toNat x_0_0.1)))) | .inr s_0=>default)
def pb (l_:List Claim)(x:Claim):Prop:=letI q0:=(l_.length:Int);letI q1:=jE l_ x;letI q2:=l_.length+1;letI q3:=l_.take (Int.toNat q0);(okI q1 (mU l_ x) q2 0 ([],0)/\(∀ z_,an q1 q2 0 ([],0)≠ .inr z_)/\(∀ x_0_0,an q1 q2 0 ([],0)=.inl x_0_0->(l_.length<=aD->(((decide (x_0_0.1<q0))=true->(0<=x_0_0.1/\x_0_0.1<q0))/\((((decide (x_0_0.1<q0))&&(!(aK x (l_.getD (Int.toNat x_0_0.1) default))))=true->((0<=x_0_0.1/\x_0_0.1<q0)/\(((x_0_0.2++([({ right:=x.right,farm:=x.farm,hour:=x.hour,litres:=(i64.wrap (x.litres+(l_.getD (Int.toNat x_0_0.1) default).litres)),rank:=x.rank}:Claim)])).length*40<=c6)/\((x_0_0.2++([({ right:=x.right,farm:=x.farm,hour:=x.hour,litres:=(i64.wrap (x.litres+(l_.getD (Int.toNat x_0_0.1) default).litres)),rank:=x.rank}:Claim)])).length<=aD->((0<=(i64.wrap (x_0_0.1+1))/\(i64.wrap (x_0_0.1+1))<=q0/\q0<=q0)/\(((x_0_0.2++([({ right:=x.right,farm:=x.farm,hour:=x.hour,litres:=(i64.wrap (x.litres+(l_.getD (Int.toNat x_0_0.1) default).litres)),rank:=x.rank}:Claim)]))++(q3.drop (Int.toNat (i64.wrap (x_0_0.1+1))))).length*40<=c6))))))/\(((decide (x_0_0.1<q0))&&(!(aK x (l_.getD (Int.toNat x_0_0.1) default))))=false->(((x_0_0.2++([x])).length*40<=c6)/\((x_0_0.2++([x])).length<=aD->((0<=x_0_0.1/\x_0_0.1<=q0/\q0<=q0)/\(((x_0_0.2++([x]))++(q3.drop (Int.toNat x_0_0.1))).length*40<=c6))))))))))
@[go_sem] def mV (l_:List Claim)(farm:Int)(k_0:Nat)(s_0:Int×List Claim):Empty⊕(Int×List Claim):=letI q0:=l_.getD k_0 default;letI q1:=if s_0.1<q0.litres then s_0.1 else q0.litres;letI q2:=i64.wrap (s_0.1 - q1);(bif(q0.farm==farm)then(bif(decide (q1 > 0))then .inr (q2,(s_0.2++([({ right:=q0.right,farm:=q0.farm,hour:=q0.hour,litres:=q1,rank:=q0.rank}:Claim)])))else .inr (q2,s_0.2))else(bif(decide (q0.litres > 0))then .inr (s_0.1,(s_0.2++([q0])))else .inr (s_0.1,s_0.2)))
def qx (l_:List Claim)(farm:Int)(k_0:Nat)(s_0:Int×List Claim):Prop:=letI q0:=l_.getD k_0 default;letI q1:=if s_0.1<q0.litres then s_0.1 else q0.litres;(l_.length<=aD->(((q0.farm==farm)=true->((decide (q1 > 0))=true->((s_0.2++([({ right:=q0.right,farm:=q0.farm,hour:=q0.hour,litres:=q1,rank:=q0.rank}:Claim)])).length*40<=c6)))/\((q0.farm==farm)=false->((decide (q0.litres > 0))=true->((s_0.2++([q0])).length*40<=c6)))))
def fI (l_:List Claim)(farm:Int)(n:Int):List Claim:=(match an (mV l_ farm) l_.length 0 (n,[])with| .inl x=>x.elim| .inr s_0=>s_0.2)
def uq (l_:List Claim)(farm:Int)(n:Int):Prop:=okI (mV l_ farm) (qx l_ farm) l_.length 0 (n,[])
@[go_sem] def iT (a0:List Claim)(a1:Int)(a2:Int)(k_0:Nat)(s_0:Int×List Claim×List Claim×Int):(List Claim×List Claim)⊕(Int×List Claim×List Claim×Int):=letI q0:=a0.getD (Int.toNat s_0.2.2.2) default;letI q1:=if s_0.1<q0.litres then s_0.1 else q0.litres;letI q2:=i64.wrap (s_0.2.2.2 - 1);letI q4:=s_0.2.2.1++([({ right:=q0.right,farm:=a2,hour:=q0.hour,litres:=q1,rank:=q0.rank}:Claim)]);letI q5:=i64.wrap (s_0.1 - q1);letI q6:=i64.wrap (q0.litres - q1);letI q3:=sF s_0.2.1 ({ right:=q0.right,farm:=q0.farm,hour:=q0.hour,litres:=q6,rank:=q0.rank}:Claim);(bif(decide (s_0.2.2.2>=0))then(bif(q0.farm==a1)then(bif(decide (q1 > 0))then(bif(decide (q6 > 0))then .inr (q5,q3,q4,q2)else .inr (q5,s_0.2.1,q4,q2))else(bif(decide (q6 > 0))then .inr (q5,q3,s_0.2.2.1,q2)else .inr (q5,s_0.2.1,s_0.2.2.1,q2)))else(bif(decide (q0.litres > 0))then .inr (s_0.1,(sF s_0.2.1 q0),s_0.2.2.1,q2)else .inr (s_0.1,s_0.2.1,s_0.2.2.1,q2)))else .inl (s_0.2.1,s_0.2.2.1))
def lJ (a0:List Claim)(a1:Int)(a2:Int)(k_0:Nat)(s_0:Int×List Claim×List Claim×Int):Prop:=letI q0:=a0.getD (Int.toNat s_0.2.2.2) default;letI q1:=if s_0.1<q0.litres then s_0.1 else q0.litres;letI q3:=s_0.2.2.1++([({ right:=q0.right,farm:=a2,hour:=q0.hour,litres:=q1,rank:=q0.rank}:Claim)]);letI q4:=i64.wrap (q0.litres - q1);letI q2:=(decide (q4 > 0))=true->(pb s_0.2.1 ({ right:=q0.right,farm:=q0.farm,hour:=q0.hour,litres:=q4,rank:=q0.rank}:Claim));((decide (s_0.2.2.2>=0))=true->((0<=s_0.2.2.2/\s_0.2.2.2< (a0.length:Int))/\(((q0.farm==a1)=true->(((decide (q1 > 0))=true->((q3.length*40<=c6)/\(q3.length<=aD->q2)))/\((decide (q1 > 0))=false->q2)))/\((q0.farm==a1)=false->((decide (q0.litres > 0))=true->(pb s_0.2.1 q0))))))
@[go_sem] def ox (x_0_0:List Claim×List Claim)(k_1:Nat)(s_1:List Claim):Empty⊕(List Claim):=.inr (sF s_1 (x_0_0.2.getD k_1 default))
def rT (x_0_0:List Claim×List Claim)(k_1:Nat)(s_1:List Claim):Prop:=(x_0_0.2.length<=aD->(pb s_1 (x_0_0.2.getD k_1 default)))
def jR (a0:List Claim)(a1:Int)(a2:Int)(a3:Int):List Claim:=(match an (iT a0 a1 a2) (a0.length+1) 0 (a3,[],[],(i64.wrap ((a0.length:Int) - 1)))with| .inl x_0_0=>(match an (ox x_0_0) x_0_0.2.length 0 x_0_0.1 with| .inl x=>x.elim| .inr s_1=>s_1) | .inr s_0=>default)
def su (a0:List Claim)(a1:Int)(a2:Int)(a3:Int):Prop:=letI q0:=(a3,[],[],(i64.wrap ((a0.length:Int) - 1)));letI q1:=iT a0 a1 a2;letI q2:=a0.length+1;(a0.length<=aD->(okI q1 (lJ a0 a1 a2) q2 0 q0/\(∀ z_,an q1 q2 0 q0≠ .inr z_)/\(∀ x_0_0,an q1 q2 0 q0=.inl x_0_0->okI (ox x_0_0) (rT x_0_0) x_0_0.2.length 0 x_0_0.1)))
@[go_sem] def lR (j:List Judgement)(h_:Int)(k_0:Nat)(s_0:List Claim):Empty⊕(List Claim):=letI q0:=j.getD k_0 default;(bif(!(br j q0 h_))then .inr s_0 else(bif(q0.kind==1)then .inr (fI s_0 (q0.farm) 0)else(bif(q0.kind==2)then .inr (fI s_0 (q0.farm) (q0.n))else(bif(q0.kind==3)then .inr (jR s_0 (q0.farm) (q0.other) (q0.n))else .inr s_0))))
def wd (j:List Judgement)(h_:Int)(k_0:Nat)(s_0:List Claim):Prop:=letI q0:=j.getD k_0 default;(j.length<=aD->((!(br j q0 h_))=false->(((q0.kind==1)=true->(uq s_0 (q0.farm) 0))/\((q0.kind==1)=false->(((q0.kind==2)=true->(uq s_0 (q0.farm) (q0.n)))/\((q0.kind==2)=false->((q0.kind==3)=true->(su s_0 (q0.farm) (q0.other) (q0.n)))))))))
def qy (l_:List Claim)(j:List Judgement)(h_:Int):List Claim:=(match an (lR j h_) j.length 0 l_ with| .inl x=>x.elim| .inr s_0=>s_0)
def zv (l_:List Claim)(j:List Judgement)(h_:Int):Prop:=okI (lR j h_) (wd j h_) j.length 0 l_
@[go_sem] def dh (a1:List Claim)(s_0:List Claim×Int)(k_1:Nat)(s_1:Int):Int⊕Int:=(bif((decide (s_1< (a1.length:Int)))&&((a1.getD (Int.toNat s_1) default).hour==(a1.getD (Int.toNat s_0.2) default).hour))then .inr (i64.wrap (s_1+1))else .inl s_1)
def oU (a1:List Claim)(s_0:List Claim×Int)(k_1:Nat)(s_1:Int):Prop:=(a1.length<=aD->(((decide (s_1< (a1.length:Int)))=true->(0<=s_1/\s_1< (a1.length:Int)))/\((decide (s_1< (a1.length:Int)))=true->(0<=s_0.2/\s_0.2< (a1.length:Int)))))
@[go_sem] def eI (a1:List Claim)(a2:List Judgement)(k_0:Nat)(s_0:List Claim×Int):(List Claim)⊕(List Claim×Int):=(bif(decide (s_0.2< (a1.length:Int)))then(match an (dh a1 s_0) (a1.length+1) 0 s_0.2 with| .inl x_1_0=>.inr ((s_0.1++(qy ((a1.take (Int.toNat x_1_0)).drop (Int.toNat s_0.2)) a2 ((a1.getD (Int.toNat s_0.2) default).hour))),x_1_0) | .inr s_1=>.inr default)else .inl s_0.1)
def oV (a1:List Claim)(a2:List Judgement)(k_0:Nat)(s_0:List Claim×Int):Prop:=letI q0:=dh a1 s_0;letI q1:=Int.toNat s_0.2;letI q2:=(a1.length:Int);letI q3:=a1.length+1;letI q4:=(a1.getD q1 default).hour;(a1.length<=aD->((decide (s_0.2<q2))=true->(okI q0 (oU a1 s_0) q3 0 s_0.2/\(∀ z_,an q0 q3 0 s_0.2≠ .inr z_)/\(∀ x_1_0,an q0 q3 0 s_0.2=.inl x_1_0->((0<=s_0.2/\s_0.2<=x_1_0/\x_1_0<=q2)/\((0<=s_0.2/\s_0.2<q2)/\((zv ((a1.take (Int.toNat x_1_0)).drop q1) a2 q4)/\((s_0.1++(qy ((a1.take (Int.toNat x_1_0)).drop q1) a2 q4)).length*40<=c6))))))))
@[go_sem] def nS (x_0_0:List Claim)(k_2:Nat)(s_2:Unit):Unit⊕Unit:=(bif(decide ((x_0_0.getD k_2 default).litres > 1073741824))then .inl ()else .inr ())
def yf (a0:District)(a1:List Claim)(a2:List Judgement):List Claim×Int:=letI q0:=iu a0 a2;letI q1:=tT a0 a1;(bif(q0 !=0)then([],q0)else(bif(q1 !=0)then([],q1)else(match an (eI a1 a2) (a1.length+1) 0 ([],0)with| .inl x_0_0=>(bif(decide ((x_0_0.length:Int) > 4096))then([],2)else(match an (nS x_0_0) x_0_0.length 0 ()with| .inl x_2_0=>([],2) | .inr s_2=>(x_0_0,0))) | .inr s_0=>default)))
def Bu (a0:District)(a1:List Claim)(a2:List Judgement):Prop:=letI q0:=eI a1 a2;((uo a0 a2)/\(((iu a0 a2) !=0)=false->((ya a0 a1)/\(((tT a0 a1) !=0)=false->(okI q0 (oV a1 a2) (a1.length+1) 0 ([],0)/\(∀ z_,an q0 (a1.length+1) 0 ([],0)≠ .inr z_))))))
@[go_sem] def w8 (a1:List Judgement)(a2:Int)(k_0:Nat)(s_0:List Int):Empty⊕(List Int):=letI q0:=a1.getD k_0 default;letI q2:=Int.toNat (q0.other);letI q3:=Int.toNat (q0.farm);letI q1:=s_0.set q3 (i64.wrap ((s_0.getD q3 0)+q0.n));(bif(((q0.kind==4)&&(decide (q0.hour<=a2)))&&(!(tU a1 q0 a2)))then .inr (q1.set q2 (i64.wrap ((q1.getD q2 0) - q0.n)))else .inr s_0)
def AB (a1:List Judgement)(a2:Int)(k_0:Nat)(s_0:List Int):Prop:=letI q0:=a1.getD k_0 default;letI q2:=0<=q0.farm/\q0.farm< (s_0.length:Int);letI q3:=Int.toNat (q0.farm);letI q1:=0<=q0.other/\q0.other< ((s_0.set q3 (i64.wrap ((s_0.getD q3 0)+q0.n))).length:Int);(a1.length<=aD->((((q0.kind==4)&&(decide (q0.hour<=a2)))&&(!(tU a1 q0 a2)))=true->(q2/\(q2/\(q1/\q1)))))
def DZ (a0:District)(a1:List Judgement)(a2:Int):Prop:=letI q0:=(a0.farms.length:Int);((uo a0 a1)/\(((iu a0 a1) !=0)=false->((!(aV a2 0 a0.hours))=false->(a0.farms.length<=aD->((q0=q0/\0<=q0/\q0*((8:Nat):Int)<=((c6:Nat):Int))/\(q0<=((aD:Nat):Int)->okI (w8 a1 a2) (AB a1 a2) a1.length 0 (List.replicate (Int.toNat q0) (0:Int))))))))
def dT (i:Int)(d:District):Bool:=(aG i 0 (i64.wrap ((d.farms.length:Int) - 1)))
@[go_sem] def sb:List SV->Option Con:=(pI fun i=>(pX .district fun d=>(pE (.det True (.v (.bool (dT i d)))))))
theorem xa:FnOk Tryz.prog 109 sb:=by
 have hG:ConsOk Tryz.prog (mkG [(52,gP)] []):=ar (cgc iF cg0) cg0;refine ay [.o] mixed ak hG (fn:=Tryz.f109) (c:=ae Tryz.f109) kr kr kr kr (cI fun i=>(aQ fun d=>(ai (fun hp=>?_))));dsimp only[ax]at hp;refine⟨nbl rfl,L0,ag _,?_⟩
 ·unfold ae Tryz.f109;try unfold dT
  exact zq1
def Bv (a0:District)(a1:Judgement):Unit:=(bif(aw ((((aG a1.kind 1 4)&&(dT a1.farm a0))&&(aG a1.since 0 a1.to))&&(decide (a1.to<a0.hours))) 530)then(bif(aw (((a1.kind==1)&&(a1.n==0)) ||((a1.kind !=1)&&(aG a1.n 1 1073741824))) 530)then(bif(decide (a1.kind<3))then(bif(aw (a1.other==0) 530)then()else default)else(bif(aw ((dT a1.other a0)&&(a1.other !=a1.farm)) 530)then(bif(aw ((a1.kind==4) ||((a0.farms.getD (Int.toNat a1.other) default).reach==(a0.farms.getD (Int.toNat a1.farm) default).reach)) 530)then()else default)else default))else default)else default)
def tV (a0:District)(a1:Judgement):Prop:=letI q0:=(a0.farms.length:Int);((aw ((((aG a1.kind 1 4)&&(dT a1.farm a0))&&(aG a1.since 0 a1.to))&&(decide (a1.to<a0.hours))) 530)=true->((aw (((a1.kind==1)&&(a1.n==0)) ||((a1.kind !=1)&&(aG a1.n 1 1073741824))) 530)=true->((decide (a1.kind<3))=false->((aw ((dT a1.other a0)&&(a1.other !=a1.farm)) 530)=true->(((a1.kind==4)=false->(0<=a1.other/\a1.other<q0))/\((a1.kind==4)=false->(0<=a1.farm/\a1.farm<q0)))))))
theorem R2 {n:Int}(h: -9223372036854775808<=n):i64.wrap n<=n:=by
 simp only[IntKind.wrap,IntKind.bits,IntKind.signed];simp;omega
theorem R3 (b:Bool)(e:Int):aw b e=b:=by cases b <;>rfl
theorem Zo (n lo hi:Int):aG n lo hi=true↔lo<=n/\n<=hi:=by
 unfold aG;simp[Bool.and_eq_true]
theorem yI (d:District)(x:Judgement):tV d x:=by
 intro h1 h2 h3 h4;rw[R3]at h1 h4;simp only[Bool.and_eq_true]at h1 h4;have a1:=h1.1.1.2;have a4:=h4.1;unfold dT at a1 a4;rw[Zo]at a1 a4;have:=R2 (n:=(d.farms.length:Int) - 1) (by omega);exact⟨fun _=>⟨by omega,by omega⟩,fun _=>⟨by omega,by omega⟩⟩
def je (a0:District)(a1:Judgement):Bool:=(bif(aw ((((aG a1.kind 1 4)&&(dT a1.farm a0))&&(aG a1.since 0 a1.to))&&(decide (a1.to<a0.hours))) 530)then(bif(aw (((a1.kind==1)&&(a1.n==0)) ||((a1.kind !=1)&&(aG a1.n 1 1073741824))) 530)then(bif(decide (a1.kind<3))then(bif(aw (a1.other==0) 530)then true else false)else(bif(aw ((dT a1.other a0)&&(a1.other !=a1.farm)) 530)then(bif(aw ((a1.kind==4) ||((a0.farms.getD (Int.toNat a1.other) default).reach==(a0.farms.getD (Int.toNat a1.farm) default).reach)) 530)then true else false)else false))else false)else false)
@[go_sem] def tW:List SV->Option Con:=(pD .district fun a0=>(pD .judgement fun a1=>(pE (.may (je a0 a1) (.tup []) (.iface 36 (.int .i64 530))))))
theorem yJ:FnOk Tryz.prog 59 tW:=by
 have hG:ConsOk Tryz.prog (mkG [(52,gP),(58,kz),(109,sb)] []):=ar (cgc iF (cgc mo (cgc xa cg0))) cg0;refine ay [] mixed ak hG (fn:=Tryz.f59) (c:=ae Tryz.f59) kr kr kr kr (bk fun a0=>(bk fun a1=>(ai (fun hp=>?_))));dsimp only[ax]at hp;have hp:=yI a0 a1;unfold tV at hp;refine⟨nbl rfl,L0,ag _,?_⟩
 ·unfold ae Tryz.f59;try unfold Bv
  try unfold je
  exact zq1
def mq (y:Judgement)(x:Judgement)(hour:Int):Bool:=((y.of_==(i64.wrap (x.no+1)))&&(decide (y.hour<=hour)))
@[go_sem] def se:List SV->Option Con:=(pD .judgement fun y=>(pX .judgement fun x=>(pX .int fun hour=>(pE (.det True (.v (.bool (mq y x hour))))))))
theorem xb:FnOk Tryz.prog 104 se:=by
 have hG:ConsOk Tryz.prog (mkG [] []):=ar cg0 cg0;refine ay [.o] mixed ak hG (fn:=Tryz.f104) (c:=ae Tryz.f104) kr kr kr kr (bk fun y=>(aQ fun x=>(aQ fun hour=>(ai (fun hp=>?_)))));dsimp only[ax]at hp;refine⟨nbl rfl,L0,ag _,?_⟩
 ·unfold ae Tryz.f104;try unfold mq
  exact zq1
@[go_sem] def bP (s_:List Judgement)(x:Judgement)(hour:Int)(k_0:Nat)(s_0:Unit):Int⊕Unit:=(bif(mq (s_.getD k_0 default) x hour)then .inl (k_0:Int)else .inr ())
def dP (s_:List Judgement)(x:Judgement)(hour:Int):Int:=(match an (bP s_ x hour) s_.length 0 ()with| .inl x_0_0=>x_0_0| .inr s_0=>(-1))
@[go_sem] def fT:List SV->Option Con:=(pR .judgement fun s_=>(pFn 104 (pX .judgement fun x=>(pX .int fun hour=>(pE ((pE (.det True (.v (.int .i64 (dP s_ x hour)))))))))))
theorem jF:FnOk Tryz.prog 147 fT:=by
 have hG:ConsOk Tryz.prog (mkG [(104,se)] []):=ar (cgc xb cg0) cg0;refine ay [.o] mixed ak hG (fn:=Tryz.f147) (c:=ae Tryz.f147) kr kr kr kr (bC fun s_=>(bJ (aQ fun x=>(aQ fun hour=>(ai ((ai (fun hp=>?_))))))));dsimp only[ax]at hp;refine⟨nbl rfl,(fun id st=>bif Nat.beq id 0 then some (LCR (ρ:=Int) (σ:=Unit) 0 [] [] (fun k_0 s_0=>⟨[(0,.rs .judgement s_),(1,.fn 104 [] [.ep (cellsOf .judgement x) 0,.ep [.v (.int .i64 hour)] 0]),(7,.v (.int .i64 (s_.length:Int))),(8,.v (.int .i64 (k_0:Int)))],[]⟩) (bP s_ x hour) pT s_.length () (s_.length<=aD) (fun _=>.ret) (fun x_0_0=>⟨[(4,.v (.int .i64 x_0_0))],[]⟩) st)else none),?_,?_⟩
 ·unfold ae Tryz.f147;simp only[am,true_and,and_true]
  ·refine a_ mixed ak hG kr (fun _=>rfl) (s_.length:Int) rfl gA (fun hb0 k_0 s_0 hlt0 _ hw hc=>⟨L0,ag _,?_⟩) (fun hb0 s_0 hc=>?_)
   ·exact bi (jl [])
   ·exact ba (jl [])
 ·unfold ae Tryz.f147;try unfold dP
  exact zq1
def dp (s_:List Judgement)(x:Judgement)(hour:Int):Bool:=(decide ((dP s_ x hour)>=0))
@[go_sem] def ft:List SV->Option Con:=(pR .judgement fun s_=>(pFn 104 (pX .judgement fun x=>(pX .int fun hour=>(pE ((pE (.det True (.v (.bool (dp s_ x hour)))))))))))
theorem jf:FnOk Tryz.prog 103 ft:=by
 have hG:ConsOk Tryz.prog (mkG [(147,fun l=>fT (bp [.sl .judgement,.o] l))] []):=ar (cgc (jF.norm [.sl .judgement,.o]) cg0) cg0;refine ay [.o] mixed ak hG (fn:=Tryz.f103) (c:=ae Tryz.f103) kr kr kr kr (bC fun s_=>(bJ (aQ fun x=>(aQ fun hour=>(ai ((ai (fun hp=>?_))))))));dsimp only[ax]at hp;refine⟨nbl rfl,L0,ag _,?_⟩
 ·unfold ae Tryz.f103;try unfold dp
  exact zq1
def gZ (j:List Judgement)(x:Judgement)(hour:Int):Bool:=(dp j x hour)
@[go_sem] def mr:List SV->Option Con:=(pR .judgement fun j=>(pD .judgement fun x=>(pI fun hour=>(pE (.det True (.v (.bool (gZ j x hour))))))))
theorem sX:FnOk Tryz.prog 53 mr:=by
 have hG:ConsOk Tryz.prog (mkG [(103,fun l=>ft (bp [.sl .judgement,.o] l))] []):=ar (cgc (jf.norm [.sl .judgement,.o]) cg0) cg0;refine ay [.o] mixed ak hG (fn:=Tryz.f53) (c:=ae Tryz.f53) kr kr kr kr (bC fun j=>(bk fun x=>(cI fun hour=>(ai (fun hp=>?_)))));dsimp only[ax]at hp;refine⟨nbl rfl,L0,ag _,?_⟩
 ·unfold ae Tryz.f53;try unfold gZ
  exact zq1
@[go_sem] def ev (a0:District)(a1:List Judgement)(k_0:Nat)(s_0:List (Int×Bool)):Unit⊕(List (Int×Bool)):=letI q0:=a1.getD k_0 default;letI q1:=a1.getD (Int.toNat (i64.wrap ((k_0:Int) - 1))) default;(bif(aw ((aG (q0.no) 0 1048576)&&(aG (q0.hour) 0 a0.hours)) 530)then(bif(aw (((k_0:Int) ==0) ||((decide (q0.no > q1.no))&&(decide (q0.hour>=q1.hour)))) 530)then(bif(q0.of_==0)then(bif(je a0 q0)then .inr (lF .int .bool s_0 (i64.wrap (q0.no+1)) true)else .inl ())else(bif(aw ((dS .int .bool s_0 (q0.of_))&&((q0.no==q0.no)&&((q0.hour==q0.hour)&&((q0.kind==0)&&((q0.farm==0)&&((q0.other==0)&&((q0.since==0)&&((q0.to==0)&&((q0.n==0)&&(q0.of_==q0.of_)))))))))) 530)then .inr (yU .int .bool s_0 (q0.of_))else .inl ()))else .inl ())else .inl ())
def mW (a0:District)(a1:List Judgement)(k_0:Nat)(s_0:List (Int×Bool)):Prop:=letI q1:=a1.getD k_0 default;letI q3:=(k_0:Int);letI q0:=i64.wrap (q3 - 1);letI q2:=0<=q0/\q0< (a1.length:Int);((aw ((aG (q1.no) 0 1048576)&&(aG (q1.hour) 0 a0.hours)) 530)=true->(((q3==0)=false->q2)/\((q3==0)=false->((decide (q1.no > (a1.getD (Int.toNat q0) default).no))=true->q2))))
def bw (a0:District)(a1:List Judgement):Int:=(bif((bW a0) !=0)then(bW a0)else(bif(aw (decide ((a1.length:Int)<=64)) 2)then(match an (ev a0 a1) a1.length 0 ([])with| .inl x_0_0=>530| .inr s_0=>0)else 2))
def iC (a0:District)(a1:List Judgement):Prop:=(((bW a0) !=0)=false->(a1.length<=aD->((aw (decide ((a1.length:Int)<=64)) 2)=true->(a1.length<=aD->okI (ev a0 a1) (mW a0 a1) a1.length 0 ([])))))
@[go_sem] def mt:List SV->Option Con:=(pD .district fun a0=>(pR .judgement fun a1=>(pE (.det (iC a0 a1) (.v (.int .i64 (bw a0 a1)))))))
theorem zq52 {p:Prop}(h:p:=by simp only[go_sem,Nat.reduceBEq,Nat.reduceLeDiff,Nat.reduceLT,decide_true,Nat.reduceAdd,Nat.reduceSub,Nat.reduceMul,Int.reduceLE,Int.reduceLT,Int.reduceToNat,Int.reduceNeg,reduceCtorEq,qs,oQ,RCJ];all_goals exact cl):p:=h
theorem oW:FnOk Tryz.prog 16 mt:=by
 have hG:ConsOk Tryz.prog (mkG [(52,gP),(57,fun l=>sQ (bp [.st .district] l)),(58,kz),(59,fun l=>tW (bp [.st .district,.st .judgement] l))] []):=ar (cgc iF (cgc (wa.norm [.st .district]) (cgc mo (cgc (yJ.norm [.st .district,.st .judgement]) cg0)))) cg0;refine K2 F0 [.o] mixed ak hG (fn:=Tryz.f16) (c0:=qs (ae Tryz.f16)) (c1:=oQ (oQ (ae Tryz.f16))) (i1:=QZ (qs (oQ (ae Tryz.f16)))) (o1:=Of 0 (qs (oQ (ae Tryz.f16)))) (q:=4) (tys:= #[104]) kr kr kr (by refine⟨?_,?_,?_⟩ <;>kernel_rfl) kr kr (bk fun a0=>(bC fun a1=>(ai (fun hp=>?_))));dsimp only[ax]at hp;unfold iC at hp;refine⟨nbl rfl,L0,(fun id st=>bif Nat.beq id 0 then some (LCR (ρ:=Unit) (σ:=(List (Int×Bool))) 3 [] [0,1,2] (fun k_0 s_0=>⟨[(1,.rs .judgement a1),(2,.ptr 0 0),(4,.ptr 1 0),(5,.os 2),(18,.rs .judgement a1),(19,.v (.int .i64 (a1.length:Int))),(20,.v (.int .i64 (k_0:Int)))],[.cells (cellsOf .district a0),.cells [.v (.int .i64 (bW a0))],.mp .int .bool s_0 none]⟩) (ev a0 a1) (mW a0 a1) a1.length ([]) (a1.length<=aD) (fun _=>.pan (.iface 36 (.int .i64 530))) (fun x_0_0=>⟨[(4,.ptr 1 0)],[.dead,.cells [.v (.int .i64 (bW a0))],.dead]⟩) st)else none),1,?_,?_,?_⟩
 ·unfold ae Tryz.f16;simp only[qs,am,and_self,true_and,and_true]
 ·unfold ae Tryz.f16;simp only[oQ];simp only[am,true_and,and_true]
  ·refine a_ mixed ak hG kr (fun _=>rfl) (a1.length:Int) rfl gA (fun hb0 k_0 s_0 hlt0 hq0 hw hc=>⟨L0,ag _,?_⟩) (fun hb0 s_0 hc=>?_)
   ·unfold mW at hq0;try simp only[hw,Int.toNat_natCast]at hq0
    exact bi (jl [0,1,2])
   ·exact ba (jl [0,1,2])
 ·unfold ae Tryz.f16;try unfold bw
  exact zq52
@[go_sem] def ln (a1:List Judgement)(a2:Int)(k_0:Nat)(s_0:List Int):Empty⊕(List Int):=letI q0:=a1.getD k_0 default;letI q2:=Int.toNat (q0.other);letI q3:=Int.toNat (q0.farm);letI q1:=s_0.set q3 (i64.wrap ((s_0.getD q3 0)+q0.n));(bif(((q0.kind==4)&&(decide (q0.hour<=a2)))&&(!(gZ a1 q0 a2)))then .inr (q1.set q2 (i64.wrap ((q1.getD q2 0) - q0.n)))else .inr s_0)
def mX (a1:List Judgement)(a2:Int)(k_0:Nat)(s_0:List Int):Prop:=letI q0:=a1.getD k_0 default;letI q2:=0<=q0.farm/\q0.farm< (s_0.length:Int);letI q3:=Int.toNat (q0.farm);letI q1:=0<=q0.other/\q0.other< ((s_0.set q3 (i64.wrap ((s_0.getD q3 0)+q0.n))).length:Int);((((q0.kind==4)&&(decide (q0.hour<=a2)))&&(!(gZ a1 q0 a2)))=true->(q2/\(q2/\(q1/\q1))))
def fY (a0:District)(a1:List Judgement)(a2:Int):List Int×Int:=letI q0:=bw a0 a1;(bif(q0 !=0)then([],q0)else(bif(!(aG a2 0 a0.hours))then([],1)else(match an (ln a1 a2) a1.length 0 (List.replicate (Int.toNat (a0.farms.length:Int)) (0:Int))with| .inl x=>x.elim| .inr s_0=>(s_0,0))))
def jG (a0:District)(a1:List Judgement)(a2:Int):Prop:=letI q0:=(a0.farms.length:Int);((iC a0 a1)/\(((bw a0 a1) !=0)=false->((!(aG a2 0 a0.hours))=false->(a0.farms.length<=aD->((q0=q0/\0<=q0/\q0*((8:Nat):Int)<=((c6:Nat):Int))/\(q0<=((aD:Nat):Int)->(a1.length<=aD->okI (ln a1 a2) (mX a1 a2) a1.length 0 (List.replicate (Int.toNat q0) (0:Int)))))))))
@[go_sem] def tX:List SV->Option Con:=(pD .district fun a0=>(pR .judgement fun a1=>(pI fun a2=>(pE (.det (jG a0 a1 a2) (.tup [.nw .int ((fY a0 a1 a2).1),.v (.int .i64 ((fY a0 a1 a2).2))]))))))
theorem yK:FnOk Tryz.prog 14 tX:=by
 have hG:ConsOk Tryz.prog (mkG [(16,fun l=>mt (bp [.st .district,.sl .judgement] l)),(52,gP),(53,fun l=>mr (bp [.sl .judgement,.st .judgement,.o] l))] []):=ar (cgc (oW.norm [.st .district,.sl .judgement]) (cgc iF (cgc (sX.norm [.sl .judgement,.st .judgement,.o]) cg0))) cg0;refine F5 [(.tmp 6,.int)] mixed ak hG (fn:=Tryz.f14) (c:=ae Tryz.f14) kr kr kr kr (bk fun a0=>(bC fun a1=>(cI fun a2=>(ai (fun hp=>?_)))));dsimp only[ax]at hp;unfold jG at hp;refine⟨nbl rfl,(fun id st=>bif Nat.beq id 0 then some (LCR (ρ:=Empty) (σ:=(List Int)) 2 [] [0,1] (fun k_0 s_0=>⟨[(1,.rs .judgement a1),(2,.v (.int .i64 a2)),(6,.os 1),(25,.rs .judgement a1),(26,.v (.int .i64 (a1.length:Int))),(27,.v (.int .i64 (k_0:Int)))],[.dead,.row .int s_0]⟩) (ln a1 a2) (mX a1 a2) a1.length (List.replicate (Int.toNat (a0.farms.length:Int)) (0:Int)) (a1.length<=aD) ((·.elim)) ((·.elim)) st)else none),?_,?_⟩
 ·unfold ae Tryz.f14;simp only[am,true_and,and_true]
  ·refine a_ mixed ak hG kr (fun _=>rfl) (a1.length:Int) rfl gA (fun hb0 k_0 s_0 hlt0 hq0 hw hc=>⟨L0,ag _,?_⟩) (fun hb0 s_0 hc=>?_)
   ·unfold mX at hq0;try simp only[hw,Int.toNat_natCast]at hq0
    exact bi (jl [0,1])
   ·exact ba (jl [0,1])
 ·unfold ae Tryz.f14;try unfold fY
  exact zq1
end Go.Sx
end
