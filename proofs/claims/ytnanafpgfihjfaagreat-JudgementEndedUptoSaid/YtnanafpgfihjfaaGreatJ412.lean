/- Part of the proof that the law JudgementEnded returns true and leaves its arguments as they were, for all arguments of bulk at most 1048576 (the Upto form). -/
import Derived.Test.YtnanafpgfihjfaaGreatJ411
import Derived.Test.YtnanafpgfihjfaaGreatJ408
import Derived.Test.YtnanafpgfihjfaaGreatJ409
import Derived.Test.YtnanafpgfihjfaaGreatJ410
set_option linter.all false
set_option maxHeartbeats 4000000
set_option maxRecDepth 100000
section
namespace Go.Sx
open Go.Proofs
open IntKind (i64)
@[go_sem] def dS (a0:Cases)(k_0:Nat)(s_0:Int×Int):(Int×Int)⊕(Int×Int):=letI q0:=a0.sides.getD k_0 0;letI q1:=OW .u64 1 (k_0:Int);(bif(!(cV q0 1))then .inl (s_0.1,s_0.2)else(bif(decide (q0=0))then .inr ((orI .u64 s_0.1 q1),s_0.2)else(bif(decide (q0=1))then .inr (s_0.1,(orI .u64 s_0.2 q1))else .inr default)))
def gT (a0:Cases)(k_0:Nat)(s_0:Int×Int):Prop:=letI q0:=a0.sides.getD k_0 0;((!(cV q0 1))=false→(((decide (q0=0))=true→0≤(k_0:Int))∧((decide (q0=0))=false→(((decide (q0=1))=true→0≤(k_0:Int))∧((decide (q0=1))=false→False)))))
@[go_sem] def ov (a0:Cases)(s_0:Int×Int)(k_1:Nat)(s_1:List PrecedentsDecided×Int×Int×Int):(List PrecedentsDecided)⊕(List PrecedentsDecided×Int×Int×Int):=letI q0:=a0.cases.getD k_1 default;letI q4:=(a0.sides.length:Int);letI q1:=iw (q0.reason) q4;letI q2:=iw (q0.facts) q4;letI q3:=((s_1.1++([({ winner:=q0.winner,facts:=q2.1,reason:=q1.1}:PrecedentsDecided)])),q0.no,q0.hour,q0.winner);(bif(((((decide (q0.no≤s_1.2.1)) ||(!(cV (q0.no) 1048576))) ||(decide (q0.hour<s_1.2.2.1))) ||(!(cV (q0.hour) 4096))) ||(!(cV (q0.winner) 1)))then .inl s_1.1 else(bif(decide (q0.winner=0))then(bif(((!q2.2) ||(!q1.2)) ||(!(ff (q1.1) (FB .u64 (q2.1) s_0.1))))then .inl s_1.1 else .inr q3)else(bif(decide (q0.winner=1))then(bif(((!q2.2) ||(!q1.2)) ||(!(ff (q1.1) (FB .u64 (q2.1) s_0.2))))then .inl s_1.1 else .inr q3)else .inr default)))
def gU (a0:Cases)(s_0:Int×Int)(k_1:Nat)(s_1:List PrecedentsDecided×Int×Int×Int):Prop:=letI q0:=a0.cases.getD k_1 default;letI q1:=(a0.sides.length:Int);letI q3:=iw (q0.reason) q1;letI q4:=iw (q0.facts) q1;letI q2:=(s_1.1++([({ winner:=q0.winner,facts:=q4.1,reason:=q3.1}:PrecedentsDecided)])).length*24≤cW;letI q5:=decide (q0.winner=0);letI q6:=decide (q0.winner=1);((((((decide (q0.no≤s_1.2.1)) ||(!(cV (q0.no) 1048576))) ||(decide (q0.hour<s_1.2.2.1))) ||(!(cV (q0.hour) 4096))) ||(!(cV (q0.winner) 1)))=false→(a0.sides.length≤aH→((hM (q0.facts) q1)∧(a0.sides.length≤aH→((hM (q0.reason) q1)∧((q5=true→((((!q4.2) ||(!q3.2)) ||(!(ff (q3.1) (FB .u64 (q4.1) s_0.1))))=false→q2))∧(q5=false→((q6=true→((((!q4.2) ||(!q3.2)) ||(!(ff (q3.1) (FB .u64 (q4.1) s_0.2))))=false→q2))∧(q6=false→False)))))))))
def iU (a0:Cases):PrecedentsCourt×Int:=(bif((decide ((a0.sides.length:Int) > 32)) ||(decide ((a0.cases.length:Int) > 64)))then(({ favour:=(0,0),cases:=[]}:PrecedentsCourt),2)else(match aq (dS a0) a0.sides.length 0 (0,0)with| .inl x_0_0=>(({ favour:=(x_0_0.1,x_0_0.2),cases:=[]}:PrecedentsCourt),520) | .inr s_0=>(match aq (ov a0 s_0) a0.cases.length 0 ([],(-1),0,0)with| .inl x_1_0=>(({ favour:=(s_0.1,s_0.2),cases:=x_1_0}:PrecedentsCourt),520) | .inr s_1=>(({ favour:=(s_0.1,s_0.2),cases:=s_1.1}:PrecedentsCourt),0))))
def g8 (a0:Cases):Prop:=letI q0:=dS a0;(a0.sides.length≤aH→(((decide ((a0.sides.length:Int) > 32)) ||(decide ((a0.cases.length:Int) > 64)))=false→(a0.sides.length≤aH→(okI q0 (gT a0) a0.sides.length 0 (0,0)∧(∀ s_0,aq q0 a0.sides.length 0 (0,0)=.inr s_0→(a0.cases.length≤aH→okI (ov a0 s_0) (gU a0 s_0) a0.cases.length 0 ([],(-1),0,0)))))))
@[go_sem] def pi:List SV→Option Con:=(pD .cases fun a0=>(pE (.det (g8 a0) (.tup [.agg (cellsOf .precedentsCourt ((iU a0).1)),.v (.int .i64 ((iU a0).2))]))))
theorem zq70 {l0:List Nat}(a0:JL l0){p:Prop}(h:JL l0→p:=by intro ja;simp only[go_sem,Nat.reduceBEq,Nat.reduceLeDiff,Nat.reduceLT,decide_true,Nat.reduceAdd,Nat.reduceSub,Nat.reduceMul,Int.reduceLE,Int.reduceLT,Int.reduceToNat,Int.reduceNeg,reduceCtorEq,hc,hw,hs0,Int.reduceEq,Int.reduceBEq,decide_false];all_goals exact kW ja):p:=h a0
theorem zq71 {l0:List Nat}(a0:JL l0){p:Prop}(h:JL l0→p:=by intro ja;simp only[go_sem,Nat.reduceBEq,Nat.reduceLeDiff,Nat.reduceLT,decide_true,Nat.reduceAdd,Nat.reduceSub,Nat.reduceMul,Int.reduceLE,Int.reduceLT,Int.reduceToNat,Int.reduceNeg,reduceCtorEq,hc,hw,hs1,Int.reduceEq,Int.reduceBEq,decide_false];all_goals exact kW ja):p:=h a0
theorem zq72 {l0 l1:List Nat}(a0:JL l0)(a1:JL l1){p:Prop}(h:JL l0→JL l1→p:=by intro ja jb;simp only[go_sem,Nat.reduceBEq,Nat.reduceLeDiff,Nat.reduceLT,decide_true,Nat.reduceAdd,Nat.reduceSub,Nat.reduceMul,Int.reduceLE,Int.reduceLT,Int.reduceToNat,Int.reduceNeg,reduceCtorEq,hc,hw,hs0,Int.reduceEq,Int.reduceBEq,decide_false];all_goals exact su ja jb):p:=h a0 a1
theorem zq73 {l0 l1:List Nat}(a0:JL l0)(a1:JL l1){p:Prop}(h:JL l0→JL l1→p:=by intro ja jb;simp only[go_sem,Nat.reduceBEq,Nat.reduceLeDiff,Nat.reduceLT,decide_true,Nat.reduceAdd,Nat.reduceSub,Nat.reduceMul,Int.reduceLE,Int.reduceLT,Int.reduceToNat,Int.reduceNeg,reduceCtorEq,hc,hw,hs1,Int.reduceEq,Int.reduceBEq,decide_false];all_goals exact su ja jb):p:=h a0 a1
theorem sH:FnOk Tryz.prog 75 pi:=by
 have hG:ConsOk Tryz.prog (mkG [(81,nE),(129,nD),(130,fun l=>rD (bo [.sl .int,.o] l))] []):=ap (cgc qV (cgc qU (cgc (uC.norm [.sl .int,.o]) cg0))) cg0;refine aw [.st .precedentsCourt,.o] mixed al hG (fn:=Tryz.f75) (c:=ae Tryz.f75) kr kr kr kr (bt fun a0=>(ai (fun hp=>?_)));dsimp only[ar]at hp;unfold g8 at hp;refine⟨nbl rfl,(fun id st=>bif Nat.beq id 0 then some (LCR (ρ:=(Int×Int)) (σ:=(Int×Int)) 2 [] [0,1] (fun k_0 s_0=>⟨[(1,.ptr 0 0),(2,.ptr 1 0),(25,.rs .int a0.sides),(26,.v (.int .i64 (a0.sides.length:Int))),(27,.v (.int .i64 (k_0:Int)))],[.cells (cellsOf .cases a0),.cells [.v (.int .u64 s_0.1),.v (.int .u64 s_0.2),.v (.slice none 0 0)]]⟩) (dS a0) (gT a0) a0.sides.length (0,0) (a0.sides.length≤aH) (fun _=>.ret) (fun x_0_0=>⟨[(2,.ptr 1 0),(3,.v (.int .i64 520))],[.dead,.cells [.v (.int .u64 x_0_0.1),.v (.int .u64 x_0_0.2),.v (.slice none 0 0)]]⟩) st)else bif Nat.beq id 2 then some (LCR (ρ:=(List PrecedentsDecided)) (σ:=(List PrecedentsDecided×Int×Int×Int)) 3 [.cell 1 2 (.row .precedentsDecided ([]))] [0,1,2,3] (fun k_1 s_1=>⟨[(1,.ptr 0 0),(2,.ptr 1 0),(6,.ptr 2 0),(48,.rs .case a0.cases),(49,.v (.int .i64 (a0.cases.length:Int))),(50,.v (.int .i64 (k_1:Int)))],[.cells (cellsOf .cases a0),.cells [.v (.int .u64 (et (aq (dS a0) a0.sides.length 0 (0,0))).1),.v (.int .u64 (et (aq (dS a0) a0.sides.length 0 (0,0))).2),.os 3],.cells [.v (.int .i64 s_1.2.1),.v (.int .i64 s_1.2.2.1),.v (.int .i64 s_1.2.2.2),.any,.any],.row .precedentsDecided s_1.1]⟩) (ov a0 (et (aq (dS a0) a0.sides.length 0 (0,0)))) (gU a0 (et (aq (dS a0) a0.sides.length 0 (0,0)))) a0.cases.length ([],(-1),0,0) (a0.cases.length≤aH) (fun _=>.ret) (fun x_1_0=>⟨[(2,.ptr 1 0),(3,.v (.int .i64 520))],[.dead,.cells [.v (.int .u64 (et (aq (dS a0) a0.sides.length 0 (0,0))).1),.v (.int .u64 (et (aq (dS a0) a0.sides.length 0 (0,0))).2),.os 3],.dead,.row .precedentsDecided x_1_0]⟩) st)else none),?_,?_⟩
 ·unfold ae Tryz.f75;simp only[am,true_and,and_true];refine⟨?_,?_⟩
  ·refine aY mixed al hG kr (fun _=>rfl) (a0.sides.length:Int) rfl ig (fun hb0 k_0 s_0 hlt0 hq0 hw hc=>⟨L0,ag _,?_⟩) (fun hb0 s_0 hc=>?_)
   ·unfold gT at hq0;try simp only[hw,Int.toNat_natCast]at hq0
    by_cases hs0:(a0.sides.getD k_0 (0:Int))=0
    ·try simp only[hs0,decide_true,decide_false,Int.reduceEq,Bool.false_eq_true,Bool.true_eq_false,forall_const,true_imp_iff,false_imp_iff,and_true,true_and,reduceCtorEq]at hq0
     exact zq70 (jl [0,1])
    ·have hn0:=decide_eq_false hs0;by_cases hs1:(a0.sides.getD k_0 (0:Int))=1
     ·try simp only[hs1,decide_true,decide_false,Int.reduceEq,Bool.false_eq_true,Bool.true_eq_false,forall_const,true_imp_iff,false_imp_iff,and_true,true_and,reduceCtorEq]at hq0
      exact zq71 (jl [0,1])
     ·have hn1:=decide_eq_false hs1;simp only[go_sem,Nat.reduceBEq,Nat.reduceLeDiff,Nat.reduceLT,decide_true,Nat.reduceAdd,Nat.reduceSub,Nat.reduceMul,Int.reduceLE,Int.reduceLT,Int.reduceToNat,Int.reduceNeg,reduceCtorEq,hc,hw,hn0,hn1];all_goals (repeat' (first|with_reducible refine And.intro ?_ ?_|with_reducible intro _))
      all_goals first|exact kW (jl [0,1]) |(exfalso;simp_all;done)
   ·exact bP (jl [0,1])
  ·refine aY mixed al hG kr (fun _=>rfl) (a0.cases.length:Int) rfl ig (fun hb1 k_1 s_1 hlt1 hq1 hw hc=>⟨L0,ag _,?_⟩) (fun hb1 s_1 hc=>?_)
   ·unfold gU at hq1;try simp only[hw,Int.toNat_natCast]at hq1
    by_cases hs0:(a0.cases.getD k_1 (default:Case)).winner=0
    ·try simp only[hs0,decide_true,decide_false,Int.reduceEq,Bool.false_eq_true,Bool.true_eq_false,forall_const,true_imp_iff,false_imp_iff,and_true,true_and,reduceCtorEq]at hq1
     exact zq72 (jl [0,1,2,6]) (jl [0,1,2,3])
    ·have hn0:=decide_eq_false hs0;by_cases hs1:(a0.cases.getD k_1 (default:Case)).winner=1
     ·try simp only[hs1,decide_true,decide_false,Int.reduceEq,Bool.false_eq_true,Bool.true_eq_false,forall_const,true_imp_iff,false_imp_iff,and_true,true_and,reduceCtorEq]at hq1
      exact zq73 (jl [0,1,2,6]) (jl [0,1,2,3])
     ·have hn1:=decide_eq_false hs1;simp only[go_sem,Nat.reduceBEq,Nat.reduceLeDiff,Nat.reduceLT,decide_true,Nat.reduceAdd,Nat.reduceSub,Nat.reduceMul,Int.reduceLE,Int.reduceLT,Int.reduceToNat,Int.reduceNeg,reduceCtorEq,hc,hw,hn0,hn1];all_goals (repeat' (first|with_reducible refine And.intro ?_ ?_|with_reducible intro _))
      all_goals first|exact su (jl [0,1,2,6]) (jl [0,1,2,3]) |(exfalso;simp_all;done)
   ·exact jL (jl [0,1,2,6]) (jl [0,1,2,3])
 ·unfold ae Tryz.f75;try unfold iU
  exact zq1
def gk (b:Cases)(l_:List Int)(side:Int):PrecedentsCourt×Int×Int:=letI q0:=iU b;letI q1:=iw l_ (b.sides.length:Int);(bif(q0.2 !=0)then((q0.1),0,q0.2)else(bif(!q1.2)then((q0.1),0,520)else(bif(!(cV side 1))then((q0.1),0,1)else((q0.1),q1.1,0))))
def jR (b:Cases)(l_:List Int)(side:Int):Prop:=((g8 b)∧(((iU b).2 !=0)=false→(b.sides.length≤aH→(hM l_ (b.sides.length:Int)))))
@[go_sem] def uD:List SV→Option Con:=(pD .cases fun b=>(pR .int fun l_=>(pI fun side=>(pE (.det (jR b l_ side) (.tup [.agg (cellsOf .precedentsCourt ((gk b l_ side).1)),.v (.int .u64 ((gk b l_ side).2.1)),.v (.int .i64 ((gk b l_ side).2.2))]))))))
theorem y6:FnOk Tryz.prog 79 uD:=by
 have hG:ConsOk Tryz.prog (mkG [(75,fun l=>pi (bo [.st .cases] l)),(129,nD),(130,fun l=>rD (bo [.sl .int,.o] l))] []):=ap (cgc (sH.norm [.st .cases]) (cgc qU (cgc (uC.norm [.sl .int,.o]) cg0))) cg0;refine aw [.st .precedentsCourt,.o,.o] mixed al hG (fn:=Tryz.f79) (c:=ae Tryz.f79) kr kr kr kr (bt fun b=>(bJ fun l_=>(dh fun side=>(ai (fun hp=>?_)))));dsimp only[ar]at hp;unfold jR at hp;refine⟨nbl rfl,L0,ag _,?_⟩
 ·unfold ae Tryz.f79;try unfold gk
  exact zq1
def jq (c:PrecedentsCourt)(x:PrecedentsDecided)(facts:Int):Int:=(bif(decide ((i64.wrap (1 - x.winner))=0))then(yi .u64 (FB .u64 facts c.favour.1) x.facts)else(bif(decide ((i64.wrap (1 - x.winner))=1))then(yi .u64 (FB .u64 facts c.favour.2) x.facts)else default))
def eH (c:PrecedentsCourt)(x:PrecedentsDecided)(facts:Int):Prop:=((decide ((i64.wrap (1 - x.winner))=0))=false→((decide ((i64.wrap (1 - x.winner))=1))=false→False))
@[go_sem] def mw:List SV→Option Con:=(pD .precedentsCourt fun c=>(pD .precedentsDecided fun x=>(pU fun facts=>(pE (.det (eH c x facts) (.v (.int .u64 (jq c x facts))))))))
theorem zq76 {p:Prop}(h:p:=by simp only[go_sem,Nat.reduceBEq,Nat.reduceLeDiff,Nat.reduceLT,decide_true,Nat.reduceAdd,Nat.reduceSub,Nat.reduceMul,Int.reduceLE,Int.reduceLT,Int.reduceToNat,Int.reduceNeg,reduceCtorEq,hs0,Int.reduceEq,Int.reduceBEq,decide_false];all_goals exact cl):p:=h
theorem zq77 {p:Prop}(h:p:=by simp only[go_sem,Nat.reduceBEq,Nat.reduceLeDiff,Nat.reduceLT,decide_true,Nat.reduceAdd,Nat.reduceSub,Nat.reduceMul,Int.reduceLE,Int.reduceLT,Int.reduceToNat,Int.reduceNeg,reduceCtorEq,hs1,Int.reduceEq,Int.reduceBEq,decide_false];all_goals exact cl):p:=h
theorem r5:FnOk Tryz.prog 82 mw:=by
 have hG:ConsOk Tryz.prog (mkG [] []):=ap cg0 cg0;refine aw [.o] mixed al hG (fn:=Tryz.f82) (c:=ae Tryz.f82) kr kr kr kr (bt fun c=>(bt fun x=>(Iw fun facts=>(ai (fun hp=>?_)))));dsimp only[ar]at hp;unfold eH at hp;refine⟨nbl rfl,L0,ag _,?_⟩
 ·unfold ae Tryz.f82;try unfold jq
  by_cases hs0:(i64.wrap (1 - x.winner))=0
  ·try simp only[hs0,decide_true,decide_false,Int.reduceEq,Bool.false_eq_true,Bool.true_eq_false,forall_const,true_imp_iff,false_imp_iff,and_true,true_and,reduceCtorEq]at hp
   exact zq76
  ·have hn0:=decide_eq_false hs0;by_cases hs1:(i64.wrap (1 - x.winner))=1
   ·try simp only[hs1,decide_true,decide_false,Int.reduceEq,Bool.false_eq_true,Bool.true_eq_false,forall_const,true_imp_iff,false_imp_iff,and_true,true_and,reduceCtorEq]at hp
    exact zq77
   ·have hn1:=decide_eq_false hs1;simp only[go_sem,Nat.reduceBEq,Nat.reduceLeDiff,Nat.reduceLT,decide_true,Nat.reduceAdd,Nat.reduceSub,Nat.reduceMul,Int.reduceLE,Int.reduceLT,Int.reduceToNat,Int.reduceNeg,reduceCtorEq,hn0,hn1];all_goals (repeat' (first|with_reducible refine And.intro ?_ ?_|with_reducible intro _))
    all_goals first|exact cl|(exfalso;simp_all;done)
def fF (b:Cases):Int:=(iU b).2
def fE (b:Cases):Prop:=(g8 b)
@[go_sem] def kG:List SV→Option Con:=(pD .cases fun b=>(pE (.det (fE b) (.v (.int .i64 (fF b))))))
theorem nF:FnOk Tryz.prog 64 kG:=by
 have hG:ConsOk Tryz.prog (mkG [(75,fun l=>pi (bo [.st .cases] l))] []):=ap (cgc (sH.norm [.st .cases]) cg0) cg0;refine aw [.o] mixed al hG (fn:=Tryz.f64) (c:=ae Tryz.f64) kr kr kr kr (bt fun b=>(ai (fun hp=>?_)));dsimp only[ar]at hp;unfold fE at hp;refine⟨nbl rfl,L0,ag _,?_⟩
 ·unfold ae Tryz.f64;try unfold fF
  exact zq1
def ow (x:PrecedentsDecided)(side_:Int)(facts_:Int)(c_:PrecedentsCourt):Bool:=(((x.winner==side_)&&(ff x.reason facts_))&&((jq c_ x facts_) ==0))
def gV (x:PrecedentsDecided)(side_:Int)(facts_:Int)(c_:PrecedentsCourt):Prop:=(((x.winner==side_)&&(ff x.reason facts_))=true→(eH c_ x facts_))
@[go_sem] def qW:List SV→Option Con:=(pD .precedentsDecided fun x=>(pX .int fun side_=>(pXU fun facts_=>(pX .precedentsCourt fun c_=>(pE (.det (gV x side_ facts_ c_) (.v (.bool (ow x side_ facts_ c_)))))))))
theorem vJ:FnOk Tryz.prog 80 qW:=by
 have hG:ConsOk Tryz.prog (mkG [(81,nE),(82,fun l=>mw (bo [.st .precedentsCourt,.st .precedentsDecided,.o] l))] []):=ap (cgc qV (cgc (r5.norm [.st .precedentsCourt,.st .precedentsDecided,.o]) cg0)) cg0;refine aw [.o] mixed al hG (fn:=Tryz.f80) (c:=ae Tryz.f80) kr kr kr kr (bt fun x=>(aQ fun side_=>(Ke fun facts_=>(aQ fun c_=>(ai (fun hp=>?_))))));dsimp only[ar]at hp;unfold gV at hp;refine⟨nbl rfl,L0,ag _,?_⟩
 ·unfold ae Tryz.f80;try unfold ow
  exact zq1
theorem clW {p:Prop}(h:p:=by((repeat' (first|with_reducible refine And.intro ?_ ?_|with_reducible intro _)) <;>first|exact cl|(rename_i x hx;rcases x with x|x <;>simp only[go_sem,Nat.reduceBEq,Nat.reduceLeDiff,Nat.reduceLT,decide_true,Nat.reduceAdd,Nat.reduceSub,Nat.reduceMul,Int.reduceLE,Int.reduceLT,Int.reduceToNat,Int.reduceNeg,reduceCtorEq] <;>(simp only[*];done)))):p:=h
@[go_sem] def d7 (l_:List PrecedentsDecided)(side_:Int)(facts_:Int)(c_:PrecedentsCourt)(k_0:Nat)(s_0:Int):(Int⊕Unit)⊕Int:=(bif(decide (s_0< (l_.length:Int)))then(bif(ow (l_.getD (Int.toNat s_0) default) side_ facts_ c_)then .inl (.inl s_0)else .inr (i64.wrap (s_0+1)))else .inl (.inr ()))
def bj (l_:List PrecedentsDecided)(side_:Int)(facts_:Int)(c_:PrecedentsCourt)(k_0:Nat)(s_0:Int):Prop:=(l_.length≤aH→((decide (s_0< (l_.length:Int)))=true→((0≤s_0∧s_0< (l_.length:Int))∧(gV (l_.getD (Int.toNat s_0) default) side_ facts_ c_))))
def df (l_:List PrecedentsDecided)(fr:Int)(side_:Int)(facts_:Int)(c_:PrecedentsCourt):Int×Bool:=(match aq (d7 l_ side_ facts_ c_) (l_.length+1) 0 fr with| .inl (.inl x_0_0) =>(x_0_0,true) | .inl (.inr x_0_1) =>(0,false) | .inr s_0=>default)
def bG (l_:List PrecedentsDecided)(fr:Int)(side_:Int)(facts_:Int)(c_:PrecedentsCourt):Prop:=letI q0:=d7 l_ side_ facts_ c_;(okI q0 (bj l_ side_ facts_ c_) (l_.length+1) 0 fr∧(∀ z_,aq q0 (l_.length+1) 0 fr≠ .inr z_))
@[go_sem] def gO:List SV→Option Con:=(pR .precedentsDecided fun l_=>(pI fun fr=>(pFn 80 (pX .int fun side_=>(pXU fun facts_=>(pX .precedentsCourt fun c_=>(pE ((pE (.det (bG l_ fr side_ facts_ c_) (.tup [.v (.int .i64 ((df l_ fr side_ facts_ c_).1)),.v (.bool ((df l_ fr side_ facts_ c_).2))])))))))))))
theorem zq80 {p:Prop}(h:p:=by simp only[go_sem,Nat.reduceBEq,Nat.reduceLeDiff,Nat.reduceLT,decide_true,Nat.reduceAdd,Nat.reduceSub,Nat.reduceMul,Int.reduceLE,Int.reduceLT,Int.reduceToNat,Int.reduceNeg,reduceCtorEq];all_goals exact clW):p:=h
theorem lw:FnOk Tryz.prog 77 gO:=by
 have hG:ConsOk Tryz.prog (mkG [(80,qW)] []):=ap (cgc vJ cg0) cg0;refine aw [.o,.o] mixed al hG (fn:=Tryz.f77) (c:=ae Tryz.f77) kr kr kr kr (bJ fun l_=>(dh fun fr=>(bu (aQ fun side_=>(Ke fun facts_=>(aQ fun c_=>(ai ((ai (fun hp=>?_))))))))));dsimp only[ar]at hp;unfold bG at hp;refine⟨nbl rfl,(fun id st=>bif Nat.beq id 0 then some (LCV (ρ:=(Int⊕Unit)) (σ:=Int) 0 [] [] (fun k_0 s_0=>⟨[(0,.rs .precedentsDecided l_),(2,.fn 80 [] [.ep [.v (.int .i64 side_)] 0,.ep [.v (.int .u64 facts_)] 0,.ep (cellsOf .precedentsCourt c_) 0]),(8,.v (.int .i64 s_0))],[]⟩) (d7 l_ side_ facts_ c_) (bj l_ side_ facts_ c_) (l_.length+1) fr (fun x=>match x with|(.inl _) =>.ret|(.inr _) =>.normal) (fun x=>match x with|(.inl x_0_0) =>⟨[(6,.v (.int .i64 x_0_0)),(7,.v (.bool true))],[]⟩ |(.inr x_0_1) =>⟨[],[]⟩) st)else none),?_,?_⟩
 ·unfold ae Tryz.f77;simp only[am,true_and,and_true]
  ·refine uu mixed al hG kr (fun _=>rfl) fun k_0 s_0 hq0=>⟨L0,ag _,?_⟩
   ·unfold bj at hq0;exact sE (jl [])
 ·unfold ae Tryz.f77;try unfold df
  exact zq80
@[go_sem] noncomputable def eI:List SV→Option Con:=fun l=>(gO l)
theorem l7:FnOk Tryz.prog 77 eI:=lw
def aP (b:Cases)(l_:List Int)(side:Int):Int×Bool×Int:=letI q0:=gk b l_ side;letI q1:=df ((q0.1).cases) 0 side (q0.2.1) (q0.1);(bif(q0.2.2 !=0)then(0,false,q0.2.2)else(q1.1,q1.2,0))
def eJ (b:Cases)(l_:List Int)(side:Int):Prop:=((jR b l_ side)∧(((gk b l_ side).2.2 !=0)=false→(bG (((gk b l_ side).1).cases) 0 side ((gk b l_ side).2.1) ((gk b l_ side).1))))
@[go_sem] def ox:List SV→Option Con:=(pD .cases fun b=>(pR .int fun l_=>(pI fun side=>(pE (.det (eJ b l_ side) (.tup [.v (.int .i64 ((aP b l_ side).1)),.v (.bool ((aP b l_ side).2.1)),.v (.int .i64 ((aP b l_ side).2.2))]))))))
theorem zq81 {p:Prop}(h:p:=by simp only[go_sem,Nat.reduceBEq,Nat.reduceLeDiff,Nat.reduceLT,decide_true,Nat.reduceAdd,Nat.reduceSub,Nat.reduceMul,Int.reduceLE,Int.reduceLT,Int.reduceToNat,Int.reduceNeg,reduceCtorEq,eI];all_goals exact cl):p:=h
theorem rS:FnOk Tryz.prog 34 ox:=by
 have hG:ConsOk Tryz.prog (mkG [(77,fun l=>eI (bo [.sl .precedentsDecided,.o,.o] l)),(79,fun l=>uD (bo [.st .cases,.sl .int,.o] l))] []):=ap (cgc (l7.norm [.sl .precedentsDecided,.o,.o]) (cgc (y6.norm [.st .cases,.sl .int,.o]) cg0)) cg0;refine aw [.o,.o,.o] mixed al hG (fn:=Tryz.f34) (c:=ae Tryz.f34) kr kr kr kr (bt fun b=>(bJ fun l_=>(dh fun side=>(ai (fun hp=>?_)))));dsimp only[ar]at hp;unfold eJ at hp;refine⟨nbl rfl,L0,ag _,?_⟩
 ·unfold ae Tryz.f34;try unfold aP
  exact zq81
def ix (q:Int):Bool:=(((decide ((-32)≤q))&&(decide (q≤32)))&&(q !=0))
@[go_sem] def oa:List SV→Option Con:=(pI fun q=>(pE (.det True (.v (.bool (ix q))))))
theorem ql:FnOk Tryz.prog 83 oa:=by
 have hG:ConsOk Tryz.prog (mkG [] []):=ap cg0 cg0;refine aw [.o] mixed al hG (fn:=Tryz.f83) (c:=ae Tryz.f83) kr kr kr kr (dh fun q=>(ai (fun hp=>?_)));dsimp only[ar]at hp;refine⟨nbl rfl,L0,ag _,?_⟩
 ·unfold ae Tryz.f83;try unfold ix
  exact zq1
@[go_sem] def rE (l_:List Int)(k_0:Nat)(s_0:Unit):Unit⊕Unit:=(bif((!(ix (l_.getD k_0 0))) ||((decide ((k_0:Int) > 0))&&(decide ((l_.getD k_0 0)≤(l_.getD (Int.toNat (i64.wrap ((k_0:Int) - 1))) 0)))))then .inl ()else .inr ())
def je (l_:List Int)(k_0:Nat)(s_0:Unit):Prop:=((!(ix (l_.getD k_0 0)))=false→((decide ((k_0:Int) > 0))=true→(0≤(i64.wrap ((k_0:Int) - 1))∧(i64.wrap ((k_0:Int) - 1)) < (l_.length:Int))))
def nc (l_:List Int):Bool:=(match aq (rE l_) l_.length 0 ()with| .inl x_0_0=>false| .inr s_0=>true)
def jS (l_:List Int):Prop:=(l_.length≤aH→okI (rE l_) (je l_) l_.length 0 ())
@[go_sem] def wM:List SV→Option Con:=(pR .int fun l_=>(pE (.det (jS l_) (.v (.bool (nc l_))))))
theorem AM:FnOk Tryz.prog 117 wM:=by
 have hG:ConsOk Tryz.prog (mkG [(83,oa)] []):=ap (cgc ql cg0) cg0;refine aw [.o] mixed al hG (fn:=Tryz.f117) (c:=ae Tryz.f117) kr kr kr kr (bJ fun l_=>(ai (fun hp=>?_)));dsimp only[ar]at hp;unfold jS at hp;refine⟨nbl rfl,(fun id st=>bif Nat.beq id 0 then some (LCR (ρ:=Unit) (σ:=Unit) 0 [] [] (fun k_0 s_0=>⟨[(0,.rs .int l_),(5,.rs .int l_),(6,.v (.int .i64 (l_.length:Int))),(7,.v (.int .i64 (k_0:Int)))],[]⟩) (rE l_) (je l_) l_.length () (l_.length≤aH) (fun _=>.ret) (fun x_0_0=>⟨[(2,.v (.bool false))],[]⟩) st)else none),?_,?_⟩
 ·unfold ae Tryz.f117;simp only[am,true_and,and_true]
  ·refine aY mixed al hG kr (fun _=>rfl) (l_.length:Int) rfl ig (fun hb0 k_0 s_0 hlt0 hq0 hw hc=>⟨L0,ag _,?_⟩) (fun hb0 s_0 hc=>?_)
   ·unfold je at hq0;try simp only[hw,Int.toNat_natCast]at hq0
    exact bX (jl [])
   ·exact bP (jl [])
 ·unfold ae Tryz.f117;try unfold nc
  exact zq1
def tW (c:Clause):Bool:=(decide ((c.if_.length:Int) > 8))
@[go_sem] def vC:List SV→Option Con:=(pD .clause fun c=>(pE (.det True (.v (.bool (tW c))))))
theorem zS:FnOk Tryz.prog 115 vC:=by
 have hG:ConsOk Tryz.prog (mkG [] []):=ap cg0 cg0;refine aw [.o] mixed al hG (fn:=Tryz.f115) (c:=ae Tryz.f115) kr kr kr kr (bt fun c=>(ai (fun hp=>?_)));dsimp only[ar]at hp;refine⟨nbl rfl,L0,ag _,?_⟩
 ·unfold ae Tryz.f115;try unfold tW
  exact zq1
def qm (q:Int)(k_:PleasCourt):Bool:=((gz .int .int k_.known q) !=1)
@[go_sem] def sI:List SV→Option Con:=(pI fun q=>(pXX .pleasCourt fun k_=>(pE (.det True (.v (.bool (qm q k_)))))))
theorem xe:FnOk Tryz.prog 208 sI:=by
 have hG:ConsOk Tryz.prog (mkG [] []):=ap cg0 cg0;refine aw [.o] mixed al hG (fn:=Tryz.f208) (c:=ae Tryz.f208) kr kr kr kr (dh fun q=>(bv fun k_=>(ai (fun hp=>?_))));dsimp only[ar]at hp;refine⟨nbl rfl,L0,ag _,?_⟩
 ·unfold ae Tryz.f208;try unfold qm
  exact zq1
def pj (q:Int)(k_:PleasCourt):Bool:=((gz .int .int k_.known q) ==2)
@[go_sem] def rT:List SV→Option Con:=(pI fun q=>(pXX .pleasCourt fun k_=>(pE (.det True (.v (.bool (pj q k_)))))))
theorem wN:FnOk Tryz.prog 209 rT:=by
 have hG:ConsOk Tryz.prog (mkG [] []):=ap cg0 cg0;refine aw [.o] mixed al hG (fn:=Tryz.f209) (c:=ae Tryz.f209) kr kr kr kr (dh fun q=>(bv fun k_=>(ai (fun hp=>?_))));dsimp only[ar]at hp;refine⟨nbl rfl,L0,ag _,?_⟩
 ·unfold ae Tryz.f209;try unfold pj
  exact zq1
@[go_sem] def lW (s_:List Int)(k_:PleasCourt)(k_0:Nat)(s_0:Unit):Int⊕Unit:=(bif(qm (s_.getD k_0 0) k_)then .inl (k_0:Int)else .inr ())
def jr (s_:List Int)(k_:PleasCourt):Int:=(match aq (lW s_ k_) s_.length 0 ()with| .inl x_0_0=>x_0_0| .inr s_0=>(-1))
@[go_sem] def iH:List SV→Option Con:=(pR .int fun s_=>(pFn 208 (pXX .pleasCourt fun k_=>(pE ((pE (.det True (.v (.int .i64 (jr s_ k_))))))))))
theorem lX:FnOk Tryz.prog 203 iH:=by
 have hG:ConsOk Tryz.prog (mkG [(208,sI)] []):=ap (cgc xe cg0) cg0;refine aw [.o] mixed al hG (fn:=Tryz.f203) (c:=ae Tryz.f203) kr kr kr kr (bJ fun s_=>(bu (bv fun k_=>(ai ((ai (fun hp=>?_)))))));dsimp only[ar]at hp;refine⟨nbl rfl,(fun id st=>bif Nat.beq id 0 then some (LCR (ρ:=Int) (σ:=Unit) 0 [] [] (fun k_0 s_0=>⟨[(0,.rs .int s_),(1,.fn 208 [] [.ep [.ep (cellsOf .pleasCourt k_) 0] 0]),(7,.v (.int .i64 (s_.length:Int))),(8,.v (.int .i64 (k_0:Int)))],[]⟩) (lW s_ k_) pT s_.length () (s_.length≤aH) (fun _=>.ret) (fun x_0_0=>⟨[(4,.v (.int .i64 x_0_0))],[]⟩) st)else none),?_,?_⟩
 ·unfold ae Tryz.f203;simp only[am,true_and,and_true]
  ·refine aY mixed al hG kr (fun _=>rfl) (s_.length:Int) rfl ig (fun hb0 k_0 s_0 hlt0 _ hw hc=>⟨L0,ag _,?_⟩) (fun hb0 s_0 hc=>?_)
   ·exact bX (jl [])
   ·exact bP (jl [])
 ·unfold ae Tryz.f203;try unfold jr
  exact zq1
@[go_sem] def km (s_:List Int)(k_:PleasCourt)(k_0:Nat)(s_0:Unit):Int⊕Unit:=(bif(pj (s_.getD k_0 0) k_)then .inl (k_0:Int)else .inr ())
def iI (s_:List Int)(k_:PleasCourt):Int:=(match aq (km s_ k_) s_.length 0 ()with| .inl x_0_0=>x_0_0| .inr s_0=>(-1))
@[go_sem] def hU:List SV→Option Con:=(pR .int fun s_=>(pFn 209 (pXX .pleasCourt fun k_=>(pE ((pE (.det True (.v (.int .i64 (iI s_ k_))))))))))
theorem ko:FnOk Tryz.prog 203 hU:=by
 have hG:ConsOk Tryz.prog (mkG [(209,rT)] []):=ap (cgc wN cg0) cg0;refine aw [.o] mixed al hG (fn:=Tryz.f203) (c:=ae Tryz.f203) kr kr kr kr (bJ fun s_=>(bu (bv fun k_=>(ai ((ai (fun hp=>?_)))))));dsimp only[ar]at hp;refine⟨nbl rfl,(fun id st=>bif Nat.beq id 0 then some (LCR (ρ:=Int) (σ:=Unit) 0 [] [] (fun k_0 s_0=>⟨[(0,.rs .int s_),(1,.fn 209 [] [.ep [.ep (cellsOf .pleasCourt k_) 0] 0]),(7,.v (.int .i64 (s_.length:Int))),(8,.v (.int .i64 (k_0:Int)))],[]⟩) (km s_ k_) pT s_.length () (s_.length≤aH) (fun _=>.ret) (fun x_0_0=>⟨[(4,.v (.int .i64 x_0_0))],[]⟩) st)else none),?_,?_⟩
 ·unfold ae Tryz.f203;simp only[am,true_and,and_true]
  ·refine aY mixed al hG kr (fun _=>rfl) (s_.length:Int) rfl ig (fun hb0 k_0 s_0 hlt0 _ hw hc=>⟨L0,ag _,?_⟩) (fun hb0 s_0 hc=>?_)
   ·exact bX (jl [])
   ·exact bP (jl [])
 ·unfold ae Tryz.f203;try unfold iI
  exact zq1
@[go_sem] noncomputable def fM:List SV→Option Con:=fun l=>(orC (iH l) (hU l))
theorem ld:FnOk Tryz.prog 203 fM:=(FnOk.or lX ko)
def il (s_:List Int)(k_:PleasCourt):Bool:=(decide ((jr s_ k_)≥0))
@[go_sem] def gW:List SV→Option Con:=(pR .int fun s_=>(pFn 208 (pXX .pleasCourt fun k_=>(pE ((pE (.det True (.v (.bool (il s_ k_))))))))))
theorem Yv {p:Prop}(h:p:=by simp only[go_sem,Nat.reduceBEq,Nat.reduceLeDiff,Nat.reduceLT,decide_true,Nat.reduceAdd,Nat.reduceSub,Nat.reduceMul,Int.reduceLE,Int.reduceLT,Int.reduceToNat,Int.reduceNeg,reduceCtorEq,fM];all_goals exact cl):p:=h
theorem jT:FnOk Tryz.prog 157 gW:=by
 have hG:ConsOk Tryz.prog (mkG [(203,fun l=>fM (bo [.sl .int,.o] l))] []):=ap (cgc (ld.norm [.sl .int,.o]) cg0) cg0;refine aw [.o] mixed al hG (fn:=Tryz.f157) (c:=ae Tryz.f157) kr kr kr kr (bJ fun s_=>(bu (bv fun k_=>(ai ((ai (fun hp=>?_)))))));dsimp only[ar]at hp;refine⟨nbl rfl,L0,ag _,?_⟩
 ·unfold ae Tryz.f157;try unfold il
  exact Yv
def gX (s_:List Int)(k_:PleasCourt):Bool:=(decide ((iI s_ k_)≥0))
@[go_sem] def gF:List SV→Option Con:=(pR .int fun s_=>(pFn 209 (pXX .pleasCourt fun k_=>(pE ((pE (.det True (.v (.bool (gX s_ k_))))))))))
theorem jf:FnOk Tryz.prog 157 gF:=by
 have hG:ConsOk Tryz.prog (mkG [(203,fun l=>fM (bo [.sl .int,.o] l))] []):=ap (cgc (ld.norm [.sl .int,.o]) cg0) cg0;refine aw [.o] mixed al hG (fn:=Tryz.f157) (c:=ae Tryz.f157) kr kr kr kr (bJ fun s_=>(bu (bv fun k_=>(ai ((ai (fun hp=>?_)))))));dsimp only[ar]at hp;refine⟨nbl rfl,L0,ag _,?_⟩
 ·unfold ae Tryz.f157;try unfold gX
  exact Yv
@[go_sem] noncomputable def eT:List SV→Option Con:=fun l=>(orC (gW l) (gF l))
theorem jy:FnOk Tryz.prog 157 eT:=(FnOk.or jT jf)
def jU (k_:PleasCourt)(c:Clause):Bool:=(!(il c.if_ k_))
@[go_sem] def jV:List SV→Option Con:=(pX .pleasCourt fun k_=>(pD .clause fun c=>(pE (.det True (.v (.bool (jU k_ c)))))))
theorem Yw {p:Prop}(h:p:=by simp only[go_sem,Nat.reduceBEq,Nat.reduceLeDiff,Nat.reduceLT,decide_true,Nat.reduceAdd,Nat.reduceSub,Nat.reduceMul,Int.reduceLE,Int.reduceLT,Int.reduceToNat,Int.reduceNeg,reduceCtorEq,eT];all_goals exact cl):p:=h
theorem lY:FnOk Tryz.prog 165 jV:=by
 have hG:ConsOk Tryz.prog (mkG [(157,fun l=>eT (bo [.sl .int,.o] l))] []):=ap (cgc (jy.norm [.sl .int,.o]) cg0) cg0;refine aw [.o] mixed al hG (fn:=Tryz.f165) (c:=ae Tryz.f165) kr kr kr kr (aQ fun k_=>(bt fun c=>(ai (fun hp=>?_))));dsimp only[ar]at hp;refine⟨nbl rfl,L0,ag _,?_⟩
 ·unfold ae Tryz.f165;try unfold jU
  exact Yw
def lf (k_:PleasCourt)(c:Clause):Bool:=(gX c.if_ k_)
@[go_sem] def lZ:List SV→Option Con:=(pX .pleasCourt fun k_=>(pD .clause fun c=>(pE (.det True (.v (.bool (lf k_ c)))))))
theorem oy:FnOk Tryz.prog 167 lZ:=by
 have hG:ConsOk Tryz.prog (mkG [(157,fun l=>eT (bo [.sl .int,.o] l))] []):=ap (cgc (jy.norm [.sl .int,.o]) cg0) cg0;refine aw [.o] mixed al hG (fn:=Tryz.f167) (c:=ae Tryz.f167) kr kr kr kr (aQ fun k_=>(bt fun c=>(ai (fun hp=>?_))));dsimp only[ar]at hp;refine⟨nbl rfl,L0,ag _,?_⟩
 ·unfold ae Tryz.f167;try unfold lf
  exact Yw
def my (c:Clause)(q:Int)(k_:PleasCourt):Bool:=((c.then_==q)&&(jU k_ c))
@[go_sem] def pm:List SV→Option Con:=(pD .clause fun c=>(pX .int fun q=>(pXX .pleasCourt fun k_=>(pE (.det True (.v (.bool (my c q k_))))))))
theorem uE:FnOk Tryz.prog 169 pm:=by
 have hG:ConsOk Tryz.prog (mkG [(165,fun l=>jV (bo [.o,.st .clause] l))] []):=ap (cgc (lY.norm [.o,.st .clause]) cg0) cg0;refine aw [.o] mixed al hG (fn:=Tryz.f169) (c:=ae Tryz.f169) kr kr kr kr (bt fun c=>(aQ fun q=>(bv fun k_=>(ai (fun hp=>?_)))));dsimp only[ar]at hp;refine⟨nbl rfl,L0,ag _,?_⟩
 ·unfold ae Tryz.f169;try unfold my
  exact zq1
@[go_sem] def fR (s_:List Clause)(q:Int)(k_:PleasCourt)(k_0:Nat)(s_0:Unit):Int⊕Unit:=(bif(my (s_.getD k_0 default) q k_)then .inl (k_0:Int)else .inr ())
def d8 (s_:List Clause)(q:Int)(k_:PleasCourt):Int:=(match aq (fR s_ q k_) s_.length 0 ()with| .inl x_0_0=>x_0_0| .inr s_0=>(-1))
@[go_sem] def bk:List SV→Option Con:=(pR .clause fun s_=>(pFn 169 (pX .int fun q=>(pXX .pleasCourt fun k_=>(pE ((pE (.det True (.v (.int .i64 (d8 s_ q k_)))))))))))
theorem b8:FnOk Tryz.prog 156 bk:=by
 have hG:ConsOk Tryz.prog (mkG [(169,fun l=>pm (bo [.st .clause,.o,.o] l))] []):=ap (cgc (uE.norm [.st .clause,.o,.o]) cg0) cg0;refine aw [.o] mixed al hG (fn:=Tryz.f156) (c:=ae Tryz.f156) kr kr kr kr (bJ fun s_=>(bu (aQ fun q=>(bv fun k_=>(ai ((ai (fun hp=>?_))))))));dsimp only[ar]at hp;refine⟨nbl rfl,(fun id st=>bif Nat.beq id 0 then some (LCR (ρ:=Int) (σ:=Unit) 0 [] [] (fun k_0 s_0=>⟨[(0,.rs .clause s_),(1,.fn 169 [] [.ep [.v (.int .i64 q)] 0,.ep [.ep (cellsOf .pleasCourt k_) 0] 0]),(7,.v (.int .i64 (s_.length:Int))),(8,.v (.int .i64 (k_0:Int)))],[]⟩) (fR s_ q k_) pT s_.length () (s_.length≤aH) (fun _=>.ret) (fun x_0_0=>⟨[(4,.v (.int .i64 x_0_0))],[]⟩) st)else none),?_,?_⟩
 ·unfold ae Tryz.f156;simp only[am,true_and,and_true]
  ·refine aY mixed al hG kr (fun _=>rfl) (s_.length:Int) rfl ig (fun hb0 k_0 s_0 hlt0 _ hw hc=>⟨L0,ag _,?_⟩) (fun hb0 s_0 hc=>?_)
   ·exact bX (jl [])
   ·exact bP (jl [])
 ·unfold ae Tryz.f156;try unfold d8
  exact zq1
@[go_sem] noncomputable def dW:List SV→Option Con:=fun l=>(bk l)
theorem kH:FnOk Tryz.prog 156 dW:=b8
def kI (k_:PleasCourt)(q:Int):Int:=(i64.wrap (1+(d8 k_.plea.clauses q k_)))
@[go_sem] def qX:List SV→Option Con:=(pX .pleasCourt fun k_=>(pI fun q=>(pE (.det True (.v (.int .i64 (kI k_ q)))))))
theorem zq95 {p:Prop}(h:p:=by simp only[go_sem,Nat.reduceBEq,Nat.reduceLeDiff,Nat.reduceLT,decide_true,Nat.reduceAdd,Nat.reduceSub,Nat.reduceMul,Int.reduceLE,Int.reduceLT,Int.reduceToNat,Int.reduceNeg,reduceCtorEq,dW];all_goals exact cl):p:=h
theorem vK:FnOk Tryz.prog 133 qX:=by
 have hG:ConsOk Tryz.prog (mkG [(156,fun l=>dW (bo [.sl .clause,.o] l))] []):=ap (cgc (kH.norm [.sl .clause,.o]) cg0) cg0;refine aw [.o] mixed al hG (fn:=Tryz.f133) (c:=ae Tryz.f133) kr kr kr kr (aQ fun k_=>(dh fun q=>(ai (fun hp=>?_))));dsimp only[ar]at hp;refine⟨nbl rfl,L0,ag _,?_⟩
 ·unfold ae Tryz.f133;try unfold kI
  exact zq95
def kJ (c:Clause)(k_:PleasCourt)(w_:Clause):Bool:=((jU k_ c)&&(decide (c.rank > w_.rank)))
@[go_sem] def nU:List SV→Option Con:=(pD .clause fun c=>(pXX .pleasCourt fun k_=>(pX .clause fun w_=>(pE (.det True (.v (.bool (kJ c k_ w_))))))))
theorem sZ:FnOk Tryz.prog 168 nU:=by
 have hG:ConsOk Tryz.prog (mkG [(165,fun l=>jV (bo [.o,.st .clause] l))] []):=ap (cgc (lY.norm [.o,.st .clause]) cg0) cg0;refine aw [.o] mixed al hG (fn:=Tryz.f168) (c:=ae Tryz.f168) kr kr kr kr (bt fun c=>(bv fun k_=>(aQ fun w_=>(ai (fun hp=>?_)))));dsimp only[ar]at hp;refine⟨nbl rfl,L0,ag _,?_⟩
 ·unfold ae Tryz.f168;try unfold kJ
  exact zq1
def jW (c:Clause)(k_:PleasCourt):Bool:=(!(lf k_ c))
@[go_sem] def nj:List SV→Option Con:=(pD .clause fun c=>(pXX .pleasCourt fun k_=>(pE (.det True (.v (.bool (jW c k_)))))))
theorem sJ:FnOk Tryz.prog 172 nj:=by
 have hG:ConsOk Tryz.prog (mkG [(167,fun l=>lZ (bo [.o,.st .clause] l))] []):=ap (cgc (oy.norm [.o,.st .clause]) cg0) cg0;refine aw [.o] mixed al hG (fn:=Tryz.f172) (c:=ae Tryz.f172) kr kr kr kr (bt fun c=>(bv fun k_=>(ai (fun hp=>?_))));dsimp only[ar]at hp;refine⟨nbl rfl,L0,ag _,?_⟩
 ·unfold ae Tryz.f172;try unfold jW
  exact zq1
def iT (c:Clause)(k_:PleasCourt)(w_:Clause):Bool:=((!(lf k_ c))&&(decide (c.rank > w_.rank)))
@[go_sem] def l5:List SV→Option Con:=(pD .clause fun c=>(pXX .pleasCourt fun k_=>(pX .clause fun w_=>(pE (.det True (.v (.bool (iT c k_ w_))))))))
theorem rF:FnOk Tryz.prog 175 l5:=by
 have hG:ConsOk Tryz.prog (mkG [(167,fun l=>lZ (bo [.o,.st .clause] l))] []):=ap (cgc (oy.norm [.o,.st .clause]) cg0) cg0;refine aw [.o] mixed al hG (fn:=Tryz.f175) (c:=ae Tryz.f175) kr kr kr kr (bt fun c=>(bv fun k_=>(aQ fun w_=>(ai (fun hp=>?_)))));dsimp only[ar]at hp;refine⟨nbl rfl,L0,ag _,?_⟩
 ·unfold ae Tryz.f175;try unfold iT
  exact zq1
def mz (c:Clause)(q0:Int)(k2:PleasCourt):Bool:=((c.then_==q0)&&(jU k2 c))
@[go_sem] def kK:List SV→Option Con:=(pD .clause fun c=>(pX .int fun q0=>(Ix 165 (pX .pleasCourt fun k2=>(pE ((pE (.det True (.v (.bool (mz c q0 k2)))))))))))
theorem oJ:FnOk Tryz.prog 207 kK:=by
 have hG:ConsOk Tryz.prog (mkG [(165,fun l=>jV (bo [.o,.st .clause] l))] []):=ap (cgc (lY.norm [.o,.st .clause]) cg0) cg0;refine aw [.o] mixed al hG (fn:=Tryz.f207) (c:=ae Tryz.f207) kr kr kr kr (bt fun c=>(aQ fun q0=>(Cc (aQ fun k2=>(ai ((ai (fun hp=>?_))))))));dsimp only[ar]at hp;refine⟨nbl rfl,L0,ag _,?_⟩
 ·unfold ae Tryz.f207;try unfold mz
  exact zq1
def mA (c:Clause)(q0:Int)(k2:PleasCourt)(w_:Clause):Bool:=((c.then_==q0)&&(kJ c k2 w_))
@[go_sem] def kL:List SV→Option Con:=(pD .clause fun c=>(pX .int fun q0=>(pXF 168 (pXX .pleasCourt fun k2=>(pX .clause fun w_=>(pE ((pE (.det True (.v (.bool (mA c q0 k2 w_))))))))))))
theorem oK:FnOk Tryz.prog 207 kL:=by
 have hG:ConsOk Tryz.prog (mkG [(168,fun l=>nU (bo [.st .clause,.o,.o] l))] []):=ap (cgc (sZ.norm [.st .clause,.o,.o]) cg0) cg0;refine aw [.o] mixed al hG (fn:=Tryz.f207) (c:=ae Tryz.f207) kr kr kr kr (bt fun c=>(aQ fun q0=>(kw (bv fun k2=>(aQ fun w_=>(ai ((ai (fun hp=>?_)))))))));dsimp only[ar]at hp;refine⟨nbl rfl,L0,ag _,?_⟩
 ·unfold ae Tryz.f207;try unfold mA
  exact zq1
def mB (c:Clause)(q0:Int)(k2:PleasCourt):Bool:=((c.then_==q0)&&(jW c k2))
@[go_sem] def kM:List SV→Option Con:=(pD .clause fun c=>(pX .int fun q0=>(pXF 172 (pXX .pleasCourt fun k2=>(pE ((pE (.det True (.v (.bool (mB c q0 k2)))))))))))
theorem oL:FnOk Tryz.prog 207 kM:=by
 have hG:ConsOk Tryz.prog (mkG [(172,fun l=>nj (bo [.st .clause,.o] l))] []):=ap (cgc (sJ.norm [.st .clause,.o]) cg0) cg0;refine aw [.o] mixed al hG (fn:=Tryz.f207) (c:=ae Tryz.f207) kr kr kr kr (bt fun c=>(aQ fun q0=>(kw (bv fun k2=>(ai ((ai (fun hp=>?_))))))));dsimp only[ar]at hp;refine⟨nbl rfl,L0,ag _,?_⟩
 ·unfold ae Tryz.f207;try unfold mB
  exact zq1
def mC (c:Clause)(q0:Int)(k2:PleasCourt)(w_:Clause):Bool:=((c.then_==q0)&&(iT c k2 w_))
@[go_sem] def kO:List SV→Option Con:=(pD .clause fun c=>(pX .int fun q0=>(pXF 175 (pXX .pleasCourt fun k2=>(pX .clause fun w_=>(pE ((pE (.det True (.v (.bool (mC c q0 k2 w_))))))))))))
theorem oM:FnOk Tryz.prog 207 kO:=by
 have hG:ConsOk Tryz.prog (mkG [(175,fun l=>l5 (bo [.st .clause,.o,.o] l))] []):=ap (cgc (rF.norm [.st .clause,.o,.o]) cg0) cg0;refine aw [.o] mixed al hG (fn:=Tryz.f207) (c:=ae Tryz.f207) kr kr kr kr (bt fun c=>(aQ fun q0=>(kw (bv fun k2=>(aQ fun w_=>(ai ((ai (fun hp=>?_)))))))));dsimp only[ar]at hp;refine⟨nbl rfl,L0,ag _,?_⟩
 ·unfold ae Tryz.f207;try unfold mC
  exact zq1
@[go_sem] noncomputable def fj:List SV→Option Con:=fun l=>(orC (kK l) (orC (kL l) (orC (kM l) (kO l))))
theorem im:FnOk Tryz.prog 207 fj:=(FnOk.or oJ (FnOk.or oK (FnOk.or oL oM)))
@[go_sem] def fS (s_:List Clause)(q0:Int)(k2:PleasCourt)(k_0:Nat)(s_0:Unit):Int⊕Unit:=(bif(mz (s_.getD k_0 default) q0 k2)then .inl (k_0:Int)else .inr ())
def d9 (s_:List Clause)(q0:Int)(k2:PleasCourt):Int:=(match aq (fS s_ q0 k2) s_.length 0 ()with| .inl x_0_0=>x_0_0| .inr s_0=>(-1))
@[go_sem] def ce:List SV→Option Con:=(pR .clause fun s_=>(pFn 207 (pX .int fun q0=>(Ix 165 (pX .pleasCourt fun k2=>(pE ((pE ((pE (.det True (.v (.int .i64 (d9 s_ q0 k2))))))))))))))
theorem Kf {p:Prop}(h:p:=by simp only[go_sem,Nat.reduceBEq,Nat.reduceLeDiff,Nat.reduceLT,decide_true,Nat.reduceAdd,Nat.reduceSub,Nat.reduceMul,Int.reduceLE,Int.reduceLT,Int.reduceToNat,Int.reduceNeg,reduceCtorEq,fj];all_goals exact cl):p:=h
theorem dA:FnOk Tryz.prog 156 ce:=by
 have hG:ConsOk Tryz.prog (mkG [(207,fun l=>fj (bo [.st .clause,.o,.o] l))] []):=ap (cgc (im.norm [.st .clause,.o,.o]) cg0) cg0;refine aw [.o] mixed al hG (fn:=Tryz.f156) (c:=ae Tryz.f156) kr kr kr kr (bJ fun s_=>(bu (aQ fun q0=>(Cc (aQ fun k2=>(ai ((ai ((ai (fun hp=>?_)))))))))));dsimp only[ar]at hp;refine⟨nbl rfl,(fun id st=>bif Nat.beq id 0 then some (LCR (ρ:=Int) (σ:=Unit) 0 [] [] (fun k_0 s_0=>⟨[(0,.rs .clause s_),(1,.fn 207 [] [.ep [.v (.int .i64 q0)] 0,.ep [.fn 165 [.ep (cellsOf .pleasCourt k2) 0] []] 0]),(7,.v (.int .i64 (s_.length:Int))),(8,.v (.int .i64 (k_0:Int)))],[]⟩) (fS s_ q0 k2) pT s_.length () (s_.length≤aH) (fun _=>.ret) (fun x_0_0=>⟨[(4,.v (.int .i64 x_0_0))],[]⟩) st)else none),?_,?_⟩
 ·unfold ae Tryz.f156;simp only[am,true_and,and_true]
  ·refine aY mixed al hG kr (fun _=>rfl) (s_.length:Int) rfl ig (fun hb0 k_0 s_0 hlt0 _ hw hc=>⟨L0,ag _,?_⟩) (fun hb0 s_0 hc=>?_)
   ·exact bX (jl [])
   ·exact bP (jl [])
 ·unfold ae Tryz.f156;try unfold d9
  exact Kf
@[go_sem] def fT (s_:List Clause)(q0:Int)(k2:PleasCourt)(w_:Clause)(k_0:Nat)(s_0:Unit):Int⊕Unit:=(bif(mA (s_.getD k_0 default) q0 k2 w_)then .inl (k_0:Int)else .inr ())
def d_ (s_:List Clause)(q0:Int)(k2:PleasCourt)(w_:Clause):Int:=(match aq (fT s_ q0 k2 w_) s_.length 0 ()with| .inl x_0_0=>x_0_0| .inr s_0=>(-1))
@[go_sem] def cg:List SV→Option Con:=(pR .clause fun s_=>(pFn 207 (pX .int fun q0=>(pXF 168 (pXX .pleasCourt fun k2=>(pX .clause fun w_=>(pE ((pE ((pE (.det True (.v (.int .i64 (d_ s_ q0 k2 w_)))))))))))))))
theorem dB:FnOk Tryz.prog 156 cg:=by
 have hG:ConsOk Tryz.prog (mkG [(207,fun l=>fj (bo [.st .clause,.o,.o] l))] []):=ap (cgc (im.norm [.st .clause,.o,.o]) cg0) cg0;refine aw [.o] mixed al hG (fn:=Tryz.f156) (c:=ae Tryz.f156) kr kr kr kr (bJ fun s_=>(bu (aQ fun q0=>(kw (bv fun k2=>(aQ fun w_=>(ai ((ai ((ai (fun hp=>?_))))))))))));dsimp only[ar]at hp;refine⟨nbl rfl,(fun id st=>bif Nat.beq id 0 then some (LCR (ρ:=Int) (σ:=Unit) 0 [] [] (fun k_0 s_0=>⟨[(0,.rs .clause s_),(1,.fn 207 [] [.ep [.v (.int .i64 q0)] 0,.ep [.fn 168 [] [.ep [.ep (cellsOf .pleasCourt k2) 0] 0,.ep (cellsOf .clause w_) 0]] 0]),(7,.v (.int .i64 (s_.length:Int))),(8,.v (.int .i64 (k_0:Int)))],[]⟩) (fT s_ q0 k2 w_) pT s_.length () (s_.length≤aH) (fun _=>.ret) (fun x_0_0=>⟨[(4,.v (.int .i64 x_0_0))],[]⟩) st)else none),?_,?_⟩
 ·unfold ae Tryz.f156;simp only[am,true_and,and_true]
  ·refine aY mixed al hG kr (fun _=>rfl) (s_.length:Int) rfl ig (fun hb0 k_0 s_0 hlt0 _ hw hc=>⟨L0,ag _,?_⟩) (fun hb0 s_0 hc=>?_)
   ·exact bX (jl [])
   ·exact bP (jl [])
 ·unfold ae Tryz.f156;try unfold d_
  exact Kf
@[go_sem] def fU (s_:List Clause)(q0:Int)(k2:PleasCourt)(k_0:Nat)(s_0:Unit):Int⊕Unit:=(bif(mB (s_.getD k_0 default) q0 k2)then .inl (k_0:Int)else .inr ())
def ed (s_:List Clause)(q0:Int)(k2:PleasCourt):Int:=(match aq (fU s_ q0 k2) s_.length 0 ()with| .inl x_0_0=>x_0_0| .inr s_0=>(-1))
@[go_sem] def ci:List SV→Option Con:=(pR .clause fun s_=>(pFn 207 (pX .int fun q0=>(pXF 172 (pXX .pleasCourt fun k2=>(pE ((pE ((pE (.det True (.v (.int .i64 (ed s_ q0 k2))))))))))))))
theorem dC:FnOk Tryz.prog 156 ci:=by
 have hG:ConsOk Tryz.prog (mkG [(207,fun l=>fj (bo [.st .clause,.o,.o] l))] []):=ap (cgc (im.norm [.st .clause,.o,.o]) cg0) cg0;refine aw [.o] mixed al hG (fn:=Tryz.f156) (c:=ae Tryz.f156) kr kr kr kr (bJ fun s_=>(bu (aQ fun q0=>(kw (bv fun k2=>(ai ((ai ((ai (fun hp=>?_)))))))))));dsimp only[ar]at hp;refine⟨nbl rfl,(fun id st=>bif Nat.beq id 0 then some (LCR (ρ:=Int) (σ:=Unit) 0 [] [] (fun k_0 s_0=>⟨[(0,.rs .clause s_),(1,.fn 207 [] [.ep [.v (.int .i64 q0)] 0,.ep [.fn 172 [] [.ep [.ep (cellsOf .pleasCourt k2) 0] 0]] 0]),(7,.v (.int .i64 (s_.length:Int))),(8,.v (.int .i64 (k_0:Int)))],[]⟩) (fU s_ q0 k2) pT s_.length () (s_.length≤aH) (fun _=>.ret) (fun x_0_0=>⟨[(4,.v (.int .i64 x_0_0))],[]⟩) st)else none),?_,?_⟩
 ·unfold ae Tryz.f156;simp only[am,true_and,and_true]
  ·refine aY mixed al hG kr (fun _=>rfl) (s_.length:Int) rfl ig (fun hb0 k_0 s_0 hlt0 _ hw hc=>⟨L0,ag _,?_⟩) (fun hb0 s_0 hc=>?_)
   ·exact bX (jl [])
   ·exact bP (jl [])
 ·unfold ae Tryz.f156;try unfold ed
  exact Kf
@[go_sem] def fV (s_:List Clause)(q0:Int)(k2:PleasCourt)(w_:Clause)(k_0:Nat)(s_0:Unit):Int⊕Unit:=(bif(mC (s_.getD k_0 default) q0 k2 w_)then .inl (k_0:Int)else .inr ())
def ee (s_:List Clause)(q0:Int)(k2:PleasCourt)(w_:Clause):Int:=(match aq (fV s_ q0 k2 w_) s_.length 0 ()with| .inl x_0_0=>x_0_0| .inr s_0=>(-1))
@[go_sem] def cj:List SV→Option Con:=(pR .clause fun s_=>(pFn 207 (pX .int fun q0=>(pXF 175 (pXX .pleasCourt fun k2=>(pX .clause fun w_=>(pE ((pE ((pE (.det True (.v (.int .i64 (ee s_ q0 k2 w_)))))))))))))))
theorem dD:FnOk Tryz.prog 156 cj:=by
 have hG:ConsOk Tryz.prog (mkG [(207,fun l=>fj (bo [.st .clause,.o,.o] l))] []):=ap (cgc (im.norm [.st .clause,.o,.o]) cg0) cg0;refine aw [.o] mixed al hG (fn:=Tryz.f156) (c:=ae Tryz.f156) kr kr kr kr (bJ fun s_=>(bu (aQ fun q0=>(kw (bv fun k2=>(aQ fun w_=>(ai ((ai ((ai (fun hp=>?_))))))))))));dsimp only[ar]at hp;refine⟨nbl rfl,(fun id st=>bif Nat.beq id 0 then some (LCR (ρ:=Int) (σ:=Unit) 0 [] [] (fun k_0 s_0=>⟨[(0,.rs .clause s_),(1,.fn 207 [] [.ep [.v (.int .i64 q0)] 0,.ep [.fn 175 [] [.ep [.ep (cellsOf .pleasCourt k2) 0] 0,.ep (cellsOf .clause w_) 0]] 0]),(7,.v (.int .i64 (s_.length:Int))),(8,.v (.int .i64 (k_0:Int)))],[]⟩) (fV s_ q0 k2 w_) pT s_.length () (s_.length≤aH) (fun _=>.ret) (fun x_0_0=>⟨[(4,.v (.int .i64 x_0_0))],[]⟩) st)else none),?_,?_⟩
 ·unfold ae Tryz.f156;simp only[am,true_and,and_true]
  ·refine aY mixed al hG kr (fun _=>rfl) (s_.length:Int) rfl ig (fun hb0 k_0 s_0 hlt0 _ hw hc=>⟨L0,ag _,?_⟩) (fun hb0 s_0 hc=>?_)
   ·exact bX (jl [])
   ·exact bP (jl [])
 ·unfold ae Tryz.f156;try unfold ee
  exact Kf
@[go_sem] noncomputable def ba:List SV→Option Con:=fun l=>(orC (bk l) (orC (ce l) (orC (cg l) (orC (ci l) (cj l)))))
theorem cm:FnOk Tryz.prog 156 ba:=(FnOk.or b8 (FnOk.or dA (FnOk.or dB (FnOk.or dC dD))))
def dE (s_:List Clause)(q0:Int)(k2:PleasCourt):Bool:=(decide ((d9 s_ q0 k2)≥0))
@[go_sem] def bR:List SV→Option Con:=(pR .clause fun s_=>(pFn 207 (pX .int fun q0=>(Ix 165 (pX .pleasCourt fun k2=>(pE ((pE ((pE (.det True (.v (.bool (dE s_ q0 k2))))))))))))))
theorem Kg {p:Prop}(h:p:=by simp only[go_sem,Nat.reduceBEq,Nat.reduceLeDiff,Nat.reduceLT,decide_true,Nat.reduceAdd,Nat.reduceSub,Nat.reduceMul,Int.reduceLE,Int.reduceLT,Int.reduceToNat,Int.reduceNeg,reduceCtorEq,ba];all_goals exact cl):p:=h
theorem c8:FnOk Tryz.prog 116 bR:=by
 have hG:ConsOk Tryz.prog (mkG [(156,fun l=>ba (bo [.sl .clause,.o] l))] []):=ap (cgc (cm.norm [.sl .clause,.o]) cg0) cg0;refine aw [.o] mixed al hG (fn:=Tryz.f116) (c:=ae Tryz.f116) kr kr kr kr (bJ fun s_=>(bu (aQ fun q0=>(Cc (aQ fun k2=>(ai ((ai ((ai (fun hp=>?_)))))))))));dsimp only[ar]at hp;refine⟨nbl rfl,L0,ag _,?_⟩
 ·unfold ae Tryz.f116;try unfold dE
  exact Kg
def dF (s_:List Clause)(q0:Int)(k2:PleasCourt)(w_:Clause):Bool:=(decide ((d_ s_ q0 k2 w_)≥0))
@[go_sem] def bS:List SV→Option Con:=(pR .clause fun s_=>(pFn 207 (pX .int fun q0=>(pXF 168 (pXX .pleasCourt fun k2=>(pX .clause fun w_=>(pE ((pE ((pE (.det True (.v (.bool (dF s_ q0 k2 w_)))))))))))))))
theorem c9:FnOk Tryz.prog 116 bS:=by
 have hG:ConsOk Tryz.prog (mkG [(156,fun l=>ba (bo [.sl .clause,.o] l))] []):=ap (cgc (cm.norm [.sl .clause,.o]) cg0) cg0;refine aw [.o] mixed al hG (fn:=Tryz.f116) (c:=ae Tryz.f116) kr kr kr kr (bJ fun s_=>(bu (aQ fun q0=>(kw (bv fun k2=>(aQ fun w_=>(ai ((ai ((ai (fun hp=>?_))))))))))));dsimp only[ar]at hp;refine⟨nbl rfl,L0,ag _,?_⟩
 ·unfold ae Tryz.f116;try unfold dF
  exact Kg
def dH (s_:List Clause)(q0:Int)(k2:PleasCourt):Bool:=(decide ((ed s_ q0 k2)≥0))
@[go_sem] def bT:List SV→Option Con:=(pR .clause fun s_=>(pFn 207 (pX .int fun q0=>(pXF 172 (pXX .pleasCourt fun k2=>(pE ((pE ((pE (.det True (.v (.bool (dH s_ q0 k2))))))))))))))
theorem da:FnOk Tryz.prog 116 bT:=by
 have hG:ConsOk Tryz.prog (mkG [(156,fun l=>ba (bo [.sl .clause,.o] l))] []):=ap (cgc (cm.norm [.sl .clause,.o]) cg0) cg0;refine aw [.o] mixed al hG (fn:=Tryz.f116) (c:=ae Tryz.f116) kr kr kr kr (bJ fun s_=>(bu (aQ fun q0=>(kw (bv fun k2=>(ai ((ai ((ai (fun hp=>?_)))))))))));dsimp only[ar]at hp;refine⟨nbl rfl,L0,ag _,?_⟩
 ·unfold ae Tryz.f116;try unfold dH
  exact Kg
def dI (s_:List Clause)(q0:Int)(k2:PleasCourt)(w_:Clause):Bool:=(decide ((ee s_ q0 k2 w_)≥0))
@[go_sem] def bU:List SV→Option Con:=(pR .clause fun s_=>(pFn 207 (pX .int fun q0=>(pXF 175 (pXX .pleasCourt fun k2=>(pX .clause fun w_=>(pE ((pE ((pE (.det True (.v (.bool (dI s_ q0 k2 w_)))))))))))))))
theorem db:FnOk Tryz.prog 116 bU:=by
 have hG:ConsOk Tryz.prog (mkG [(156,fun l=>ba (bo [.sl .clause,.o] l))] []):=ap (cgc (cm.norm [.sl .clause,.o]) cg0) cg0;refine aw [.o] mixed al hG (fn:=Tryz.f116) (c:=ae Tryz.f116) kr kr kr kr (bJ fun s_=>(bu (aQ fun q0=>(kw (bv fun k2=>(aQ fun w_=>(ai ((ai ((ai (fun hp=>?_))))))))))));dsimp only[ar]at hp;refine⟨nbl rfl,L0,ag _,?_⟩
 ·unfold ae Tryz.f116;try unfold dI
  exact Kg
@[go_sem] noncomputable def aX:List SV→Option Con:=fun l=>(orC (bR l) (orC (bS l) (orC (bT l) (bU l))))
theorem bV:FnOk Tryz.prog 116 aX:=(FnOk.or c8 (FnOk.or c9 (FnOk.or da db)))
def oz (k_:PleasCourt)(q:Int)(k2:PleasCourt):Bool:=(dE k_.plea.clauses q k2)
@[go_sem] def mD:List SV→Option Con:=(pX .pleasCourt fun k_=>(pI fun q=>(pFB 165 (pX .pleasCourt fun k2=>(pE ((pE (.det True (.v (.bool (oz k_ q k2)))))))))))
theorem Kh {p:Prop}(h:p:=by simp only[go_sem,Nat.reduceBEq,Nat.reduceLeDiff,Nat.reduceLT,decide_true,Nat.reduceAdd,Nat.reduceSub,Nat.reduceMul,Int.reduceLE,Int.reduceLT,Int.reduceToNat,Int.reduceNeg,reduceCtorEq,aX];all_goals exact cl):p:=h
theorem pN:FnOk Tryz.prog 164 mD:=by
 have hG:ConsOk Tryz.prog (mkG [(116,fun l=>aX (bo [.sl .clause,.o] l))] []):=ap (cgc (bV.norm [.sl .clause,.o]) cg0) cg0;refine aw [.o] mixed al hG (fn:=Tryz.f164) (c:=ae Tryz.f164) kr kr kr kr (aQ fun k_=>(dh fun q=>(QI (aQ fun k2=>(ai ((ai (fun hp=>?_))))))));dsimp only[ar]at hp;refine⟨nbl rfl,L0,ag _,?_⟩
 ·unfold ae Tryz.f164;try unfold oz
  exact Kh
def oA (k_:PleasCourt)(q:Int)(k2:PleasCourt)(w_:Clause):Bool:=(dF k_.plea.clauses q k2 w_)
@[go_sem] def mE:List SV→Option Con:=(pX .pleasCourt fun k_=>(pI fun q=>(pFn 168 (pXX .pleasCourt fun k2=>(pX .clause fun w_=>(pE ((pE (.det True (.v (.bool (oA k_ q k2 w_))))))))))))
theorem pO:FnOk Tryz.prog 164 mE:=by
 have hG:ConsOk Tryz.prog (mkG [(116,fun l=>aX (bo [.sl .clause,.o] l))] []):=ap (cgc (bV.norm [.sl .clause,.o]) cg0) cg0;refine aw [.o] mixed al hG (fn:=Tryz.f164) (c:=ae Tryz.f164) kr kr kr kr (aQ fun k_=>(dh fun q=>(bu (bv fun k2=>(aQ fun w_=>(ai ((ai (fun hp=>?_)))))))));dsimp only[ar]at hp;refine⟨nbl rfl,L0,ag _,?_⟩
 ·unfold ae Tryz.f164;try unfold oA
  exact Kh
def oB (k_:PleasCourt)(q:Int)(k2:PleasCourt):Bool:=(dH k_.plea.clauses q k2)
@[go_sem] def mF:List SV→Option Con:=(pX .pleasCourt fun k_=>(pI fun q=>(pFn 172 (pXX .pleasCourt fun k2=>(pE ((pE (.det True (.v (.bool (oB k_ q k2)))))))))))
theorem pP:FnOk Tryz.prog 164 mF:=by
 have hG:ConsOk Tryz.prog (mkG [(116,fun l=>aX (bo [.sl .clause,.o] l))] []):=ap (cgc (bV.norm [.sl .clause,.o]) cg0) cg0;refine aw [.o] mixed al hG (fn:=Tryz.f164) (c:=ae Tryz.f164) kr kr kr kr (aQ fun k_=>(dh fun q=>(bu (bv fun k2=>(ai ((ai (fun hp=>?_))))))));dsimp only[ar]at hp;refine⟨nbl rfl,L0,ag _,?_⟩
 ·unfold ae Tryz.f164;try unfold oB
  exact Kh
def oC (k_:PleasCourt)(q:Int)(k2:PleasCourt)(w_:Clause):Bool:=(dI k_.plea.clauses q k2 w_)
@[go_sem] def mG:List SV→Option Con:=(pX .pleasCourt fun k_=>(pI fun q=>(pFn 175 (pXX .pleasCourt fun k2=>(pX .clause fun w_=>(pE ((pE (.det True (.v (.bool (oC k_ q k2 w_))))))))))))
theorem pY:FnOk Tryz.prog 164 mG:=by
 have hG:ConsOk Tryz.prog (mkG [(116,fun l=>aX (bo [.sl .clause,.o] l))] []):=ap (cgc (bV.norm [.sl .clause,.o]) cg0) cg0;refine aw [.o] mixed al hG (fn:=Tryz.f164) (c:=ae Tryz.f164) kr kr kr kr (aQ fun k_=>(dh fun q=>(bu (bv fun k2=>(aQ fun w_=>(ai ((ai (fun hp=>?_)))))))));dsimp only[ar]at hp;refine⟨nbl rfl,L0,ag _,?_⟩
 ·unfold ae Tryz.f164;try unfold oC
  exact Kh
@[go_sem] noncomputable def jD:List SV→Option Con:=fun l=>(orC (mD l) (orC (mE l) (orC (mF l) (mG l))))
theorem qY:FnOk Tryz.prog 164 jD:=(FnOk.or pN (FnOk.or pO (FnOk.or pP pY)))
def mH (s_:Clause)(k_:PleasCourt)(q:Int):Bool:=((!(lf k_ s_))&&(!(oA k_ q k_ s_)))
@[go_sem] def pn:List SV→Option Con:=(pD .clause fun s_=>(pXX .pleasCourt fun k_=>(pX .int fun q=>(pE (.det True (.v (.bool (mH s_ k_ q))))))))
theorem R8 {p:Prop}(h:p:=by simp only[go_sem,Nat.reduceBEq,Nat.reduceLeDiff,Nat.reduceLT,decide_true,Nat.reduceAdd,Nat.reduceSub,Nat.reduceMul,Int.reduceLE,Int.reduceLT,Int.reduceToNat,Int.reduceNeg,reduceCtorEq,jD];all_goals exact cl):p:=h
theorem uF:FnOk Tryz.prog 166 pn:=by
 have hG:ConsOk Tryz.prog (mkG [(164,jD),(167,fun l=>lZ (bo [.o,.st .clause] l))] []):=ap (cgc qY (cgc (oy.norm [.o,.st .clause]) cg0)) cg0;refine aw [.o] mixed al hG (fn:=Tryz.f166) (c:=ae Tryz.f166) kr kr kr kr (bt fun s_=>(bv fun k_=>(aQ fun q=>(ai (fun hp=>?_)))));dsimp only[ar]at hp;refine⟨nbl rfl,L0,ag _,?_⟩
 ·unfold ae Tryz.f166;try unfold mH
  exact R8
def jX (s_:Clause)(k_:PleasCourt)(q:Int):Bool:=((jU k_ s_)&&(!(oC k_ q k_ s_)))
@[go_sem] def nk:List SV→Option Con:=(pD .clause fun s_=>(pXX .pleasCourt fun k_=>(pX .int fun q=>(pE (.det True (.v (.bool (jX s_ k_ q))))))))
theorem sK:FnOk Tryz.prog 174 nk:=by
 have hG:ConsOk Tryz.prog (mkG [(164,jD),(165,fun l=>jV (bo [.o,.st .clause] l))] []):=ap (cgc qY (cgc (lY.norm [.o,.st .clause]) cg0)) cg0;refine aw [.o] mixed al hG (fn:=Tryz.f174) (c:=ae Tryz.f174) kr kr kr kr (bt fun s_=>(bv fun k_=>(aQ fun q=>(ai (fun hp=>?_)))));dsimp only[ar]at hp;refine⟨nbl rfl,L0,ag _,?_⟩
 ·unfold ae Tryz.f174;try unfold jX
  exact R8
def mI (c:Clause)(q0:Int)(k2:PleasCourt)(q2:Int):Bool:=((c.then_==q0)&&(mH c k2 q2))
@[go_sem] def pr:List SV→Option Con:=(pD .clause fun c=>(pX .int fun q0=>(pXF 166 (pXX .pleasCourt fun k2=>(pX .int fun q2=>(pE ((pE (.det True (.v (.bool (mI c q0 k2 q2))))))))))))
theorem uG:FnOk Tryz.prog 207 pr:=by
 have hG:ConsOk Tryz.prog (mkG [(166,fun l=>pn (bo [.st .clause,.o,.o] l))] []):=ap (cgc (uF.norm [.st .clause,.o,.o]) cg0) cg0;refine aw [.o] mixed al hG (fn:=Tryz.f207) (c:=ae Tryz.f207) kr kr kr kr (bt fun c=>(aQ fun q0=>(kw (bv fun k2=>(aQ fun q2=>(ai ((ai (fun hp=>?_)))))))));dsimp only[ar]at hp;refine⟨nbl rfl,L0,ag _,?_⟩
 ·unfold ae Tryz.f207;try unfold mI
  exact zq1
def mJ (c:Clause)(q0:Int)(k2:PleasCourt)(q2:Int):Bool:=((c.then_==q0)&&(jX c k2 q2))
@[go_sem] def pt:List SV→Option Con:=(pD .clause fun c=>(pX .int fun q0=>(pXF 174 (pXX .pleasCourt fun k2=>(pX .int fun q2=>(pE ((pE (.det True (.v (.bool (mJ c q0 k2 q2))))))))))))
theorem uH:FnOk Tryz.prog 207 pt:=by
 have hG:ConsOk Tryz.prog (mkG [(174,fun l=>nk (bo [.st .clause,.o,.o] l))] []):=ap (cgc (sK.norm [.st .clause,.o,.o]) cg0) cg0;refine aw [.o] mixed al hG (fn:=Tryz.f207) (c:=ae Tryz.f207) kr kr kr kr (bt fun c=>(aQ fun q0=>(kw (bv fun k2=>(aQ fun q2=>(ai ((ai (fun hp=>?_)))))))));dsimp only[ar]at hp;refine⟨nbl rfl,L0,ag _,?_⟩
 ·unfold ae Tryz.f207;try unfold mJ
  exact zq1
@[go_sem] noncomputable def iQ:List SV→Option Con:=fun l=>(orC (kK l) (orC (kL l) (orC (kM l) (orC (kO l) (orC (pr l) (pt l))))))
theorem pu:FnOk Tryz.prog 207 iQ:=(FnOk.or oJ (FnOk.or oK (FnOk.or oL (FnOk.or oM (FnOk.or uG uH)))))
@[go_sem] def fW (s_:List Clause)(q0:Int)(k2:PleasCourt)(q2:Int)(k_0:Nat)(s_0:Unit):Int⊕Unit:=(bif(mI (s_.getD k_0 default) q0 k2 q2)then .inl (k_0:Int)else .inr ())
def eh (s_:List Clause)(q0:Int)(k2:PleasCourt)(q2:Int):Int:=(match aq (fW s_ q0 k2 q2) s_.length 0 ()with| .inl x_0_0=>x_0_0| .inr s_0=>(-1))
@[go_sem] def dT:List SV→Option Con:=(pR .clause fun s_=>(pFn 207 (pX .int fun q0=>(pXF 166 (pXX .pleasCourt fun k2=>(pX .int fun q2=>(pE ((pE ((pE (.det True (.v (.int .i64 (eh s_ q0 k2 q2)))))))))))))))
theorem R9 {p:Prop}(h:p:=by simp only[go_sem,Nat.reduceBEq,Nat.reduceLeDiff,Nat.reduceLT,decide_true,Nat.reduceAdd,Nat.reduceSub,Nat.reduceMul,Int.reduceLE,Int.reduceLT,Int.reduceToNat,Int.reduceNeg,reduceCtorEq,iQ];all_goals exact cl):p:=h
theorem fX:FnOk Tryz.prog 156 dT:=by
 have hG:ConsOk Tryz.prog (mkG [(207,fun l=>iQ (bo [.st .clause,.o,.o] l))] []):=ap (cgc (pu.norm [.st .clause,.o,.o]) cg0) cg0;refine aw [.o] mixed al hG (fn:=Tryz.f156) (c:=ae Tryz.f156) kr kr kr kr (bJ fun s_=>(bu (aQ fun q0=>(kw (bv fun k2=>(aQ fun q2=>(ai ((ai ((ai (fun hp=>?_))))))))))));dsimp only[ar]at hp;refine⟨nbl rfl,(fun id st=>bif Nat.beq id 0 then some (LCR (ρ:=Int) (σ:=Unit) 0 [] [] (fun k_0 s_0=>⟨[(0,.rs .clause s_),(1,.fn 207 [] [.ep [.v (.int .i64 q0)] 0,.ep [.fn 166 [] [.ep [.ep (cellsOf .pleasCourt k2) 0] 0,.ep [.v (.int .i64 q2)] 0]] 0]),(7,.v (.int .i64 (s_.length:Int))),(8,.v (.int .i64 (k_0:Int)))],[]⟩) (fW s_ q0 k2 q2) pT s_.length () (s_.length≤aH) (fun _=>.ret) (fun x_0_0=>⟨[(4,.v (.int .i64 x_0_0))],[]⟩) st)else none),?_,?_⟩
 ·unfold ae Tryz.f156;simp only[am,true_and,and_true]
  ·refine aY mixed al hG kr (fun _=>rfl) (s_.length:Int) rfl ig (fun hb0 k_0 s_0 hlt0 _ hw hc=>⟨L0,ag _,?_⟩) (fun hb0 s_0 hc=>?_)
   ·exact bX (jl [])
   ·exact bP (jl [])
 ·unfold ae Tryz.f156;try unfold eh
  exact R9
@[go_sem] def fY (s_:List Clause)(q0:Int)(k2:PleasCourt)(q2:Int)(k_0:Nat)(s_0:Unit):Int⊕Unit:=(bif(mJ (s_.getD k_0 default) q0 k2 q2)then .inl (k_0:Int)else .inr ())
def ei (s_:List Clause)(q0:Int)(k2:PleasCourt)(q2:Int):Int:=(match aq (fY s_ q0 k2 q2) s_.length 0 ()with| .inl x_0_0=>x_0_0| .inr s_0=>(-1))
@[go_sem] def dU:List SV→Option Con:=(pR .clause fun s_=>(pFn 207 (pX .int fun q0=>(pXF 174 (pXX .pleasCourt fun k2=>(pX .int fun q2=>(pE ((pE ((pE (.det True (.v (.int .i64 (ei s_ q0 k2 q2)))))))))))))))
theorem fZ:FnOk Tryz.prog 156 dU:=by
 have hG:ConsOk Tryz.prog (mkG [(207,fun l=>iQ (bo [.st .clause,.o,.o] l))] []):=ap (cgc (pu.norm [.st .clause,.o,.o]) cg0) cg0;refine aw [.o] mixed al hG (fn:=Tryz.f156) (c:=ae Tryz.f156) kr kr kr kr (bJ fun s_=>(bu (aQ fun q0=>(kw (bv fun k2=>(aQ fun q2=>(ai ((ai ((ai (fun hp=>?_))))))))))));dsimp only[ar]at hp;refine⟨nbl rfl,(fun id st=>bif Nat.beq id 0 then some (LCR (ρ:=Int) (σ:=Unit) 0 [] [] (fun k_0 s_0=>⟨[(0,.rs .clause s_),(1,.fn 207 [] [.ep [.v (.int .i64 q0)] 0,.ep [.fn 174 [] [.ep [.ep (cellsOf .pleasCourt k2) 0] 0,.ep [.v (.int .i64 q2)] 0]] 0]),(7,.v (.int .i64 (s_.length:Int))),(8,.v (.int .i64 (k_0:Int)))],[]⟩) (fY s_ q0 k2 q2) pT s_.length () (s_.length≤aH) (fun _=>.ret) (fun x_0_0=>⟨[(4,.v (.int .i64 x_0_0))],[]⟩) st)else none),?_,?_⟩
 ·unfold ae Tryz.f156;simp only[am,true_and,and_true]
  ·refine aY mixed al hG kr (fun _=>rfl) (s_.length:Int) rfl ig (fun hb0 k_0 s_0 hlt0 _ hw hc=>⟨L0,ag _,?_⟩) (fun hb0 s_0 hc=>?_)
   ·exact bX (jl [])
   ·exact bP (jl [])
 ·unfold ae Tryz.f156;try unfold ei
  exact R9
@[go_sem] noncomputable def ct:List SV→Option Con:=fun l=>(orC (bk l) (orC (ce l) (orC (cg l) (orC (ci l) (orC (cj l) (orC (dT l) (dU l)))))))
theorem gm:FnOk Tryz.prog 156 ct:=(FnOk.or b8 (FnOk.or dA (FnOk.or dB (FnOk.or dC (FnOk.or dD (FnOk.or fX fZ))))))
def dJ (s_:List Clause)(q0:Int)(k2:PleasCourt)(q2:Int):Bool:=(decide ((eh s_ q0 k2 q2)≥0))
@[go_sem] def di:List SV→Option Con:=(pR .clause fun s_=>(pFn 207 (pX .int fun q0=>(pXF 166 (pXX .pleasCourt fun k2=>(pX .int fun q2=>(pE ((pE ((pE (.det True (.v (.bool (dJ s_ q0 k2 q2)))))))))))))))
theorem R_ {p:Prop}(h:p:=by simp only[go_sem,Nat.reduceBEq,Nat.reduceLeDiff,Nat.reduceLT,decide_true,Nat.reduceAdd,Nat.reduceSub,Nat.reduceMul,Int.reduceLE,Int.reduceLT,Int.reduceToNat,Int.reduceNeg,reduceCtorEq,ct];all_goals exact cl):p:=h
theorem ft:FnOk Tryz.prog 116 di:=by
 have hG:ConsOk Tryz.prog (mkG [(156,fun l=>ct (bo [.sl .clause,.o] l))] []):=ap (cgc (gm.norm [.sl .clause,.o]) cg0) cg0;refine aw [.o] mixed al hG (fn:=Tryz.f116) (c:=ae Tryz.f116) kr kr kr kr (bJ fun s_=>(bu (aQ fun q0=>(kw (bv fun k2=>(aQ fun q2=>(ai ((ai ((ai (fun hp=>?_))))))))))));dsimp only[ar]at hp;refine⟨nbl rfl,L0,ag _,?_⟩
 ·unfold ae Tryz.f116;try unfold dJ
  exact R_
def dL (s_:List Clause)(q0:Int)(k2:PleasCourt)(q2:Int):Bool:=(decide ((ei s_ q0 k2 q2)≥0))
@[go_sem] def dp:List SV→Option Con:=(pR .clause fun s_=>(pFn 207 (pX .int fun q0=>(pXF 174 (pXX .pleasCourt fun k2=>(pX .int fun q2=>(pE ((pE ((pE (.det True (.v (.bool (dL s_ q0 k2 q2)))))))))))))))
theorem fu:FnOk Tryz.prog 116 dp:=by
 have hG:ConsOk Tryz.prog (mkG [(156,fun l=>ct (bo [.sl .clause,.o] l))] []):=ap (cgc (gm.norm [.sl .clause,.o]) cg0) cg0;refine aw [.o] mixed al hG (fn:=Tryz.f116) (c:=ae Tryz.f116) kr kr kr kr (bJ fun s_=>(bu (aQ fun q0=>(kw (bv fun k2=>(aQ fun q2=>(ai ((ai ((ai (fun hp=>?_))))))))))));dsimp only[ar]at hp;refine⟨nbl rfl,L0,ag _,?_⟩
 ·unfold ae Tryz.f116;try unfold dL
  exact R_
@[go_sem] noncomputable def bY:List SV→Option Con:=fun l=>(orC (bR l) (orC (bS l) (orC (bT l) (orC (bU l) (orC (di l) (dp l))))))
theorem fC:FnOk Tryz.prog 116 bY:=(FnOk.or c8 (FnOk.or c9 (FnOk.or da (FnOk.or db (FnOk.or ft fu)))))
def oD (k_:PleasCourt)(q:Int)(k2:PleasCourt)(q2:Int):Bool:=(dJ k_.plea.clauses q k2 q2)
@[go_sem] def qZ:List SV→Option Con:=(pX .pleasCourt fun k_=>(pI fun q=>(pFn 166 (pXX .pleasCourt fun k2=>(pX .int fun q2=>(pE ((pE (.det True (.v (.bool (oD k_ q k2 q2))))))))))))
theorem Sa {p:Prop}(h:p:=by simp only[go_sem,Nat.reduceBEq,Nat.reduceLeDiff,Nat.reduceLT,decide_true,Nat.reduceAdd,Nat.reduceSub,Nat.reduceMul,Int.reduceLE,Int.reduceLT,Int.reduceToNat,Int.reduceNeg,reduceCtorEq,bY];all_goals exact cl):p:=h
theorem vL:FnOk Tryz.prog 164 qZ:=by
 have hG:ConsOk Tryz.prog (mkG [(116,fun l=>bY (bo [.sl .clause,.o] l))] []):=ap (cgc (fC.norm [.sl .clause,.o]) cg0) cg0;refine aw [.o] mixed al hG (fn:=Tryz.f164) (c:=ae Tryz.f164) kr kr kr kr (aQ fun k_=>(dh fun q=>(bu (bv fun k2=>(aQ fun q2=>(ai ((ai (fun hp=>?_)))))))));dsimp only[ar]at hp;refine⟨nbl rfl,L0,ag _,?_⟩
 ·unfold ae Tryz.f164;try unfold oD
  exact Sa
def oE (k_:PleasCourt)(q:Int)(k2:PleasCourt)(q2:Int):Bool:=(dL k_.plea.clauses q k2 q2)
@[go_sem] def q_:List SV→Option Con:=(pX .pleasCourt fun k_=>(pI fun q=>(pFn 174 (pXX .pleasCourt fun k2=>(pX .int fun q2=>(pE ((pE (.det True (.v (.bool (oE k_ q k2 q2))))))))))))
theorem vM:FnOk Tryz.prog 164 q_:=by
 have hG:ConsOk Tryz.prog (mkG [(116,fun l=>bY (bo [.sl .clause,.o] l))] []):=ap (cgc (fC.norm [.sl .clause,.o]) cg0) cg0;refine aw [.o] mixed al hG (fn:=Tryz.f164) (c:=ae Tryz.f164) kr kr kr kr (aQ fun k_=>(dh fun q=>(bu (bv fun k2=>(aQ fun q2=>(ai ((ai (fun hp=>?_)))))))));dsimp only[ar]at hp;refine⟨nbl rfl,L0,ag _,?_⟩
 ·unfold ae Tryz.f164;try unfold oE
  exact Sa
@[go_sem] noncomputable def ii:List SV→Option Con:=fun l=>(orC (mD l) (orC (mE l) (orC (mF l) (orC (mG l) (orC (qZ l) (q_ l))))))
theorem mK:FnOk Tryz.prog 164 ii:=(FnOk.or pN (FnOk.or pO (FnOk.or pP (FnOk.or pY (FnOk.or vL vM)))))
def kP (k_:PleasCourt)(q:Int):Bool:=(bif(gz .int .bool k_.strict q)then true else(bif((gz .int .bool k_.strict (i64.wrap (0 - q))) ||(!(oz k_ q k_)))then false else(!(oD k_ (i64.wrap (0 - q)) k_ q))))
@[go_sem] def re:List SV→Option Con:=(pX .pleasCourt fun k_=>(pI fun q=>(pE (.det True (.v (.bool (kP k_ q)))))))
theorem Ol {p:Prop}(h:p:=by simp only[go_sem,Nat.reduceBEq,Nat.reduceLeDiff,Nat.reduceLT,decide_true,Nat.reduceAdd,Nat.reduceSub,Nat.reduceMul,Int.reduceLE,Int.reduceLT,Int.reduceToNat,Int.reduceNeg,reduceCtorEq,ii];all_goals exact cl):p:=h
theorem vN:FnOk Tryz.prog 132 re:=by
 have hG:ConsOk Tryz.prog (mkG [(164,ii)] []):=ap (cgc mK cg0) cg0;refine aw [.o] mixed al hG (fn:=Tryz.f132) (c:=ae Tryz.f132) kr kr kr kr (aQ fun k_=>(dh fun q=>(ai (fun hp=>?_))));dsimp only[ar]at hp;refine⟨nbl rfl,L0,ag _,?_⟩
 ·unfold ae Tryz.f132;try unfold kP
  exact Ol
def lz (k_:PleasCourt)(q:Int):Bool:=(gz .int .bool k_.strict (i64.wrap (0 - q)))
@[go_sem] def oN:List SV→Option Con:=(pXX .pleasCourt fun k_=>(pX .int fun q=>(pE (.det True (.v (.bool (lz k_ q)))))))
theorem tX:FnOk Tryz.prog 170 oN:=by
 have hG:ConsOk Tryz.prog (mkG [] []):=ap cg0 cg0;refine aw [.o] mixed al hG (fn:=Tryz.f170) (c:=ae Tryz.f170) kr kr kr kr (bv fun k_=>(aQ fun q=>(ai (fun hp=>?_))));dsimp only[ar]at hp;refine⟨nbl rfl,L0,ag _,?_⟩
 ·unfold ae Tryz.f170;try unfold lz
  exact zq1
def lA (k_:PleasCourt)(q:Int):Bool:=(!(oB k_ q k_))
@[go_sem] def oO:List SV→Option Con:=(pXX .pleasCourt fun k_=>(pX .int fun q=>(pE (.det True (.v (.bool (lA k_ q)))))))
theorem tY:FnOk Tryz.prog 171 oO:=by
 have hG:ConsOk Tryz.prog (mkG [(164,ii)] []):=ap (cgc mK cg0) cg0;refine aw [.o] mixed al hG (fn:=Tryz.f171) (c:=ae Tryz.f171) kr kr kr kr (bv fun k_=>(aQ fun q=>(ai (fun hp=>?_))));dsimp only[ar]at hp;refine⟨nbl rfl,L0,ag _,?_⟩
 ·unfold ae Tryz.f171;try unfold lA
  exact Ol
def lB (k_:PleasCourt)(q:Int):Bool:=(oE k_ (i64.wrap (0 - q)) k_ q)
@[go_sem] def oP:List SV→Option Con:=(pXX .pleasCourt fun k_=>(pX .int fun q=>(pE (.det True (.v (.bool (lB k_ q)))))))
theorem tZ:FnOk Tryz.prog 173 oP:=by
 have hG:ConsOk Tryz.prog (mkG [(164,ii)] []):=ap (cgc mK cg0) cg0;refine aw [.o] mixed al hG (fn:=Tryz.f173) (c:=ae Tryz.f173) kr kr kr kr (bv fun k_=>(aQ fun q=>(ai (fun hp=>?_))));dsimp only[ar]at hp;refine⟨nbl rfl,L0,ag _,?_⟩
 ·unfold ae Tryz.f173;try unfold lB
  exact Ol
@[go_sem] def CE (x:Int):List SV:=[.v (.int .i64 x)]
@[go_sem] def qn:List SV→Option Con:=(pE (.det True (.fn 159 [] [])))
theorem tI:FnOk Tryz.prog 119 qn:=by
 have hG:ConsOk Tryz.prog (mkG [] []):=ap cg0 cg0;refine aw [.o] mixed al hG (fn:=Tryz.f119) (c:=ae Tryz.f119) kr kr kr kr (ai (fun hp=>?_));refine⟨nbl rfl,L0,ag _,?_⟩;unfold ae Tryz.f119;simp only[go_sem,GX,GY,Nat.reduceBEq,Nat.reduceLeDiff,Nat.reduceAdd,Nat.reduceSub,Nat.reduceMul]
@[go_sem] def ij (k_0:Nat)(s_0:List Int×Int):(List Int)⊕(List Int×Int):=(bif(decide (s_0.2≤32))then(bif(s_0.2 !=0)then .inr ((s_0.1++[s_0.2]),(i64.wrap (s_0.2+1)))else .inr (s_0.1,(i64.wrap (s_0.2+1))))else .inl s_0.1)
def lC (items_:List (List SV))(k_0:Nat)(s_0:List Int×Int):Prop:=((decide (s_0.2≤32))=true→(((s_0.2 !=0)=true→(items_[s_0.1.length]? =some (CE s_0.2)))∧((s_0.2 !=0)=false→((s_0.2 !=0)=false))))
def aR:List Int:=(match aq (ij) 66 0 (([]:List Int),(-32))with| .inl x_0_0=>x_0_0| .inr s_0=>default)
def eK (items_:List (List SV)):Prop:=(okI (ij) (lC items_) 66 0 (([]:List Int),(-32))∧(∀ z_,aq (ij) 66 0 (([]:List Int),(-32))≠ .inr z_)∧(∀ x_0_0,aq (ij) 66 0 (([]:List Int),(-32))=.inl x_0_0→(items_.length=x_0_0.length)))
theorem rU (items_:List (List SV))(hp:eK items_):Gx Tryz.prog 159 (fun y=>[y]) [] items_:=by
 unfold eK at hp;refine N2 mixed al (fn:=Tryz.f159) (c:=ae Tryz.f159) kr kr kr kr rfl (n:=0) rfl (G:=fun r_=>ER [] [] (Lt items_ r_)) (fun r_ hy=>?_) (fun args w=>by kernel_rfl);have hG:ConsOk Tryz.prog (ER [] [] (Lt items_ r_)):=ES cg0 cg0 hy;refine⟨hG,nbl rfl,(fun id st=>bif Nat.beq id 0 then some (Ua (ρ:=(List Int)) (σ:=(List Int×Int)) 1 [] [0] (fun k_0 s_0=>⟨[(0,.os 0),(2,.v (.int .i64 s_0.2))],[.ab (r_.1 (s_0.1.length+1))]⟩) (ij) (lC items_) 66 (([]:List Int),(-32)) (fun _=>.normal) (fun x_0_0=>⟨[],[.ab (r_.1 (x_0_0.length+1))]⟩) ⟨[],[.ab (r_.1 0)]⟩ st)else none),?_,?_⟩
 ·unfold ae Tryz.f159;simp only[am,true_and,and_true]
  ·refine Lu mixed al hG kr (fun _=>rfl) fun k_0 s_0 hq0=>⟨L0,ag _,?_⟩
   ·unfold lC at hq0;exact Uf (jl [0])
 ·unfold ae Tryz.f159;exact Uf (jl [0])
def sL (q:Int)(m:List (Int×Bool)):Bool:=(!(gz .int .bool m q))
@[go_sem] def uI:List SV→Option Con:=(pI fun q=>(pXM .int .bool fun m=>(pE (.det True (.v (.bool (sL q m)))))))
theorem y7:FnOk Tryz.prog 158 uI:=by
 have hG:ConsOk Tryz.prog (mkG [] []):=ap cg0 cg0;refine aw [.o] mixed al hG (fn:=Tryz.f158) (c:=ae Tryz.f158) kr kr kr kr (dh fun q=>(E2 fun m=>(ai (fun hp=>?_))));dsimp only[ar]at hp;refine⟨nbl rfl,L0,ag _,?_⟩
 ·unfold ae Tryz.f158;try unfold sL
  exact zq1
@[go_sem] def kp (s_:List Int)(m:List (Int×Bool))(k_0:Nat)(s_0:Unit):Int⊕Unit:=(bif(sL (s_.getD k_0 0) m)then .inl (k_0:Int)else .inr ())
def iJ (s_:List Int)(m:List (Int×Bool)):Int:=(match aq (kp s_ m) s_.length 0 ()with| .inl x_0_0=>x_0_0| .inr s_0=>(-1))
@[go_sem] def lg:List SV→Option Con:=(pR .int fun s_=>(pFn 158 (pXM .int .bool fun m=>(pE ((pE (.det True (.v (.int .i64 (iJ s_ m))))))))))
theorem rf:FnOk Tryz.prog 203 lg:=by
 have hG:ConsOk Tryz.prog (mkG [(158,uI)] []):=ap (cgc y7 cg0) cg0;refine aw [.o] mixed al hG (fn:=Tryz.f203) (c:=ae Tryz.f203) kr kr kr kr (bJ fun s_=>(bu (E2 fun m=>(ai ((ai (fun hp=>?_)))))));dsimp only[ar]at hp;refine⟨nbl rfl,(fun id st=>bif Nat.beq id 0 then some (LCR (ρ:=Int) (σ:=Unit) 0 [] [] (fun k_0 s_0=>⟨[(0,.rs .int s_),(1,.fn 158 [] [.ep [.rm .int .bool m] 0]),(7,.v (.int .i64 (s_.length:Int))),(8,.v (.int .i64 (k_0:Int)))],[]⟩) (kp s_ m) pT s_.length () (s_.length≤aH) (fun _=>.ret) (fun x_0_0=>⟨[(4,.v (.int .i64 x_0_0))],[]⟩) st)else none),?_,?_⟩
 ·unfold ae Tryz.f203;simp only[am,true_and,and_true]
  ·refine aY mixed al hG kr (fun _=>rfl) (s_.length:Int) rfl ig (fun hb0 k_0 s_0 hlt0 _ hw hc=>⟨L0,ag _,?_⟩) (fun hb0 s_0 hc=>?_)
   ·exact bX (jl [])
   ·exact bP (jl [])
 ·unfold ae Tryz.f203;try unfold iJ
  exact zq1
@[go_sem] noncomputable def io:List SV→Option Con:=fun l=>(orC (iH l) (orC (hU l) (lg l)))
theorem rG:FnOk Tryz.prog 203 io:=(FnOk.or lX (FnOk.or ko rf))
def gY (s_:List Int)(m:List (Int×Bool)):Bool:=(decide ((iJ s_ m)≥0))
@[go_sem] def jz:List SV→Option Con:=(pR .int fun s_=>(pFn 158 (pXM .int .bool fun m=>(pE ((pE (.det True (.v (.bool (gY s_ m))))))))))
theorem Yx {p:Prop}(h:p:=by simp only[go_sem,Nat.reduceBEq,Nat.reduceLeDiff,Nat.reduceLT,decide_true,Nat.reduceAdd,Nat.reduceSub,Nat.reduceMul,Int.reduceLE,Int.reduceLT,Int.reduceToNat,Int.reduceNeg,reduceCtorEq,io];all_goals exact cl):p:=h
theorem pw:FnOk Tryz.prog 157 jz:=by
 have hG:ConsOk Tryz.prog (mkG [(203,fun l=>io (bo [.sl .int,.o] l))] []):=ap (cgc (rG.norm [.sl .int,.o]) cg0) cg0;refine aw [.o] mixed al hG (fn:=Tryz.f157) (c:=ae Tryz.f157) kr kr kr kr (bJ fun s_=>(bu (E2 fun m=>(ai ((ai (fun hp=>?_)))))));dsimp only[ar]at hp;refine⟨nbl rfl,L0,ag _,?_⟩
 ·unfold ae Tryz.f157;try unfold gY
  exact Yx
@[go_sem] noncomputable def gN:List SV→Option Con:=fun l=>(orC (gW l) (orC (gF l) (jz l)))
theorem pG:FnOk Tryz.prog 157 gN:=(FnOk.or jT (FnOk.or jf pw))
@[go_sem] def oc (p:Plea)(k_0:Nat)(s_0:List (Int×Bool)):Empty⊕(List (Int×Bool)):=.inr (lN .int .bool s_0 (p.facts.getD k_0 0) true)
@[go_sem] def vD (p:Plea)(s_1:List (Int×Bool))(k_2:Nat)(s_2:Unit):(List (Int×Bool))⊕Unit:=letI q0:=p.clauses.getD k_2 default;(bif((q0.strict&&(!(gz .int .bool s_1 (q0.then_))))&&(!(gY (q0.if_) s_1)))then .inl (lN .int .bool s_1 (q0.then_) true)else .inr ())
@[go_sem] def rH (p:Plea)(k_1:Nat)(s_1:List (Int×Bool)):(List (Int×Bool))⊕(List (Int×Bool)):=(match aq (vD p s_1) p.clauses.length 0 ()with| .inl x_2_0=>.inr x_2_0| .inr s_2=>.inl s_1)
def fB (p:Plea):List (Int×Bool):=(match aq (oc p) p.facts.length 0 ([])with| .inl x=>x.elim| .inr s_0=>(match aq (rH p) (p.clauses.length+1) 0 s_0 with| .inl x_1_0=>x_1_0| .inr s_1=>default))
def iK (p:Plea):Prop:=(p.facts.length≤aH→(∀ s_0,aq (oc p) p.facts.length 0 ([])=.inr s_0→(∀ z_,aq (rH p) (p.clauses.length+1) 0 s_0≠ .inr z_)))
@[go_sem] def sM:List SV→Option Con:=(pD .plea fun p=>(pE (.det (iK p) (.nm .int .bool (fB p)))))
theorem Yy {p:Prop}(h:p:=by simp only[go_sem,Nat.reduceBEq,Nat.reduceLeDiff,Nat.reduceLT,decide_true,Nat.reduceAdd,Nat.reduceSub,Nat.reduceMul,Int.reduceLE,Int.reduceLT,Int.reduceToNat,Int.reduceNeg,reduceCtorEq,gN];all_goals exact cl):p:=h
theorem vE:FnOk Tryz.prog 118 sM:=by
 have hG:ConsOk Tryz.prog (mkG [(157,fun l=>gN (bo [.sl .int,.o] l))] []):=ap (cgc (pG.norm [.sl .int,.o]) cg0) cg0;refine MR true mixed al hG (fn:=Tryz.f118) (c:=ae Tryz.f118) kr kr kr kr (bt fun p=>(ai (fun hp=>?_)));dsimp only[ar]at hp;unfold iK at hp;refine⟨nbl rfl,(fun id st=>bif Nat.beq id 0 then some (LCR (ρ:=Empty) (σ:=(List (Int×Bool))) 3 [] [0,1,2] (fun k_0 s_0=>⟨[(1,.ptr 0 0),(3,.ptr 2 0),(11,.rs .int p.facts),(12,.v (.int .i64 (p.facts.length:Int))),(13,.v (.int .i64 (k_0:Int)))],[.cells (cellsOf .plea p),.mp .int .bool s_0 none,.cells [.os 1]]⟩) (oc p) pT p.facts.length ([]) (p.facts.length≤aH) ((·.elim)) ((·.elim)) st)else bif Nat.beq id 2 then some (LCV (ρ:=(List (Int×Bool))) (σ:=(List (Int×Bool))) 3 [] [0,1,2] (fun k_1 s_1=>⟨[(1,.ptr 0 0),(3,.ptr 2 0)],[.cells (cellsOf .plea p),.mp .int .bool s_1 none,.cells [.os 1]]⟩) (rH p) pT (p.clauses.length+1) (et (aq (oc p) p.facts.length 0 ([]))) (fun _=>.ret) (fun x_1_0=>⟨[(2,.os 3)],[.dead,.dead,.dead,.mp .int .bool x_1_0 none]⟩) st)else none),?_,?_⟩
 ·unfold ae Tryz.f118;simp only[am,true_and,and_true];refine⟨?_,?_⟩
  ·refine aY mixed al hG kr (fun _=>rfl) (p.facts.length:Int) rfl ig (fun hb0 k_0 s_0 hlt0 _ hw hc=>⟨L0,ag _,?_⟩) (fun hb0 s_0 hc=>?_)
   ·exact bX (jl [0,1,2])
   ·exact bP (jl [0,1,2])
  ·refine uu mixed al hG kr (fun _=>rfl) fun k_1 s_1 _=>⟨(fun id st=>bif Nat.beq id 4 then some (LCR (ρ:=(List (Int×Bool))) (σ:=Unit) 3 [] [0,1,2] (fun k_2 s_2=>⟨[(1,.ptr 0 0),(3,.ptr 2 0),(21,.rs .clause p.clauses),(22,.v (.int .i64 (p.clauses.length:Int))),(23,.v (.int .i64 (k_2:Int)))],[.cells (cellsOf .plea p),.mp .int .bool s_1 none,.cells [.os 1]]⟩) (vD p s_1) pT p.clauses.length () (p.clauses.length≤aH) (fun _=>.exit 3) (fun x_2_0=>⟨[(1,.ptr 0 0),(3,.ptr 2 0)],[.cells (cellsOf .plea p),.mp .int .bool x_2_0 none,.cells [.os 1]]⟩) st)else none),?_,?_⟩
   ·simp only[am,true_and,and_true]
    ·refine aY mixed al hG kr (fun _=>rfl) (p.clauses.length:Int) rfl ig (fun hb2 k_2 s_2 hlt2 _ hw hc=>⟨L0,ag _,?_⟩) (fun hb2 s_2 hc=>?_)
     ·exact bX (jl [0,1,2])
     ·exact bP (jl [0,1,2])
   ·exact GZ (jl [0,1,2]) (jl [0,1,2,1])
 ·unfold ae Tryz.f118;try unfold fB
  exact Yy
@[go_sem] def f5 (s_:List Clause)(k_0:Nat)(s_0:Unit):Int⊕Unit:=(bif(tW (s_.getD k_0 default))then .inl (k_0:Int)else .inr ())
def eo (s_:List Clause):Int:=(match aq (f5 s_) s_.length 0 ()with| .inl x_0_0=>x_0_0| .inr s_0=>(-1))
@[go_sem] def gq:List SV→Option Con:=(pR .clause fun s_=>(pFn 115 (pE ((pE (.det True (.v (.int .i64 (eo s_)))))))))
theorem kc:FnOk Tryz.prog 156 gq:=by
 have hG:ConsOk Tryz.prog (mkG [(115,fun l=>vC (bo [.st .clause] l))] []):=ap (cgc (zS.norm [.st .clause]) cg0) cg0;refine aw [.o] mixed al hG (fn:=Tryz.f156) (c:=ae Tryz.f156) kr kr kr kr (bJ fun s_=>(bu (ai ((ai (fun hp=>?_))))));dsimp only[ar]at hp;refine⟨nbl rfl,(fun id st=>bif Nat.beq id 0 then some (LCR (ρ:=Int) (σ:=Unit) 0 [] [] (fun k_0 s_0=>⟨[(0,.rs .clause s_),(1,.fn 115 [] []),(7,.v (.int .i64 (s_.length:Int))),(8,.v (.int .i64 (k_0:Int)))],[]⟩) (f5 s_) pT s_.length () (s_.length≤aH) (fun _=>.ret) (fun x_0_0=>⟨[(4,.v (.int .i64 x_0_0))],[]⟩) st)else none),?_,?_⟩
 ·unfold ae Tryz.f156;simp only[am,true_and,and_true]
  ·refine aY mixed al hG kr (fun _=>rfl) (s_.length:Int) rfl ig (fun hb0 k_0 s_0 hlt0 _ hw hc=>⟨L0,ag _,?_⟩) (fun hb0 s_0 hc=>?_)
   ·exact bX (jl [])
   ·exact bP (jl [])
 ·unfold ae Tryz.f156;try unfold eo
  exact zq1
@[go_sem] noncomputable def dX:List SV→Option Con:=fun l=>(orC (bk l) (orC (ce l) (orC (cg l) (orC (ci l) (orC (cj l) (orC (dT l) (orC (dU l) (gq l))))))))
theorem kQ:FnOk Tryz.prog 156 dX:=(FnOk.or b8 (FnOk.or dA (FnOk.or dB (FnOk.or dC (FnOk.or dD (FnOk.or fX (FnOk.or fZ kc)))))))
def b9 (s_:List Clause):Bool:=(decide ((eo s_)≥0))
@[go_sem] def fD:List SV→Option Con:=(pR .clause fun s_=>(pFn 115 (pE ((pE (.det True (.v (.bool (b9 s_)))))))))
theorem Yz {p:Prop}(h:p:=by simp only[go_sem,Nat.reduceBEq,Nat.reduceLeDiff,Nat.reduceLT,decide_true,Nat.reduceAdd,Nat.reduceSub,Nat.reduceMul,Int.reduceLE,Int.reduceLT,Int.reduceToNat,Int.reduceNeg,reduceCtorEq,dX];all_goals exact cl):p:=h
theorem jt:FnOk Tryz.prog 116 fD:=by
 have hG:ConsOk Tryz.prog (mkG [(156,fun l=>dX (bo [.sl .clause,.o] l))] []):=ap (cgc (kQ.norm [.sl .clause,.o]) cg0) cg0;refine aw [.o] mixed al hG (fn:=Tryz.f116) (c:=ae Tryz.f116) kr kr kr kr (bJ fun s_=>(bu (ai ((ai (fun hp=>?_))))));dsimp only[ar]at hp;refine⟨nbl rfl,L0,ag _,?_⟩
 ·unfold ae Tryz.f116;try unfold b9
  exact Yz
@[go_sem] noncomputable def be:List SV→Option Con:=fun l=>(orC (bR l) (orC (bS l) (orC (bT l) (orC (bU l) (orC (di l) (orC (dp l) (fD l)))))))
theorem jC:FnOk Tryz.prog 116 be:=(FnOk.or c8 (FnOk.or c9 (FnOk.or da (FnOk.or db (FnOk.or ft (FnOk.or fu jt))))))
@[go_sem] def sN (a0:Plea)(k_0:Nat)(s_0:Bool×Int):Empty⊕(Bool×Int):=letI q0:=a0.clauses.getD k_0 default;.inr (((((((s_0.1&&(decide (q0.no > s_0.2)))&&(decide (q0.no≤1048576)))&&(ix (q0.then_)))&&(decide (q0.rank≥0)))&&(decide (q0.rank≤1048576)))&&(nc (q0.if_))),q0.no)
def jY (a0:Plea)(k_0:Nat)(s_0:Bool×Int):Prop:=letI q0:=a0.clauses.getD k_0 default;((((((s_0.1&&(decide (q0.no > s_0.2)))&&(decide (q0.no≤1048576)))&&(ix (q0.then_)))&&(decide (q0.rank≥0)))&&(decide (q0.rank≤1048576)))=true→(jS (q0.if_)))
@[go_sem] def px (a0:Plea)(z_1:Int)(s_1:Unit):Unit⊕Unit:=(bif((gz .int .bool (fB a0) z_1)&&(gz .int .bool (fB a0) (i64.wrap (0 - z_1))))then .inl ()else .inr ())
def zT (a0:Plea)(z_1:Int)(s_1:Unit):Prop:=True
def jg (a0:Plea):Int:=(bif(((decide ((a0.facts.length:Int) > 64)) ||(decide ((a0.clauses.length:Int) > 64))) ||(b9 a0.clauses))then 2 else(match aq (sN a0) a0.clauses.length 0 ((nc a0.facts),(-1))with| .inl x=>x.elim| .inr s_0=>(bif(!s_0.1)then 510 else(match ny (px a0) aR ()with| .inl x_1_0=>510| .inr s_1=>0))))
def ju (a0:Plea):Prop:=letI q0:=((nc a0.facts),(-1));letI q1:=sN a0;(a0.facts.length≤aH→((((decide ((a0.facts.length:Int) > 64)) ||(decide ((a0.clauses.length:Int) > 64))) ||(b9 a0.clauses))=false→((jS a0.facts)∧(a0.clauses.length≤aH→(okI q1 (jY a0) a0.clauses.length 0 q0∧(∀ s_0,aq q1 a0.clauses.length 0 q0=.inr s_0→((!s_0.1)=false→((iK a0)∧(eK ((aR).map CE))))))))))
@[go_sem] def qA:List SV→Option Con:=(pD .plea fun a0=>(pE (.det (ju a0) (.v (.int .i64 (jg a0))))))
theorem YA {l0:List Nat}(a0:JL l0){p:Prop}(h:JL l0→p:=by intro ja;simp only[go_sem,Nat.reduceBEq,Nat.reduceLeDiff,Nat.reduceLT,decide_true,Nat.reduceAdd,Nat.reduceSub,Nat.reduceMul,Int.reduceLE,Int.reduceLT,Int.reduceToNat,Int.reduceNeg,reduceCtorEq,be,px,psT,CE,List.cons_append,List.nil_append];all_goals exact kW ja):p:=h a0
theorem Sb {l0:List Nat}(a0:JL l0){p:Prop}(h:JL l0→p:=by intro ja;simp only[go_sem,Nat.reduceBEq,Nat.reduceLeDiff,Nat.reduceLT,decide_true,Nat.reduceAdd,Nat.reduceSub,Nat.reduceMul,Int.reduceLE,Int.reduceLT,Int.reduceToNat,Int.reduceNeg,reduceCtorEq,be];all_goals exact kW ja):p:=h a0
theorem YB {p:Prop}(h:p:=by simp only[go_sem,Nat.reduceBEq,Nat.reduceLeDiff,Nat.reduceLT,decide_true,Nat.reduceAdd,Nat.reduceSub,Nat.reduceMul,Int.reduceLE,Int.reduceLT,Int.reduceToNat,Int.reduceNeg,reduceCtorEq,be];all_goals exact cl):p:=h
theorem sO:FnOk Tryz.prog 67 qA:=by
 have hG:ConsOk Tryz.prog (mkG [(83,oa),(116,fun l=>be (bo [.sl .clause,.o] l)),(117,fun l=>wM (bo [.sl .int] l)),(118,fun l=>sM (bo [.st .plea] l)),(119,fun l=>qn (bo [] l))] []):=ap (cgc ql (cgc (jC.norm [.sl .clause,.o]) (cgc (AM.norm [.sl .int]) (cgc (vE.norm [.st .plea]) (cgc (tI.norm []) cg0))))) cg0;refine aw [.o] mixed al hG (fn:=Tryz.f67) (c:=ae Tryz.f67) kr kr kr kr (bt fun a0=>(ai (fun hp=>?_)));dsimp only[ar]at hp;unfold ju at hp;refine⟨nbl rfl,(fun id st=>bif Nat.beq id 0 then some (LCR (ρ:=Empty) (σ:=(Bool×Int)) 2 [] [0,1] (fun k_0 s_0=>⟨[(1,.ptr 0 0),(2,.ptr 1 0),(4,.v (.bool s_0.1)),(5,.v (.int .i64 s_0.2)),(30,.rs .clause a0.clauses),(31,.v (.int .i64 (a0.clauses.length:Int))),(32,.v (.int .i64 (k_0:Int)))],[.cells (cellsOf .plea a0),.cells [.v (.int .i64 0)]]⟩) (sN a0) (jY a0) a0.clauses.length ((nc a0.facts),(-1)) (a0.clauses.length≤aH) ((·.elim)) ((·.elim)) st)else bif Nat.beq id 2 then some (LC (ρ:=Unit) (σ:=Unit) (lk 2 st.t=.ptr 1 0∧lk 8 st.t=.ptr 3 0∧lk 75 st.t=.fn 159 [] []∧st.h=[.cells (cellsOf .plea a0),.cells [.v (.int .i64 0)],.mp .int .bool (fB a0) none,.cells [.os 2]]∧eK ((aR).map CE)) (ny (px a0) aR ()) (fun _=>.ret) (fun x_1_0=>⟨[(2,.ptr 1 0),(8,.ptr 3 0)],[.dead,.cells [.v (.int .i64 510)],.mp .int .bool (fB a0) none,.cells [.os 2]]⟩) (fun s_1=>⟨[(2,.ptr 1 0),(8,.ptr 3 0)],[.dead,.cells [.v (.int .i64 0)],.mp .int .bool (fB a0) none,.cells [.os 2]]⟩))else none),?_,?_⟩
 ·unfold ae Tryz.f67;simp only[am,true_and,and_true];refine⟨?_,?_⟩
  ·refine aY mixed al hG kr (fun _=>rfl) (a0.clauses.length:Int) rfl ig (fun hb0 k_0 s_0 hlt0 hq0 hw hc=>⟨L0,ag _,?_⟩) (fun hb0 s_0 hc=>?_)
   ·unfold jY at hq0;try simp only[hw,Int.toNat_natCast]at hq0
    exact bX (jl [0,1])
   ·exact bP (jl [0,1])
  ·refine zA mixed al hG (by decide) (by decide) kr kr fun st lc hC hp=>?_;simp only[go_sem,Nat.reduceBEq,Option.some.injEq]at hC;subst hC;obtain⟨t,h⟩:=st;dsimp only[LC]at hp;obtain⟨e1_0,e1_1,e1_2,rfl,hb1⟩:=hp;refine⟨159,[],Int,_,_,aR,CE,(px a0),(zT a0),_,(),_,_,_,[(2,.ptr 1 0),(8,.ptr 3 0)],(fun s_1=>[.dead,.cells [.v (.int .i64 0)],.mp .int .bool (fB a0) none,.cells [.os 2]]),(fun x_1_0=>[.dead,.cells [.v (.int .i64 510)],.mp .int .bool (fB a0) none,.cells [.os 2]]),[0,1,2,3],?_,rfl,JU _ _ fun _ _ _=>trivial,nbl rfl,?_,rU _ hb1,fun z_1 s_1 hq1=>⟨rfl,L0,fun l=>?_,fun l=>?_,?_⟩,fun s_1=>?_,fun y=>?_⟩
   ·simp only[go_sem,e1_0,e1_1,e1_2]
   ·simp only[go_sem,Nat.reduceBEq,Nat.reduceLeDiff,Nat.reduceLT,decide_true,Nat.reduceAdd,Nat.reduceSub,Nat.reduceMul,Int.reduceLE,Int.reduceLT,Int.reduceToNat,Int.reduceNeg,reduceCtorEq,wj,oi,List.flatMap_cons,List.flatMap_nil,List.nil_append,List.append_nil,List.map_nil,e1_0,e1_1,e1_2];all_goals (first|done|decide|(repeat' (first|refine And.intro ?_ ?_|rfl|decide)))
   ·simp only[am,and_self,true_and,and_true]
   ·simp only[am,and_self,true_and,and_true]
   ·skip
    exact YA (jl [0,1,2,3])
   ·exact Sb (jl [0,1,2,3])
   ·exact Sb (jl [0,1,2,3])
 ·unfold ae Tryz.f67;try unfold jg
  exact YB
def jZ (k1:PleasCourt)(q1:Int):Bool:=(lz k1 q1)
@[go_sem] def nq:List SV→Option Con:=(pFn 170 (pXX .pleasCourt fun k1=>(pX .int fun q1=>(pE ((pE (.det True (.v (.bool (jZ k1 q1))))))))))
theorem sP:FnOk Tryz.prog 177 nq:=by
 have hG:ConsOk Tryz.prog (mkG [(170,oN)] []):=ap (cgc tX cg0) cg0;refine aw [.o] mixed al hG (fn:=Tryz.f177) (c:=ae Tryz.f177) kr kr kr kr (bu (bv fun k1=>(aQ fun q1=>(ai ((ai (fun hp=>?_)))))));dsimp only[ar]at hp;refine⟨nbl rfl,L0,ag _,?_⟩
 ·unfold ae Tryz.f177;try unfold jZ
  exact zq1
def j3 (k2:PleasCourt)(q2:Int):Bool:=(lA k2 q2)
@[go_sem] def nr:List SV→Option Con:=(pFn 171 (pXX .pleasCourt fun k2=>(pX .int fun q2=>(pE ((pE (.det True (.v (.bool (j3 k2 q2))))))))))
theorem sQ:FnOk Tryz.prog 177 nr:=by
 have hG:ConsOk Tryz.prog (mkG [(171,oO)] []):=ap (cgc tY cg0) cg0;refine aw [.o] mixed al hG (fn:=Tryz.f177) (c:=ae Tryz.f177) kr kr kr kr (bu (bv fun k2=>(aQ fun q2=>(ai ((ai (fun hp=>?_)))))));dsimp only[ar]at hp;refine⟨nbl rfl,L0,ag _,?_⟩
 ·unfold ae Tryz.f177;try unfold j3
  exact zq1
def j4 (k3:PleasCourt)(q3:Int):Bool:=(lB k3 q3)
@[go_sem] def nt:List SV→Option Con:=(pFn 173 (pXX .pleasCourt fun k3=>(pX .int fun q3=>(pE ((pE (.det True (.v (.bool (j4 k3 q3))))))))))
theorem sR:FnOk Tryz.prog 177 nt:=by
 have hG:ConsOk Tryz.prog (mkG [(173,oP)] []):=ap (cgc tZ cg0) cg0;refine aw [.o] mixed al hG (fn:=Tryz.f177) (c:=ae Tryz.f177) kr kr kr kr (bu (bv fun k3=>(aQ fun q3=>(ai ((ai (fun hp=>?_)))))));dsimp only[ar]at hp;refine⟨nbl rfl,L0,ag _,?_⟩
 ·unfold ae Tryz.f177;try unfold j4
  exact zq1
@[go_sem] noncomputable def gP:List SV→Option Con:=fun l=>(orC (nq l) (orC (nr l) (nt l)))
theorem s5:FnOk Tryz.prog 177 gP:=(FnOk.or sP (FnOk.or sQ sR))
@[go_sem] def cH (k1:PleasCourt)(q1:Int)(k2:PleasCourt)(q2:Int)(k3:PleasCourt)(q3:Int)(k_0:Nat)(s_0:Unit):Int⊕Unit:=(bif(Nat.beq k_0 0)then(bif(jZ k1 q1)then .inl 0 else .inr ())else(bif(Nat.beq k_0 1)then(bif(j3 k2 q2)then .inl 1 else .inr ())else(bif(j4 k3 q3)then .inl 2 else .inr ())))
def gD (k1:PleasCourt)(q1:Int)(k2:PleasCourt)(q2:Int)(k3:PleasCourt)(q3:Int)(k_0:Nat)(s_0:Unit):Prop:=True
def eY (k1:PleasCourt)(q1:Int)(k2:PleasCourt)(q2:Int)(k3:PleasCourt)(q3:Int):Int:=(match aq (cH k1 q1 k2 q2 k3 q3) 3 0 ()with| .inl x_0_0=>x_0_0| .inr s_0=>(-1))
@[go_sem] def gZ:List SV→Option Con:=(pLS (pFn 170 (pXX .pleasCourt fun k1=>(pX .int fun q1=>(pE ((pFn 171 (pXX .pleasCourt fun k2=>(pX .int fun q2=>(pE ((pFn 173 (pXX .pleasCourt fun k3=>(pX .int fun q3=>(pE ((pE ((pFn 177 (pE ((pE (.det True (.v (.int .i64 (eY k1 q1 k2 q2 k3 q3))))))))))))))))))))))))))
theorem YC {p:Prop}(h:p:=by simp only[go_sem,Nat.reduceBEq,Nat.reduceLeDiff,Nat.reduceLT,decide_true,Nat.reduceAdd,Nat.reduceSub,Nat.reduceMul,Int.reduceLE,Int.reduceLT,Int.reduceToNat,Int.reduceNeg,reduceCtorEq,gP];all_goals exact cl):p:=h
theorem l8:FnOk Tryz.prog 210 gZ:=by
 have hG:ConsOk Tryz.prog (mkG [(177,gP)] []):=ap (cgc s5 cg0) cg0;refine aw [.o] mixed al hG (fn:=Tryz.f210) (c:=ae Tryz.f210) kr kr kr kr (J1 (bu (bv fun k1=>(aQ fun q1=>(ai ((bu (bv fun k2=>(aQ fun q2=>(ai ((bu (bv fun k3=>(aQ fun q3=>(ai ((ai ((bu (ai ((ai (fun hp=>?_)))))))))))))))))))))));dsimp only[ar]at hp;refine⟨nbl rfl,(fun id st=>bif Nat.beq id 0 then some (LC (ρ:=Int) (σ:=Unit) (lk 0 st.t=.ls [.fn 170 [] [.ep [.ep (cellsOf .pleasCourt k1) 0] 0,.ep [.v (.int .i64 q1)] 0],.fn 171 [] [.ep [.ep (cellsOf .pleasCourt k2) 0] 0,.ep [.v (.int .i64 q2)] 0],.fn 173 [] [.ep [.ep (cellsOf .pleasCourt k3) 0] 0,.ep [.v (.int .i64 q3)] 0]]∧lk 1 st.t=.fn 177 [] []∧lk 7 st.t=.v (.int .i64 3)∧lk 8 st.t=.v (.int .i64 0)∧st.h=[]) (aq (cH k1 q1 k2 q2 k3 q3) 3 0 ()) (fun _=>.ret) (fun x_0_0=>⟨[(4,.v (.int .i64 x_0_0))],[]⟩) (fun s_0=>⟨[],[]⟩))else none),?_,?_⟩
 ·unfold ae Tryz.f210;simp only[am,true_and,and_true]
  ·refine Ld mixed al hG kr fun st lc hC hp=>?_;simp only[go_sem,Nat.reduceBEq,Option.some.injEq]at hC;subst hC;obtain⟨t,h⟩:=st;dsimp only[LC]at hp;obtain⟨e0_0,e0_1,e0_2,e0_3,rfl⟩:=hp;refine⟨_,_,_,(cH k1 q1 k2 q2 k3 q3),(gD k1 q1 k2 q2 k3 q3),3,(),_,_,_,(fun k_0 s_0=>⟨[(0,.ls [.fn 170 [] [.ep [.ep (cellsOf .pleasCourt k1) 0] 0,.ep [.v (.int .i64 q1)] 0],.fn 171 [] [.ep [.ep (cellsOf .pleasCourt k2) 0] 0,.ep [.v (.int .i64 q2)] 0],.fn 173 [] [.ep [.ep (cellsOf .pleasCourt k3) 0] 0,.ep [.v (.int .i64 q3)] 0]]),(1,.fn 177 [] []),(7,.v (.int .i64 3)),(8,.v (.int .i64 (k_0:Int)))],[]⟩),⟨t,[]⟩,[],rfl,lP _ _ _ fun _ _ _ _=>trivial,NilS.refl _,nbl rfl,?_,fun k_0 s_0 hk0 hp0=>?_⟩
   ·simp only[go_sem,Nat.reduceBEq,Nat.reduceLeDiff,Nat.reduceLT,decide_true,Nat.reduceAdd,Nat.reduceSub,Nat.reduceMul,Int.reduceLE,Int.reduceLT,Int.reduceToNat,Int.reduceNeg,reduceCtorEq,e0_0,e0_1,e0_2,e0_3];all_goals (first|done|decide|(repeat' (first|refine And.intro ?_ ?_|rfl|decide)))
   refine⟨L0,?_,?_⟩
   ·simp only[am,and_self,true_and,and_true]
   ·have hkk:k_0=0∨k_0=1∨k_0=2∨k_0=3:=by omega
    have hw0_0:i64.wrap ((0:Int)+1)=((0+1:Nat):Int):=by decide
    have hw0_1:i64.wrap ((1:Int)+1)=((1+1:Nat):Int):=by decide
    have hw0_2:i64.wrap ((2:Int)+1)=((2+1:Nat):Int):=by decide
    rcases hkk with rfl|rfl|rfl|rfl;all_goals try (have hq0:=hp0 (by decide))
    all_goals try unfold gD at hq0
    all_goals try simp only[go_sem,Nat.reduceBEq,Nat.reduceEqDiff,cond_true,cond_false,true_imp_iff,false_imp_iff,Bool.false_eq_true,true_and,and_true,reduceCtorEq]at hq0
    all_goals simp only[go_sem,Nat.reduceBEq,Nat.reduceLeDiff,Nat.reduceLT,decide_true,Nat.reduceAdd,Nat.reduceSub,Nat.reduceMul,Int.reduceLE,Int.reduceLT,Int.reduceToNat,Int.reduceNeg,reduceCtorEq,gP,cH,Int.cast_ofNat_Int,Nat.reduceLT,Nat.reduceEqDiff]
    all_goals exact kW (jl [])
 ·unfold ae Tryz.f210;try unfold eY
  exact YC
def eA (k1:PleasCourt)(q1:Int)(k2:PleasCourt)(q2:Int)(k3:PleasCourt)(q3:Int):Bool:=(decide ((eY k1 q1 k2 q2 k3 q3)≥0))
@[go_sem] def gE:List SV→Option Con:=(pLS (pFn 170 (pXX .pleasCourt fun k1=>(pX .int fun q1=>(pE ((pFn 171 (pXX .pleasCourt fun k2=>(pX .int fun q2=>(pE ((pFn 173 (pXX .pleasCourt fun k3=>(pX .int fun q3=>(pE ((pE ((pFn 177 (pE ((pE (.det True (.v (.bool (eA k1 q1 k2 q2 k3 q3))))))))))))))))))))))))))
theorem kR:FnOk Tryz.prog 176 gE:=by
 have hG:ConsOk Tryz.prog (mkG [(210,gZ)] []):=ap (cgc l8 cg0) cg0;refine aw [.o] mixed al hG (fn:=Tryz.f176) (c:=ae Tryz.f176) kr kr kr kr (J1 (bu (bv fun k1=>(aQ fun q1=>(ai ((bu (bv fun k2=>(aQ fun q2=>(ai ((bu (bv fun k3=>(aQ fun q3=>(ai ((ai ((bu (ai ((ai (fun hp=>?_)))))))))))))))))))))));dsimp only[ar]at hp;refine⟨nbl rfl,L0,ag _,?_⟩
 ·unfold ae Tryz.f176;try unfold eA
  exact zq1
def jE (k_:PleasCourt)(q:Int):Bool:=((!(gz .int .bool k_.strict q))&&(eA k_ q k_ q k_ q))
@[go_sem] def pZ:List SV→Option Con:=(pX .pleasCourt fun k_=>(pI fun q=>(pE (.det True (.v (.bool (jE k_ q)))))))
theorem vo:FnOk Tryz.prog 134 pZ:=by
 have hG:ConsOk Tryz.prog (mkG [(176,gE)] []):=ap (cgc kR cg0) cg0;refine aw [.o] mixed al hG (fn:=Tryz.f134) (c:=ae Tryz.f134) kr kr kr kr (aQ fun k_=>(dh fun q=>(ai (fun hp=>?_))));dsimp only[ar]at hp;refine⟨nbl rfl,L0,ag _,?_⟩
 ·unfold ae Tryz.f134;try unfold jE
  exact zq1
def Uh (k:Option HCon):List Ob→Option HCon
 | [] =>k
 |_=>none
@[go_sem] theorem YD {k:Option HCon}:Uh k []=k:=(rfl)
theorem Om {k:Option HCon}{h:List Ob}{c:HCon}(e:Uh k h=some c):h=[]∧k=some c:=by
 cases h with
 |nil=>exact⟨rfl,e⟩
 |cons=>cases e
@[go_sem] def Ui (p:Plea)(st:List (Int×Bool))(kn:List (Int×Int)):List Ob:=[.cells [.rs .int p.facts,.rs .clause p.clauses,.os 1,.os 2],.mp .int .bool st none,.mp .int .int kn none]
@[go_sem] noncomputable def qo:List SV→List Ob→Option HCon:=fun l h=>Uh (pD .plea (fun p=>pE (ic (iK p) (.ptr 0 0) (Ui p (fB p) []))) l) h
theorem y8:FnOkO Tryz.prog 84 qo:=by
 have hG:ConsOk Tryz.prog (mkG [(118,fun l=>sM (bo [.st .plea] l))] []):=ap (cgc (vE.norm [.st .plea]) cg0) cg0;refine oY mixed al hG (fn:=Tryz.f84) (c:=ae Tryz.f84) kr kr kr kr fun l o con h=>?_;unfold qo at h;obtain⟨rfl,h⟩:=Om h;obtain⟨p,r1,rfl,h1⟩:=M2 h;obtain⟨rfl,rfl⟩:=B4 h1;clear h h1;refine⟨_,_,_,rfl,fun hp=>?_⟩;refine⟨nbl rfl,L0,ag _,?_⟩;unfold ae Tryz.f84;simp only[go_sem,Nat.reduceBEq,Nat.reduceLeDiff,Nat.reduceLT,decide_true,Nat.reduceAdd,Nat.reduceSub,Nat.reduceMul,Int.reduceLE,Int.reduceLT,Int.reduceToNat,Int.reduceNeg,reduceCtorEq];refine⟨hp,rfl,?_⟩;exact fk (jl [3,1,2])
def jh (x:Reason)(facts:List Int)(clauses:List Clause)(strict_:List (Int×Bool))(known_:List (Int×Int)):List (Int×Int):=(bif x.proved then(lN .int .int (lN .int .int known_ x.literal 2) x.literal 1)else(lN .int .int known_ x.literal 2))
noncomputable def nG:List SV→List Ob→Option HCon:=pf (fun x_:Reason×(List Int)×(List Clause)×(List (Int×Bool))×(List (Int×Int)) =>[.ptr 0 0,.agg (cellsOf .reason x_.1)]) (fun x_=>[.cells [.rs .int x_.2.1,.rs .clause x_.2.2.1,.os 1,.os 2],.mp .int .bool x_.2.2.2.1 none,.mp .int .int x_.2.2.2.2 none]) (fun x_=>ic True (.tup []) [.cells [.rs .int x_.2.1,.rs .clause x_.2.2.1,.os 1,.os 2],.mp .int .bool x_.2.2.2.1 none,.mp .int .int (jh x_.1 x_.2.1 x_.2.2.1 x_.2.2.2.1 x_.2.2.2.2) none])
@[go_sem] theorem Fi (x:Reason)(facts:List Int)(clauses:List Clause)(strict_:List (Int×Bool))(known_:List (Int×Int)){p1_:Option (Nat×Option Tag.int.T)}(hp1_:p1_=none){p2_:Option (Nat×Option Tag.int.T)}(hp2_:p2_=none):nG ([.ptr 0 0,.agg [.v (.int .i64 x.literal),.v (.int .i64 x.clause),.v (.bool x.proved)]]) ([.cells [.rs .int facts,.rs .clause clauses,.os 1,.os 2],.mp .int .bool strict_ p1_,.mp .int .int known_ p2_])=some (ic True (.tup []) [.cells [.rs .int facts,.rs .clause clauses,.os 1,.os 2],.mp .int .bool strict_ none,.mp .int .int (jh x facts clauses strict_ known_) none]):=by
 subst hp1_;subst hp2_;exact ll (A:=fun x_:Reason×(List Int)×(List Clause)×(List (Int×Bool))×(List (Int×Int)) =>[.ptr 0 0,.agg (cellsOf .reason x_.1)]) (H:=fun x_=>[.cells [.rs .int x_.2.1,.rs .clause x_.2.2.1,.os 1,.os 2],.mp .int .bool x_.2.2.2.1 none,.mp .int .int x_.2.2.2.2 none]) (K:=fun x_=>ic True (.tup []) [.cells [.rs .int x_.2.1,.rs .clause x_.2.2.1,.os 1,.os 2],.mp .int .bool x_.2.2.2.1 none,.mp .int .int (jh x_.1 x_.2.1 x_.2.2.1 x_.2.2.2.1 x_.2.2.2.2) none]) (x:=(x,facts,clauses,strict_,known_))
theorem wO:FnOkO Tryz.prog 135 (nG):=by
 have hG:ConsOk Tryz.prog (mkG [] []):=ap cg0 cg0;refine oY mixed al hG (fn:=Tryz.f135) (c:=ae Tryz.f135) kr kr kr kr fun l o con h=>?_;obtain⟨⟨x,facts,clauses,strict_,known_⟩,rfl,rfl,rfl⟩:=jo h;clear h;try dsimp only
 refine⟨_,_,_,rfl,fun hp=>?_⟩;refine⟨nbl rfl,L0,?_,?_⟩
 ·unfold ae Tryz.f135;simp only[am,and_self,true_and,and_true]
 ·unfold ae Tryz.f135;try unfold jh
  exact sE (jl [0,1,2])
end Go.Sx
end
section
namespace Go.Sx
open Go.RowKit
section
variable {P:Program}{ts:Tis}{G:Cons}{N:Nat}
theorem IP (hm:P.follows .mixedOrders=true)(hts:ts.ok P)(hG:ConsOk P G){id:Nat}{g:Operand}{ps:Array Tmp}{assign body:Code}{C:St→Option LCon}
  (hpn:ps.toList.Nodup) (hpN:∀ p∈ps.toList,p<N) (hca:b7 N assign=true) (hcb:b7 N body=true)
  (h:∀ st0 lc,C st0=some lc→lc.pre→∃ st,NilS st0 st∧∃ (f:FuncId) (caps:List SV) (τ ρ σ:Type) (l:List τ) (mk:τ→List SV) (step:τ→σ→ρ⊕σ) (p:τ→σ→Prop) (pre:Prop) (s0:σ) (exE:ρ→Ex) (outE:ρ→St) (outN:σ→St) (T:List (Nat×SV)) (H:σ→List Ob) (Hy:ρ→List Ob) (js:List Nat),
   raw st.t g=.fn f [] caps∧lc=LC pre (ny step l s0) exE outE outN∧okL step p l s0∧st.h.length≤(H s0).length∧Sub js st.h.length ⟨st.t,wj (oi st caps) st.h⟩ ⟨T,H s0⟩∧
   Gx P f (fun y=>y::caps.map (ren (It (oi st caps)) 3)) (Gz (oi st caps) st.h) (l.map mk)∧
   (∀ x s,p x s→(mk x).length=ps.size∧∃ L,(∀ l,am P (some l) N L assign)∧(∀ l,am P (some l) N L body)∧exec ts G L assign ⟨psT ps.toList (mk x)++T,H s⟩ (fun e st1=>e=.normal∧exec ts G L body st1 (rgQ step exE T H Hy st.h.length id x s)))∧
   (∀ s,jm (outN s) st.h.length ⟨T,H s⟩)∧∀ y,jm (outE y) st.h.length ⟨T,Hy y⟩):mj P none N id (.rangeFunc g ps assign body) C:=by
 intro nd F w0 st0 lc hC hpre own a w hr;obtain⟨st,hN,hrest⟩:=h st0 lc hC hpre;obtain⟨own',hr'⟩:=hN.rel hr;refine zA hm hts hG hpn hpN hca hcb (C:=fun s=>@ite _ (s=st) (Classical.propDecidable _) (some lc) none) (fun s l e _=>?_) nd F w0 st lc (if_pos rfl) hpre own' a w hr';split at e
 ·rename_i e1;subst e1;cases e;exact hrest
 ·cases e
end
end Go.Sx
end
