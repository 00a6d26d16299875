/- Part of the proof that the law JudgementDate returns true and leaves its arguments as they were, for all arguments of bulk at most 1048576 (the Upto form). -/
import Derived.Test.YtnanafpgfihjfaaGreatJ311
import Derived.Test.YtnanafpgfihjfaaGreatJ308
import Derived.Test.YtnanafpgfihjfaaGreatJ309
import Derived.Test.YtnanafpgfihjfaaGreatJ310
set_option linter.all false
set_option maxHeartbeats 4000000
set_option maxRecDepth 100000
section
namespace Go.Sx
open Go.Proofs
open IntKind (i64)
@[go_sem] def dQ (a0:Cases)(k_0:Nat)(s_0:Int×Int):(Int×Int)⊕(Int×Int):=letI q0:=a0.sides.getD k_0 0;letI q1:=OZ .u64 1 (k_0:Int);(bif(!(cT q0 1))then .inl (s_0.1,s_0.2)else(bif(decide (q0=0))then .inr ((orI .u64 s_0.1 q1),s_0.2)else(bif(decide (q0=1))then .inr (s_0.1,(orI .u64 s_0.2 q1))else .inr default)))
def gU (a0:Cases)(k_0:Nat)(s_0:Int×Int):Prop:=letI q0:=a0.sides.getD k_0 0;((!(cT q0 1))=false→(((decide (q0=0))=true→0≤(k_0:Int))∧((decide (q0=0))=false→(((decide (q0=1))=true→0≤(k_0:Int))∧((decide (q0=1))=false→False)))))
@[go_sem] def oE (a0:Cases)(s_0:Int×Int)(k_1:Nat)(s_1:List PrecedentsDecided×Int×Int×Int):(List PrecedentsDecided)⊕(List PrecedentsDecided×Int×Int×Int):=letI q0:=a0.cases.getD k_1 default;letI q4:=(a0.sides.length:Int);letI q1:=iz (q0.reason) q4;letI q2:=iz (q0.facts) q4;letI q3:=((s_1.1++([({ winner:=q0.winner,facts:=q2.1,reason:=q1.1}:PrecedentsDecided)])),q0.no,q0.hour,q0.winner);(bif(((((decide (q0.no≤s_1.2.1)) ||(!(cT (q0.no) 1048576))) ||(decide (q0.hour<s_1.2.2.1))) ||(!(cT (q0.hour) 4096))) ||(!(cT (q0.winner) 1)))then .inl s_1.1 else(bif(decide (q0.winner=0))then(bif(((!q2.2) ||(!q1.2)) ||(!(eX (q1.1) (FH .u64 (q2.1) s_0.1))))then .inl s_1.1 else .inr q3)else(bif(decide (q0.winner=1))then(bif(((!q2.2) ||(!q1.2)) ||(!(eX (q1.1) (FH .u64 (q2.1) s_0.2))))then .inl s_1.1 else .inr q3)else .inr default)))
def gV (a0:Cases)(s_0:Int×Int)(k_1:Nat)(s_1:List PrecedentsDecided×Int×Int×Int):Prop:=letI q0:=a0.cases.getD k_1 default;letI q1:=(a0.sides.length:Int);letI q3:=iz (q0.reason) q1;letI q4:=iz (q0.facts) q1;letI q2:=(s_1.1++([({ winner:=q0.winner,facts:=q4.1,reason:=q3.1}:PrecedentsDecided)])).length*24≤cU;letI q5:=decide (q0.winner=0);letI q6:=decide (q0.winner=1);((((((decide (q0.no≤s_1.2.1)) ||(!(cT (q0.no) 1048576))) ||(decide (q0.hour<s_1.2.2.1))) ||(!(cT (q0.hour) 4096))) ||(!(cT (q0.winner) 1)))=false→(a0.sides.length≤aL→((ic (q0.facts) q1)∧(a0.sides.length≤aL→((ic (q0.reason) q1)∧((q5=true→((((!q4.2) ||(!q3.2)) ||(!(eX (q3.1) (FH .u64 (q4.1) s_0.1))))=false→q2))∧(q5=false→((q6=true→((((!q4.2) ||(!q3.2)) ||(!(eX (q3.1) (FH .u64 (q4.1) s_0.2))))=false→q2))∧(q6=false→False)))))))))
def i4 (a0:Cases):PrecedentsCourt×Int:=(bif((decide ((a0.sides.length:Int) > 32)) ||(decide ((a0.cases.length:Int) > 64)))then(({ favour:=(0,0),cases:=[]}:PrecedentsCourt),2)else(match aq (dQ a0) a0.sides.length 0 (0,0)with| .inl x_0_0=>(({ favour:=(x_0_0.1,x_0_0.2),cases:=[]}:PrecedentsCourt),520) | .inr s_0=>(match aq (oE a0 s_0) a0.cases.length 0 ([],(-1),0,0)with| .inl x_1_0=>(({ favour:=(s_0.1,s_0.2),cases:=x_1_0}:PrecedentsCourt),520) | .inr s_1=>(({ favour:=(s_0.1,s_0.2),cases:=s_1.1}:PrecedentsCourt),0))))
def g_ (a0:Cases):Prop:=letI q0:=dQ a0;(a0.sides.length≤aL→(((decide ((a0.sides.length:Int) > 32)) ||(decide ((a0.cases.length:Int) > 64)))=false→(a0.sides.length≤aL→(okI q0 (gU a0) a0.sides.length 0 (0,0)∧(∀ s_0,aq q0 a0.sides.length 0 (0,0)=.inr s_0→(a0.cases.length≤aL→okI (oE a0 s_0) (gV a0 s_0) a0.cases.length 0 ([],(-1),0,0)))))))
@[go_sem] def pw:List SV→Option Con:=(pD .cases fun a0=>(pE (.det (g_ a0) (.tup [.agg (cellsOf .precedentsCourt ((i4 a0).1)),.v (.int .i64 ((i4 a0).2))]))))
theorem zq68 {l0:List Nat}(a0:JL l0){p:Prop}(h:JL l0→p:=by intro ja;simp only[go_sem,Nat.reduceBEq,Nat.reduceLeDiff,Nat.reduceLT,decide_true,Nat.reduceAdd,Nat.reduceSub,Nat.reduceMul,Int.reduceLE,Int.reduceLT,Int.reduceToNat,Int.reduceNeg,reduceCtorEq,hc,hw,hs0,Int.reduceEq,Int.reduceBEq,decide_false];all_goals exact gT ja):p:=h a0
theorem zq69 {l0:List Nat}(a0:JL l0){p:Prop}(h:JL l0→p:=by intro ja;simp only[go_sem,Nat.reduceBEq,Nat.reduceLeDiff,Nat.reduceLT,decide_true,Nat.reduceAdd,Nat.reduceSub,Nat.reduceMul,Int.reduceLE,Int.reduceLT,Int.reduceToNat,Int.reduceNeg,reduceCtorEq,hc,hw,hs1,Int.reduceEq,Int.reduceBEq,decide_false];all_goals exact gT ja):p:=h a0
theorem zq70 {l0 l1:List Nat}(a0:JL l0)(a1:JL l1){p:Prop}(h:JL l0→JL l1→p:=by intro ja jb;simp only[go_sem,Nat.reduceBEq,Nat.reduceLeDiff,Nat.reduceLT,decide_true,Nat.reduceAdd,Nat.reduceSub,Nat.reduceMul,Int.reduceLE,Int.reduceLT,Int.reduceToNat,Int.reduceNeg,reduceCtorEq,hc,hw,hs0,Int.reduceEq,Int.reduceBEq,decide_false];all_goals exact sC ja jb):p:=h a0 a1
theorem zq71 {l0 l1:List Nat}(a0:JL l0)(a1:JL l1){p:Prop}(h:JL l0→JL l1→p:=by intro ja jb;simp only[go_sem,Nat.reduceBEq,Nat.reduceLeDiff,Nat.reduceLT,decide_true,Nat.reduceAdd,Nat.reduceSub,Nat.reduceMul,Int.reduceLE,Int.reduceLT,Int.reduceToNat,Int.reduceNeg,reduceCtorEq,hc,hw,hs1,Int.reduceEq,Int.reduceBEq,decide_false];all_goals exact sC ja jb):p:=h a0 a1
theorem sL:FnOk Tryz.prog 75 pw:=by
 have hG:ConsOk Tryz.prog (mkG [(81,nN),(129,nM),(130,fun l=>rJ (bv [.sl .int,.o] l))] []):=ap (cgc rf (cgc re (cgc (uJ.norm [.sl .int,.o]) cg0))) cg0;refine av [.st .precedentsCourt,.o] mixed al hG (fn:=Tryz.f75) (c:=ae Tryz.f75) kr kr kr kr (bp fun a0=>(ai (fun hp=>?_)));dsimp only[ar]at hp;unfold g_ at hp;refine⟨nbl rfl,(fun id st=>bif Nat.beq id 0 then some (LCR (ρ:=(Int×Int)) (σ:=(Int×Int)) 2 [] [0,1] (fun k_0 s_0=>⟨[(1,.ptr 0 0),(2,.ptr 1 0),(25,.rs .int a0.sides),(26,.v (.int .i64 (a0.sides.length:Int))),(27,.v (.int .i64 (k_0:Int)))],[.cells (cellsOf .cases a0),.cells [.v (.int .u64 s_0.1),.v (.int .u64 s_0.2),.v (.slice none 0 0)]]⟩) (dQ a0) (gU a0) a0.sides.length (0,0) (a0.sides.length≤aL) (fun _=>.ret) (fun x_0_0=>⟨[(2,.ptr 1 0),(3,.v (.int .i64 520))],[.dead,.cells [.v (.int .u64 x_0_0.1),.v (.int .u64 x_0_0.2),.v (.slice none 0 0)]]⟩) st)else bif Nat.beq id 2 then some (LCR (ρ:=(List PrecedentsDecided)) (σ:=(List PrecedentsDecided×Int×Int×Int)) 3 [.cell 1 2 (.row .precedentsDecided ([]))] [0,1,2,3] (fun k_1 s_1=>⟨[(1,.ptr 0 0),(2,.ptr 1 0),(6,.ptr 2 0),(48,.rs .case a0.cases),(49,.v (.int .i64 (a0.cases.length:Int))),(50,.v (.int .i64 (k_1:Int)))],[.cells (cellsOf .cases a0),.cells [.v (.int .u64 (dL (aq (dQ a0) a0.sides.length 0 (0,0))).1),.v (.int .u64 (dL (aq (dQ a0) a0.sides.length 0 (0,0))).2),.os 3],.cells [.v (.int .i64 s_1.2.1),.v (.int .i64 s_1.2.2.1),.v (.int .i64 s_1.2.2.2),.any,.any],.row .precedentsDecided s_1.1]⟩) (oE a0 (dL (aq (dQ a0) a0.sides.length 0 (0,0)))) (gV a0 (dL (aq (dQ a0) a0.sides.length 0 (0,0)))) a0.cases.length ([],(-1),0,0) (a0.cases.length≤aL) (fun _=>.ret) (fun x_1_0=>⟨[(2,.ptr 1 0),(3,.v (.int .i64 520))],[.dead,.cells [.v (.int .u64 (dL (aq (dQ a0) a0.sides.length 0 (0,0))).1),.v (.int .u64 (dL (aq (dQ a0) a0.sides.length 0 (0,0))).2),.os 3],.dead,.row .precedentsDecided x_1_0]⟩) st)else none),?_,?_⟩
 ·unfold ae Tryz.f75;simp only[am,true_and,and_true];refine⟨?_,?_⟩
  ·refine aV mixed al hG kr (fun _=>rfl) (a0.sides.length:Int) rfl ia (fun hb0 k_0 s_0 hlt0 hq0 hw hc=>⟨L0,ag _,?_⟩) (fun hb0 s_0 hc=>?_)
   ·unfold gU at hq0;try simp only[hw,Int.toNat_natCast]at hq0
    by_cases hs0:(a0.sides.getD k_0 (0:Int))=0
    ·try simp only[hs0,decide_true,decide_false,Int.reduceEq,Bool.false_eq_true,Bool.true_eq_false,forall_const,true_imp_iff,false_imp_iff,and_true,true_and,reduceCtorEq]at hq0
     exact zq68 (jl [0,1])
    ·have hn0:=decide_eq_false hs0;by_cases hs1:(a0.sides.getD k_0 (0:Int))=1
     ·try simp only[hs1,decide_true,decide_false,Int.reduceEq,Bool.false_eq_true,Bool.true_eq_false,forall_const,true_imp_iff,false_imp_iff,and_true,true_and,reduceCtorEq]at hq0
      exact zq69 (jl [0,1])
     ·have hn1:=decide_eq_false hs1;simp only[go_sem,Nat.reduceBEq,Nat.reduceLeDiff,Nat.reduceLT,decide_true,Nat.reduceAdd,Nat.reduceSub,Nat.reduceMul,Int.reduceLE,Int.reduceLT,Int.reduceToNat,Int.reduceNeg,reduceCtorEq,hc,hw,hn0,hn1];all_goals (repeat' (first|with_reducible refine And.intro ?_ ?_|with_reducible intro _))
      all_goals first|exact gT (jl [0,1]) |(exfalso;simp_all;done)
   ·exact bH (jl [0,1])
  ·refine aV mixed al hG kr (fun _=>rfl) (a0.cases.length:Int) rfl ia (fun hb1 k_1 s_1 hlt1 hq1 hw hc=>⟨L0,ag _,?_⟩) (fun hb1 s_1 hc=>?_)
   ·unfold gV at hq1;try simp only[hw,Int.toNat_natCast]at hq1
    by_cases hs0:(a0.cases.getD k_1 (default:Case)).winner=0
    ·try simp only[hs0,decide_true,decide_false,Int.reduceEq,Bool.false_eq_true,Bool.true_eq_false,forall_const,true_imp_iff,false_imp_iff,and_true,true_and,reduceCtorEq]at hq1
     exact zq70 (jl [0,1,2,6]) (jl [0,1,2,3])
    ·have hn0:=decide_eq_false hs0;by_cases hs1:(a0.cases.getD k_1 (default:Case)).winner=1
     ·try simp only[hs1,decide_true,decide_false,Int.reduceEq,Bool.false_eq_true,Bool.true_eq_false,forall_const,true_imp_iff,false_imp_iff,and_true,true_and,reduceCtorEq]at hq1
      exact zq71 (jl [0,1,2,6]) (jl [0,1,2,3])
     ·have hn1:=decide_eq_false hs1;simp only[go_sem,Nat.reduceBEq,Nat.reduceLeDiff,Nat.reduceLT,decide_true,Nat.reduceAdd,Nat.reduceSub,Nat.reduceMul,Int.reduceLE,Int.reduceLT,Int.reduceToNat,Int.reduceNeg,reduceCtorEq,hc,hw,hn0,hn1];all_goals (repeat' (first|with_reducible refine And.intro ?_ ?_|with_reducible intro _))
      all_goals first|exact sC (jl [0,1,2,6]) (jl [0,1,2,3]) |(exfalso;simp_all;done)
   ·exact jT (jl [0,1,2,6]) (jl [0,1,2,3])
 ·unfold ae Tryz.f75;try unfold i4
  exact zq1
def gh (b:Cases)(l_:List Int)(side:Int):PrecedentsCourt×Int×Int:=letI q0:=i4 b;letI q1:=iz l_ (b.sides.length:Int);(bif(q0.2 !=0)then((q0.1),0,q0.2)else(bif(!q1.2)then((q0.1),0,520)else(bif(!(cT side 1))then((q0.1),0,1)else((q0.1),q1.1,0))))
def jZ (b:Cases)(l_:List Int)(side:Int):Prop:=((g_ b)∧(((i4 b).2 !=0)=false→(b.sides.length≤aL→(ic l_ (b.sides.length:Int)))))
@[go_sem] def uK:List SV→Option Con:=(pD .cases fun b=>(pR .int fun l_=>(pI fun side=>(pE (.det (jZ b l_ side) (.tup [.agg (cellsOf .precedentsCourt ((gh b l_ side).1)),.v (.int .u64 ((gh b l_ side).2.1)),.v (.int .i64 ((gh b l_ side).2.2))]))))))
theorem zf:FnOk Tryz.prog 79 uK:=by
 have hG:ConsOk Tryz.prog (mkG [(75,fun l=>pw (bv [.st .cases] l)),(129,nM),(130,fun l=>rJ (bv [.sl .int,.o] l))] []):=ap (cgc (sL.norm [.st .cases]) (cgc re (cgc (uJ.norm [.sl .int,.o]) cg0))) cg0;refine av [.st .precedentsCourt,.o,.o] mixed al hG (fn:=Tryz.f79) (c:=ae Tryz.f79) kr kr kr kr (bp fun b=>(bK fun l_=>(dh fun side=>(ai (fun hp=>?_)))));dsimp only[ar]at hp;unfold jZ at hp;refine⟨nbl rfl,L0,ag _,?_⟩
 ·unfold ae Tryz.f79;try unfold gh
  exact zq1
def jz (c:PrecedentsCourt)(x:PrecedentsDecided)(facts:Int):Int:=(bif(decide ((i64.wrap (1 - x.winner))=0))then(yq .u64 (FH .u64 facts c.favour.1) x.facts)else(bif(decide ((i64.wrap (1 - x.winner))=1))then(yq .u64 (FH .u64 facts c.favour.2) x.facts)else default))
def eC (c:PrecedentsCourt)(x:PrecedentsDecided)(facts:Int):Prop:=((decide ((i64.wrap (1 - x.winner))=0))=false→((decide ((i64.wrap (1 - x.winner))=1))=false→False))
@[go_sem] def mE:List SV→Option Con:=(pD .precedentsCourt fun c=>(pD .precedentsDecided fun x=>(pU fun facts=>(pE (.det (eC c x facts) (.v (.int .u64 (jz c x facts))))))))
theorem zq74 {p:Prop}(h:p:=by simp only[go_sem,Nat.reduceBEq,Nat.reduceLeDiff,Nat.reduceLT,decide_true,Nat.reduceAdd,Nat.reduceSub,Nat.reduceMul,Int.reduceLE,Int.reduceLT,Int.reduceToNat,Int.reduceNeg,reduceCtorEq,hs0,Int.reduceEq,Int.reduceBEq,decide_false];all_goals exact cl):p:=h
theorem zq75 {p:Prop}(h:p:=by simp only[go_sem,Nat.reduceBEq,Nat.reduceLeDiff,Nat.reduceLT,decide_true,Nat.reduceAdd,Nat.reduceSub,Nat.reduceMul,Int.reduceLE,Int.reduceLT,Int.reduceToNat,Int.reduceNeg,reduceCtorEq,hs1,Int.reduceEq,Int.reduceBEq,decide_false];all_goals exact cl):p:=h
theorem sa:FnOk Tryz.prog 82 mE:=by
 have hG:ConsOk Tryz.prog (mkG [] []):=ap cg0 cg0;refine av [.o] mixed al hG (fn:=Tryz.f82) (c:=ae Tryz.f82) kr kr kr kr (bp fun c=>(bp fun x=>(IA fun facts=>(ai (fun hp=>?_)))));dsimp only[ar]at hp;unfold eC at hp;refine⟨nbl rfl,L0,ag _,?_⟩
 ·unfold ae Tryz.f82;try unfold jz
  by_cases hs0:(i64.wrap (1 - x.winner))=0
  ·try simp only[hs0,decide_true,decide_false,Int.reduceEq,Bool.false_eq_true,Bool.true_eq_false,forall_const,true_imp_iff,false_imp_iff,and_true,true_and,reduceCtorEq]at hp
   exact zq74
  ·have hn0:=decide_eq_false hs0;by_cases hs1:(i64.wrap (1 - x.winner))=1
   ·try simp only[hs1,decide_true,decide_false,Int.reduceEq,Bool.false_eq_true,Bool.true_eq_false,forall_const,true_imp_iff,false_imp_iff,and_true,true_and,reduceCtorEq]at hp
    exact zq75
   ·have hn1:=decide_eq_false hs1;simp only[go_sem,Nat.reduceBEq,Nat.reduceLeDiff,Nat.reduceLT,decide_true,Nat.reduceAdd,Nat.reduceSub,Nat.reduceMul,Int.reduceLE,Int.reduceLT,Int.reduceToNat,Int.reduceNeg,reduceCtorEq,hn0,hn1];all_goals (repeat' (first|with_reducible refine And.intro ?_ ?_|with_reducible intro _))
    all_goals first|exact cl|(exfalso;simp_all;done)
def fG (b:Cases):Int:=(i4 b).2
def fC (b:Cases):Prop:=(g_ b)
@[go_sem] def kQ:List SV→Option Con:=(pD .cases fun b=>(pE (.det (fC b) (.v (.int .i64 (fG b))))))
theorem nO:FnOk Tryz.prog 64 kQ:=by
 have hG:ConsOk Tryz.prog (mkG [(75,fun l=>pw (bv [.st .cases] l))] []):=ap (cgc (sL.norm [.st .cases]) cg0) cg0;refine av [.o] mixed al hG (fn:=Tryz.f64) (c:=ae Tryz.f64) kr kr kr kr (bp fun b=>(ai (fun hp=>?_)));dsimp only[ar]at hp;unfold fC at hp;refine⟨nbl rfl,L0,ag _,?_⟩
 ·unfold ae Tryz.f64;try unfold fG
  exact zq1
def oF (x:PrecedentsDecided)(side_:Int)(facts_:Int)(c_:PrecedentsCourt):Bool:=(((x.winner==side_)&&(eX x.reason facts_))&&((jz c_ x facts_) ==0))
def gW (x:PrecedentsDecided)(side_:Int)(facts_:Int)(c_:PrecedentsCourt):Prop:=(((x.winner==side_)&&(eX x.reason facts_))=true→(eC c_ x facts_))
@[go_sem] def rg:List SV→Option Con:=(pD .precedentsDecided fun x=>(pX .int fun side_=>(pXU fun facts_=>(pX .precedentsCourt fun c_=>(pE (.det (gW x side_ facts_ c_) (.v (.bool (oF x side_ facts_ c_)))))))))
theorem vR:FnOk Tryz.prog 80 rg:=by
 have hG:ConsOk Tryz.prog (mkG [(81,nN),(82,fun l=>mE (bv [.st .precedentsCourt,.st .precedentsDecided,.o] l))] []):=ap (cgc rf (cgc (sa.norm [.st .precedentsCourt,.st .precedentsDecided,.o]) cg0)) cg0;refine av [.o] mixed al hG (fn:=Tryz.f80) (c:=ae Tryz.f80) kr kr kr kr (bp fun x=>(aO fun side_=>(Kf fun facts_=>(aO fun c_=>(ai (fun hp=>?_))))));dsimp only[ar]at hp;unfold gW at hp;refine⟨nbl rfl,L0,ag _,?_⟩
 ·unfold ae Tryz.f80;try unfold oF
  exact zq1
theorem clW {p:Prop}(h:p:=by((repeat' (first|with_reducible refine And.intro ?_ ?_|with_reducible intro _)) <;>first|exact cl|(rename_i x hx;rcases x with x|x <;>simp only[go_sem,Nat.reduceBEq,Nat.reduceLeDiff,Nat.reduceLT,decide_true,Nat.reduceAdd,Nat.reduceSub,Nat.reduceMul,Int.reduceLE,Int.reduceLT,Int.reduceToNat,Int.reduceNeg,reduceCtorEq] <;>(simp only[*];done)))):p:=h
@[go_sem] def dZ (l_:List PrecedentsDecided)(side_:Int)(facts_:Int)(c_:PrecedentsCourt)(k_0:Nat)(s_0:Int):(Int⊕Unit)⊕Int:=(bif(decide (s_0< (l_.length:Int)))then(bif(oF (l_.getD (Int.toNat s_0) default) side_ facts_ c_)then .inl (.inl s_0)else .inr (i64.wrap (s_0+1)))else .inl (.inr ()))
def bi (l_:List PrecedentsDecided)(side_:Int)(facts_:Int)(c_:PrecedentsCourt)(k_0:Nat)(s_0:Int):Prop:=(l_.length≤aL→((decide (s_0< (l_.length:Int)))=true→((0≤s_0∧s_0< (l_.length:Int))∧(gW (l_.getD (Int.toNat s_0) default) side_ facts_ c_))))
def db (l_:List PrecedentsDecided)(fr:Int)(side_:Int)(facts_:Int)(c_:PrecedentsCourt):Int×Bool:=(match aq (dZ l_ side_ facts_ c_) (l_.length+1) 0 fr with| .inl (.inl x_0_0) =>(x_0_0,true) | .inl (.inr x_0_1) =>(0,false) | .inr s_0=>default)
def bI (l_:List PrecedentsDecided)(fr:Int)(side_:Int)(facts_:Int)(c_:PrecedentsCourt):Prop:=letI q0:=dZ l_ side_ facts_ c_;(okI q0 (bi l_ side_ facts_ c_) (l_.length+1) 0 fr∧(∀ z_,aq q0 (l_.length+1) 0 fr≠ .inr z_))
@[go_sem] def gL:List SV→Option Con:=(pR .precedentsDecided fun l_=>(pI fun fr=>(pFn 80 (pX .int fun side_=>(pXU fun facts_=>(pX .precedentsCourt fun c_=>(pE ((pE (.det (bI l_ fr side_ facts_ c_) (.tup [.v (.int .i64 ((db l_ fr side_ facts_ c_).1)),.v (.bool ((db l_ fr side_ facts_ c_).2))])))))))))))
theorem zq78 {p:Prop}(h:p:=by simp only[go_sem,Nat.reduceBEq,Nat.reduceLeDiff,Nat.reduceLT,decide_true,Nat.reduceAdd,Nat.reduceSub,Nat.reduceMul,Int.reduceLE,Int.reduceLT,Int.reduceToNat,Int.reduceNeg,reduceCtorEq];all_goals exact clW):p:=h
theorem lG:FnOk Tryz.prog 77 gL:=by
 have hG:ConsOk Tryz.prog (mkG [(80,rg)] []):=ap (cgc vR cg0) cg0;refine av [.o,.o] mixed al hG (fn:=Tryz.f77) (c:=ae Tryz.f77) kr kr kr kr (bK fun l_=>(dh fun fr=>(bq (aO fun side_=>(Kf fun facts_=>(aO fun c_=>(ai ((ai (fun hp=>?_))))))))));dsimp only[ar]at hp;unfold bI at hp;refine⟨nbl rfl,(fun id st=>bif Nat.beq id 0 then some (LCV (ρ:=(Int⊕Unit)) (σ:=Int) 0 [] [] (fun k_0 s_0=>⟨[(0,.rs .precedentsDecided l_),(2,.fn 80 [] [.ep [.v (.int .i64 side_)] 0,.ep [.v (.int .u64 facts_)] 0,.ep (cellsOf .precedentsCourt c_) 0]),(8,.v (.int .i64 s_0))],[]⟩) (dZ l_ side_ facts_ c_) (bi l_ side_ facts_ c_) (l_.length+1) fr (fun x=>match x with|(.inl _) =>.ret|(.inr _) =>.normal) (fun x=>match x with|(.inl x_0_0) =>⟨[(6,.v (.int .i64 x_0_0)),(7,.v (.bool true))],[]⟩ |(.inr x_0_1) =>⟨[],[]⟩) st)else none),?_,?_⟩
 ·unfold ae Tryz.f77;simp only[am,true_and,and_true]
  ·refine uD mixed al hG kr (fun _=>rfl) fun k_0 s_0 hq0=>⟨L0,ag _,?_⟩
   ·unfold bi at hq0;exact sH (jl [])
 ·unfold ae Tryz.f77;try unfold db
  exact zq78
@[go_sem] noncomputable def eD:List SV→Option Con:=fun l=>(gL l)
theorem mh:FnOk Tryz.prog 77 eD:=lG
def aN (b:Cases)(l_:List Int)(side:Int):Int×Bool×Int:=letI q0:=gh b l_ side;letI q1:=db ((q0.1).cases) 0 side (q0.2.1) (q0.1);(bif(q0.2.2 !=0)then(0,false,q0.2.2)else(q1.1,q1.2,0))
def eE (b:Cases)(l_:List Int)(side:Int):Prop:=((jZ b l_ side)∧(((gh b l_ side).2.2 !=0)=false→(bI (((gh b l_ side).1).cases) 0 side ((gh b l_ side).2.1) ((gh b l_ side).1))))
@[go_sem] def oG:List SV→Option Con:=(pD .cases fun b=>(pR .int fun l_=>(pI fun side=>(pE (.det (eE b l_ side) (.tup [.v (.int .i64 ((aN b l_ side).1)),.v (.bool ((aN b l_ side).2.1)),.v (.int .i64 ((aN b l_ side).2.2))]))))))
theorem zq79 {p:Prop}(h:p:=by simp only[go_sem,Nat.reduceBEq,Nat.reduceLeDiff,Nat.reduceLT,decide_true,Nat.reduceAdd,Nat.reduceSub,Nat.reduceMul,Int.reduceLE,Int.reduceLT,Int.reduceToNat,Int.reduceNeg,reduceCtorEq,eD];all_goals exact cl):p:=h
theorem rY:FnOk Tryz.prog 34 oG:=by
 have hG:ConsOk Tryz.prog (mkG [(77,fun l=>eD (bv [.sl .precedentsDecided,.o,.o] l)),(79,fun l=>uK (bv [.st .cases,.sl .int,.o] l))] []):=ap (cgc (mh.norm [.sl .precedentsDecided,.o,.o]) (cgc (zf.norm [.st .cases,.sl .int,.o]) cg0)) cg0;refine av [.o,.o,.o] mixed al hG (fn:=Tryz.f34) (c:=ae Tryz.f34) kr kr kr kr (bp fun b=>(bK fun l_=>(dh fun side=>(ai (fun hp=>?_)))));dsimp only[ar]at hp;unfold eE at hp;refine⟨nbl rfl,L0,ag _,?_⟩
 ·unfold ae Tryz.f34;try unfold aN
  exact zq79
def iA (q:Int):Bool:=(((decide ((-32)≤q))&&(decide (q≤32)))&&(q !=0))
@[go_sem] def ol:List SV→Option Con:=(pI fun q=>(pE (.det True (.v (.bool (iA q))))))
theorem qr:FnOk Tryz.prog 83 ol:=by
 have hG:ConsOk Tryz.prog (mkG [] []):=ap cg0 cg0;refine av [.o] mixed al hG (fn:=Tryz.f83) (c:=ae Tryz.f83) kr kr kr kr (dh fun q=>(ai (fun hp=>?_)));dsimp only[ar]at hp;refine⟨nbl rfl,L0,ag _,?_⟩
 ·unfold ae Tryz.f83;try unfold iA
  exact zq1
@[go_sem] def rK (l_:List Int)(k_0:Nat)(s_0:Unit):Unit⊕Unit:=(bif((!(iA (l_.getD k_0 0))) ||((decide ((k_0:Int) > 0))&&(decide ((l_.getD k_0 0)≤(l_.getD (Int.toNat (i64.wrap ((k_0:Int) - 1))) 0)))))then .inl ()else .inr ())
def jp (l_:List Int)(k_0:Nat)(s_0:Unit):Prop:=((!(iA (l_.getD k_0 0)))=false→((decide ((k_0:Int) > 0))=true→(0≤(i64.wrap ((k_0:Int) - 1))∧(i64.wrap ((k_0:Int) - 1)) < (l_.length:Int))))
def nu (l_:List Int):Bool:=(match aq (rK l_) l_.length 0 ()with| .inl x_0_0=>false| .inr s_0=>true)
def j3 (l_:List Int):Prop:=(l_.length≤aL→okI (rK l_) (jp l_) l_.length 0 ())
@[go_sem] def wT:List SV→Option Con:=(pR .int fun l_=>(pE (.det (j3 l_) (.v (.bool (nu l_))))))
theorem AO:FnOk Tryz.prog 117 wT:=by
 have hG:ConsOk Tryz.prog (mkG [(83,ol)] []):=ap (cgc qr cg0) cg0;refine av [.o] mixed al hG (fn:=Tryz.f117) (c:=ae Tryz.f117) kr kr kr kr (bK fun l_=>(ai (fun hp=>?_)));dsimp only[ar]at hp;unfold j3 at hp;refine⟨nbl rfl,(fun id st=>bif Nat.beq id 0 then some (LCR (ρ:=Unit) (σ:=Unit) 0 [] [] (fun k_0 s_0=>⟨[(0,.rs .int l_),(5,.rs .int l_),(6,.v (.int .i64 (l_.length:Int))),(7,.v (.int .i64 (k_0:Int)))],[]⟩) (rK l_) (jp l_) l_.length () (l_.length≤aL) (fun _=>.ret) (fun x_0_0=>⟨[(2,.v (.bool false))],[]⟩) st)else none),?_,?_⟩
 ·unfold ae Tryz.f117;simp only[am,true_and,and_true]
  ·refine aV mixed al hG kr (fun _=>rfl) (l_.length:Int) rfl ia (fun hb0 k_0 s_0 hlt0 hq0 hw hc=>⟨L0,ag _,?_⟩) (fun hb0 s_0 hc=>?_)
   ·unfold jp at hq0;try simp only[hw,Int.toNat_natCast]at hq0
    exact bX (jl [])
   ·exact bH (jl [])
 ·unfold ae Tryz.f117;try unfold nu
  exact zq1
def t8 (c:Clause):Bool:=(decide ((c.if_.length:Int) > 8))
@[go_sem] def vJ:List SV→Option Con:=(pD .clause fun c=>(pE (.det True (.v (.bool (t8 c))))))
theorem z7:FnOk Tryz.prog 115 vJ:=by
 have hG:ConsOk Tryz.prog (mkG [] []):=ap cg0 cg0;refine av [.o] mixed al hG (fn:=Tryz.f115) (c:=ae Tryz.f115) kr kr kr kr (bp fun c=>(ai (fun hp=>?_)));dsimp only[ar]at hp;refine⟨nbl rfl,L0,ag _,?_⟩
 ·unfold ae Tryz.f115;try unfold t8
  exact zq1
def qs (q:Int)(k_:PleasCourt):Bool:=((du .int .int k_.known q) !=1)
@[go_sem] def sM:List SV→Option Con:=(pI fun q=>(pXX .pleasCourt fun k_=>(pE (.det True (.v (.bool (qs q k_)))))))
theorem xp:FnOk Tryz.prog 208 sM:=by
 have hG:ConsOk Tryz.prog (mkG [] []):=ap cg0 cg0;refine av [.o] mixed al hG (fn:=Tryz.f208) (c:=ae Tryz.f208) kr kr kr kr (dh fun q=>(bw fun k_=>(ai (fun hp=>?_))));dsimp only[ar]at hp;refine⟨nbl rfl,L0,ag _,?_⟩
 ·unfold ae Tryz.f208;try unfold qs
  exact zq1
def px (q:Int)(k_:PleasCourt):Bool:=((du .int .int k_.known q) ==2)
@[go_sem] def rZ:List SV→Option Con:=(pI fun q=>(pXX .pleasCourt fun k_=>(pE (.det True (.v (.bool (px q k_)))))))
theorem wU:FnOk Tryz.prog 209 rZ:=by
 have hG:ConsOk Tryz.prog (mkG [] []):=ap cg0 cg0;refine av [.o] mixed al hG (fn:=Tryz.f209) (c:=ae Tryz.f209) kr kr kr kr (dh fun q=>(bw fun k_=>(ai (fun hp=>?_))));dsimp only[ar]at hp;refine⟨nbl rfl,L0,ag _,?_⟩
 ·unfold ae Tryz.f209;try unfold px
  exact zq1
@[go_sem] def l9 (s_:List Int)(k_:PleasCourt)(k_0:Nat)(s_0:Unit):Int⊕Unit:=(bif(qs (s_.getD k_0 0) k_)then .inl (k_0:Int)else .inr ())
def jA (s_:List Int)(k_:PleasCourt):Int:=(match aq (l9 s_ k_) s_.length 0 ()with| .inl x_0_0=>x_0_0| .inr s_0=>(-1))
@[go_sem] def iL:List SV→Option Con:=(pR .int fun s_=>(pFn 208 (pXX .pleasCourt fun k_=>(pE ((pE (.det True (.v (.int .i64 (jA s_ k_))))))))))
theorem ma:FnOk Tryz.prog 203 iL:=by
 have hG:ConsOk Tryz.prog (mkG [(208,sM)] []):=ap (cgc xp cg0) cg0;refine av [.o] mixed al hG (fn:=Tryz.f203) (c:=ae Tryz.f203) kr kr kr kr (bK fun s_=>(bq (bw fun k_=>(ai ((ai (fun hp=>?_)))))));dsimp only[ar]at hp;refine⟨nbl rfl,(fun id st=>bif Nat.beq id 0 then some (LCR (ρ:=Int) (σ:=Unit) 0 [] [] (fun k_0 s_0=>⟨[(0,.rs .int s_),(1,.fn 208 [] [.ep [.ep (cellsOf .pleasCourt k_) 0] 0]),(7,.v (.int .i64 (s_.length:Int))),(8,.v (.int .i64 (k_0:Int)))],[]⟩) (l9 s_ k_) pT s_.length () (s_.length≤aL) (fun _=>.ret) (fun x_0_0=>⟨[(4,.v (.int .i64 x_0_0))],[]⟩) st)else none),?_,?_⟩
 ·unfold ae Tryz.f203;simp only[am,true_and,and_true]
  ·refine aV mixed al hG kr (fun _=>rfl) (s_.length:Int) rfl ia (fun hb0 k_0 s_0 hlt0 _ hw hc=>⟨L0,ag _,?_⟩) (fun hb0 s_0 hc=>?_)
   ·exact bX (jl [])
   ·exact bH (jl [])
 ·unfold ae Tryz.f203;try unfold jA
  exact zq1
@[go_sem] def kB (s_:List Int)(k_:PleasCourt)(k_0:Nat)(s_0:Unit):Int⊕Unit:=(bif(px (s_.getD k_0 0) k_)then .inl (k_0:Int)else .inr ())
def iM (s_:List Int)(k_:PleasCourt):Int:=(match aq (kB s_ k_) s_.length 0 ()with| .inl x_0_0=>x_0_0| .inr s_0=>(-1))
@[go_sem] def ig:List SV→Option Con:=(pR .int fun s_=>(pFn 209 (pXX .pleasCourt fun k_=>(pE ((pE (.det True (.v (.int .i64 (iM s_ k_))))))))))
theorem kC:FnOk Tryz.prog 203 ig:=by
 have hG:ConsOk Tryz.prog (mkG [(209,rZ)] []):=ap (cgc wU cg0) cg0;refine av [.o] mixed al hG (fn:=Tryz.f203) (c:=ae Tryz.f203) kr kr kr kr (bK fun s_=>(bq (bw fun k_=>(ai ((ai (fun hp=>?_)))))));dsimp only[ar]at hp;refine⟨nbl rfl,(fun id st=>bif Nat.beq id 0 then some (LCR (ρ:=Int) (σ:=Unit) 0 [] [] (fun k_0 s_0=>⟨[(0,.rs .int s_),(1,.fn 209 [] [.ep [.ep (cellsOf .pleasCourt k_) 0] 0]),(7,.v (.int .i64 (s_.length:Int))),(8,.v (.int .i64 (k_0:Int)))],[]⟩) (kB s_ k_) pT s_.length () (s_.length≤aL) (fun _=>.ret) (fun x_0_0=>⟨[(4,.v (.int .i64 x_0_0))],[]⟩) st)else none),?_,?_⟩
 ·unfold ae Tryz.f203;simp only[am,true_and,and_true]
  ·refine aV mixed al hG kr (fun _=>rfl) (s_.length:Int) rfl ia (fun hb0 k_0 s_0 hlt0 _ hw hc=>⟨L0,ag _,?_⟩) (fun hb0 s_0 hc=>?_)
   ·exact bX (jl [])
   ·exact bH (jl [])
 ·unfold ae Tryz.f203;try unfold iM
  exact zq1
@[go_sem] noncomputable def fM:List SV→Option Con:=fun l=>(orC (iL l) (ig l))
theorem lm:FnOk Tryz.prog 203 fM:=(FnOk.or ma kC)
def ip (s_:List Int)(k_:PleasCourt):Bool:=(decide ((jA s_ k_)≥0))
@[go_sem] def gX:List SV→Option Con:=(pR .int fun s_=>(pFn 208 (pXX .pleasCourt fun k_=>(pE ((pE (.det True (.v (.bool (ip s_ k_))))))))))
theorem Yx {p:Prop}(h:p:=by simp only[go_sem,Nat.reduceBEq,Nat.reduceLeDiff,Nat.reduceLT,decide_true,Nat.reduceAdd,Nat.reduceSub,Nat.reduceMul,Int.reduceLE,Int.reduceLT,Int.reduceToNat,Int.reduceNeg,reduceCtorEq,fM];all_goals exact cl):p:=h
theorem j4:FnOk Tryz.prog 157 gX:=by
 have hG:ConsOk Tryz.prog (mkG [(203,fun l=>fM (bv [.sl .int,.o] l))] []):=ap (cgc (lm.norm [.sl .int,.o]) cg0) cg0;refine av [.o] mixed al hG (fn:=Tryz.f157) (c:=ae Tryz.f157) kr kr kr kr (bK fun s_=>(bq (bw fun k_=>(ai ((ai (fun hp=>?_)))))));dsimp only[ar]at hp;refine⟨nbl rfl,L0,ag _,?_⟩
 ·unfold ae Tryz.f157;try unfold ip
  exact Yx
def gY (s_:List Int)(k_:PleasCourt):Bool:=(decide ((iM s_ k_)≥0))
@[go_sem] def gE:List SV→Option Con:=(pR .int fun s_=>(pFn 209 (pXX .pleasCourt fun k_=>(pE ((pE (.det True (.v (.bool (gY s_ k_))))))))))
theorem jq:FnOk Tryz.prog 157 gE:=by
 have hG:ConsOk Tryz.prog (mkG [(203,fun l=>fM (bv [.sl .int,.o] l))] []):=ap (cgc (lm.norm [.sl .int,.o]) cg0) cg0;refine av [.o] mixed al hG (fn:=Tryz.f157) (c:=ae Tryz.f157) kr kr kr kr (bK fun s_=>(bq (bw fun k_=>(ai ((ai (fun hp=>?_)))))));dsimp only[ar]at hp;refine⟨nbl rfl,L0,ag _,?_⟩
 ·unfold ae Tryz.f157;try unfold gY
  exact Yx
@[go_sem] noncomputable def eN:List SV→Option Con:=fun l=>(orC (gX l) (gE l))
theorem jG:FnOk Tryz.prog 157 eN:=(FnOk.or j4 jq)
def j5 (k_:PleasCourt)(c:Clause):Bool:=(!(ip c.if_ k_))
@[go_sem] def j6:List SV→Option Con:=(pX .pleasCourt fun k_=>(pD .clause fun c=>(pE (.det True (.v (.bool (j5 k_ c)))))))
theorem Yy {p:Prop}(h:p:=by simp only[go_sem,Nat.reduceBEq,Nat.reduceLeDiff,Nat.reduceLT,decide_true,Nat.reduceAdd,Nat.reduceSub,Nat.reduceMul,Int.reduceLE,Int.reduceLT,Int.reduceToNat,Int.reduceNeg,reduceCtorEq,eN];all_goals exact cl):p:=h
theorem mb:FnOk Tryz.prog 165 j6:=by
 have hG:ConsOk Tryz.prog (mkG [(157,fun l=>eN (bv [.sl .int,.o] l))] []):=ap (cgc (jG.norm [.sl .int,.o]) cg0) cg0;refine av [.o] mixed al hG (fn:=Tryz.f165) (c:=ae Tryz.f165) kr kr kr kr (aO fun k_=>(bp fun c=>(ai (fun hp=>?_))));dsimp only[ar]at hp;refine⟨nbl rfl,L0,ag _,?_⟩
 ·unfold ae Tryz.f165;try unfold j5
  exact Yy
def ln (k_:PleasCourt)(c:Clause):Bool:=(gY c.if_ k_)
@[go_sem] def mc:List SV→Option Con:=(pX .pleasCourt fun k_=>(pD .clause fun c=>(pE (.det True (.v (.bool (ln k_ c)))))))
theorem oH:FnOk Tryz.prog 167 mc:=by
 have hG:ConsOk Tryz.prog (mkG [(157,fun l=>eN (bv [.sl .int,.o] l))] []):=ap (cgc (jG.norm [.sl .int,.o]) cg0) cg0;refine av [.o] mixed al hG (fn:=Tryz.f167) (c:=ae Tryz.f167) kr kr kr kr (aO fun k_=>(bp fun c=>(ai (fun hp=>?_))));dsimp only[ar]at hp;refine⟨nbl rfl,L0,ag _,?_⟩
 ·unfold ae Tryz.f167;try unfold ln
  exact Yy
def mF (c:Clause)(q:Int)(k_:PleasCourt):Bool:=((c.then_==q)&&(j5 k_ c))
@[go_sem] def py:List SV→Option Con:=(pD .clause fun c=>(pX .int fun q=>(pXX .pleasCourt fun k_=>(pE (.det True (.v (.bool (mF c q k_))))))))
theorem uL:FnOk Tryz.prog 169 py:=by
 have hG:ConsOk Tryz.prog (mkG [(165,fun l=>j6 (bv [.o,.st .clause] l))] []):=ap (cgc (mb.norm [.o,.st .clause]) cg0) cg0;refine av [.o] mixed al hG (fn:=Tryz.f169) (c:=ae Tryz.f169) kr kr kr kr (bp fun c=>(aO fun q=>(bw fun k_=>(ai (fun hp=>?_)))));dsimp only[ar]at hp;refine⟨nbl rfl,L0,ag _,?_⟩
 ·unfold ae Tryz.f169;try unfold mF
  exact zq1
@[go_sem] def fP (s_:List Clause)(q:Int)(k_:PleasCourt)(k_0:Nat)(s_0:Unit):Int⊕Unit:=(bif(mF (s_.getD k_0 default) q k_)then .inl (k_0:Int)else .inr ())
def d4 (s_:List Clause)(q:Int)(k_:PleasCourt):Int:=(match aq (fP s_ q k_) s_.length 0 ()with| .inl x_0_0=>x_0_0| .inr s_0=>(-1))
@[go_sem] def bj:List SV→Option Con:=(pR .clause fun s_=>(pFn 169 (pX .int fun q=>(pXX .pleasCourt fun k_=>(pE ((pE (.det True (.v (.int .i64 (d4 s_ q k_)))))))))))
theorem b7:FnOk Tryz.prog 156 bj:=by
 have hG:ConsOk Tryz.prog (mkG [(169,fun l=>py (bv [.st .clause,.o,.o] l))] []):=ap (cgc (uL.norm [.st .clause,.o,.o]) cg0) cg0;refine av [.o] mixed al hG (fn:=Tryz.f156) (c:=ae Tryz.f156) kr kr kr kr (bK fun s_=>(bq (aO fun q=>(bw fun k_=>(ai ((ai (fun hp=>?_))))))));dsimp only[ar]at hp;refine⟨nbl rfl,(fun id st=>bif Nat.beq id 0 then some (LCR (ρ:=Int) (σ:=Unit) 0 [] [] (fun k_0 s_0=>⟨[(0,.rs .clause s_),(1,.fn 169 [] [.ep [.v (.int .i64 q)] 0,.ep [.ep (cellsOf .pleasCourt k_) 0] 0]),(7,.v (.int .i64 (s_.length:Int))),(8,.v (.int .i64 (k_0:Int)))],[]⟩) (fP s_ q k_) pT s_.length () (s_.length≤aL) (fun _=>.ret) (fun x_0_0=>⟨[(4,.v (.int .i64 x_0_0))],[]⟩) st)else none),?_,?_⟩
 ·unfold ae Tryz.f156;simp only[am,true_and,and_true]
  ·refine aV mixed al hG kr (fun _=>rfl) (s_.length:Int) rfl ia (fun hb0 k_0 s_0 hlt0 _ hw hc=>⟨L0,ag _,?_⟩) (fun hb0 s_0 hc=>?_)
   ·exact bX (jl [])
   ·exact bH (jl [])
 ·unfold ae Tryz.f156;try unfold d4
  exact zq1
@[go_sem] noncomputable def dU:List SV→Option Con:=fun l=>(bj l)
theorem kR:FnOk Tryz.prog 156 dU:=b7
def kS (k_:PleasCourt)(q:Int):Int:=(i64.wrap (1+(d4 k_.plea.clauses q k_)))
@[go_sem] def rh:List SV→Option Con:=(pX .pleasCourt fun k_=>(pI fun q=>(pE (.det True (.v (.int .i64 (kS k_ q)))))))
theorem zq93 {p:Prop}(h:p:=by simp only[go_sem,Nat.reduceBEq,Nat.reduceLeDiff,Nat.reduceLT,decide_true,Nat.reduceAdd,Nat.reduceSub,Nat.reduceMul,Int.reduceLE,Int.reduceLT,Int.reduceToNat,Int.reduceNeg,reduceCtorEq,dU];all_goals exact cl):p:=h
theorem vS:FnOk Tryz.prog 133 rh:=by
 have hG:ConsOk Tryz.prog (mkG [(156,fun l=>dU (bv [.sl .clause,.o] l))] []):=ap (cgc (kR.norm [.sl .clause,.o]) cg0) cg0;refine av [.o] mixed al hG (fn:=Tryz.f133) (c:=ae Tryz.f133) kr kr kr kr (aO fun k_=>(dh fun q=>(ai (fun hp=>?_))));dsimp only[ar]at hp;refine⟨nbl rfl,L0,ag _,?_⟩
 ·unfold ae Tryz.f133;try unfold kS
  exact zq93
def kT (c:Clause)(k_:PleasCourt)(w_:Clause):Bool:=((j5 k_ c)&&(decide (c.rank > w_.rank)))
@[go_sem] def oa:List SV→Option Con:=(pD .clause fun c=>(pXX .pleasCourt fun k_=>(pX .clause fun w_=>(pE (.det True (.v (.bool (kT c k_ w_))))))))
theorem ta:FnOk Tryz.prog 168 oa:=by
 have hG:ConsOk Tryz.prog (mkG [(165,fun l=>j6 (bv [.o,.st .clause] l))] []):=ap (cgc (mb.norm [.o,.st .clause]) cg0) cg0;refine av [.o] mixed al hG (fn:=Tryz.f168) (c:=ae Tryz.f168) kr kr kr kr (bp fun c=>(bw fun k_=>(aO fun w_=>(ai (fun hp=>?_)))));dsimp only[ar]at hp;refine⟨nbl rfl,L0,ag _,?_⟩
 ·unfold ae Tryz.f168;try unfold kT
  exact zq1
def j7 (c:Clause)(k_:PleasCourt):Bool:=(!(ln k_ c))
@[go_sem] def nC:List SV→Option Con:=(pD .clause fun c=>(pXX .pleasCourt fun k_=>(pE (.det True (.v (.bool (j7 c k_)))))))
theorem sN:FnOk Tryz.prog 172 nC:=by
 have hG:ConsOk Tryz.prog (mkG [(167,fun l=>mc (bv [.o,.st .clause] l))] []):=ap (cgc (oH.norm [.o,.st .clause]) cg0) cg0;refine av [.o] mixed al hG (fn:=Tryz.f172) (c:=ae Tryz.f172) kr kr kr kr (bp fun c=>(bw fun k_=>(ai (fun hp=>?_))));dsimp only[ar]at hp;refine⟨nbl rfl,L0,ag _,?_⟩
 ·unfold ae Tryz.f172;try unfold j7
  exact zq1
def i0 (c:Clause)(k_:PleasCourt)(w_:Clause):Bool:=((!(ln k_ c))&&(decide (c.rank > w_.rank)))
@[go_sem] def mf:List SV→Option Con:=(pD .clause fun c=>(pXX .pleasCourt fun k_=>(pX .clause fun w_=>(pE (.det True (.v (.bool (i0 c k_ w_))))))))
theorem rL:FnOk Tryz.prog 175 mf:=by
 have hG:ConsOk Tryz.prog (mkG [(167,fun l=>mc (bv [.o,.st .clause] l))] []):=ap (cgc (oH.norm [.o,.st .clause]) cg0) cg0;refine av [.o] mixed al hG (fn:=Tryz.f175) (c:=ae Tryz.f175) kr kr kr kr (bp fun c=>(bw fun k_=>(aO fun w_=>(ai (fun hp=>?_)))));dsimp only[ar]at hp;refine⟨nbl rfl,L0,ag _,?_⟩
 ·unfold ae Tryz.f175;try unfold i0
  exact zq1
def mG (c:Clause)(q0:Int)(k2:PleasCourt):Bool:=((c.then_==q0)&&(j5 k2 c))
@[go_sem] def kU:List SV→Option Con:=(pD .clause fun c=>(pX .int fun q0=>(IB 165 (pX .pleasCourt fun k2=>(pE ((pE (.det True (.v (.bool (mG c q0 k2)))))))))))
theorem oT:FnOk Tryz.prog 207 kU:=by
 have hG:ConsOk Tryz.prog (mkG [(165,fun l=>j6 (bv [.o,.st .clause] l))] []):=ap (cgc (mb.norm [.o,.st .clause]) cg0) cg0;refine av [.o] mixed al hG (fn:=Tryz.f207) (c:=ae Tryz.f207) kr kr kr kr (bp fun c=>(aO fun q0=>(Cd (aO fun k2=>(ai ((ai (fun hp=>?_))))))));dsimp only[ar]at hp;refine⟨nbl rfl,L0,ag _,?_⟩
 ·unfold ae Tryz.f207;try unfold mG
  exact zq1
def mH (c:Clause)(q0:Int)(k2:PleasCourt)(w_:Clause):Bool:=((c.then_==q0)&&(kT c k2 w_))
@[go_sem] def kV:List SV→Option Con:=(pD .clause fun c=>(pX .int fun q0=>(pXF 168 (pXX .pleasCourt fun k2=>(pX .clause fun w_=>(pE ((pE (.det True (.v (.bool (mH c q0 k2 w_))))))))))))
theorem oU:FnOk Tryz.prog 207 kV:=by
 have hG:ConsOk Tryz.prog (mkG [(168,fun l=>oa (bv [.st .clause,.o,.o] l))] []):=ap (cgc (ta.norm [.st .clause,.o,.o]) cg0) cg0;refine av [.o] mixed al hG (fn:=Tryz.f207) (c:=ae Tryz.f207) kr kr kr kr (bp fun c=>(aO fun q0=>(kH (bw fun k2=>(aO fun w_=>(ai ((ai (fun hp=>?_)))))))));dsimp only[ar]at hp;refine⟨nbl rfl,L0,ag _,?_⟩
 ·unfold ae Tryz.f207;try unfold mH
  exact zq1
def mI (c:Clause)(q0:Int)(k2:PleasCourt):Bool:=((c.then_==q0)&&(j7 c k2))
@[go_sem] def kW:List SV→Option Con:=(pD .clause fun c=>(pX .int fun q0=>(pXF 172 (pXX .pleasCourt fun k2=>(pE ((pE (.det True (.v (.bool (mI c q0 k2)))))))))))
theorem oV:FnOk Tryz.prog 207 kW:=by
 have hG:ConsOk Tryz.prog (mkG [(172,fun l=>nC (bv [.st .clause,.o] l))] []):=ap (cgc (sN.norm [.st .clause,.o]) cg0) cg0;refine av [.o] mixed al hG (fn:=Tryz.f207) (c:=ae Tryz.f207) kr kr kr kr (bp fun c=>(aO fun q0=>(kH (bw fun k2=>(ai ((ai (fun hp=>?_))))))));dsimp only[ar]at hp;refine⟨nbl rfl,L0,ag _,?_⟩
 ·unfold ae Tryz.f207;try unfold mI
  exact zq1
def mJ (c:Clause)(q0:Int)(k2:PleasCourt)(w_:Clause):Bool:=((c.then_==q0)&&(i0 c k2 w_))
@[go_sem] def kX:List SV→Option Con:=(pD .clause fun c=>(pX .int fun q0=>(pXF 175 (pXX .pleasCourt fun k2=>(pX .clause fun w_=>(pE ((pE (.det True (.v (.bool (mJ c q0 k2 w_))))))))))))
theorem oW:FnOk Tryz.prog 207 kX:=by
 have hG:ConsOk Tryz.prog (mkG [(175,fun l=>mf (bv [.st .clause,.o,.o] l))] []):=ap (cgc (rL.norm [.st .clause,.o,.o]) cg0) cg0;refine av [.o] mixed al hG (fn:=Tryz.f207) (c:=ae Tryz.f207) kr kr kr kr (bp fun c=>(aO fun q0=>(kH (bw fun k2=>(aO fun w_=>(ai ((ai (fun hp=>?_)))))))));dsimp only[ar]at hp;refine⟨nbl rfl,L0,ag _,?_⟩
 ·unfold ae Tryz.f207;try unfold mJ
  exact zq1
@[go_sem] noncomputable def fa:List SV→Option Con:=fun l=>(orC (kU l) (orC (kV l) (orC (kW l) (kX l))))
theorem iq:FnOk Tryz.prog 207 fa:=(FnOk.or oT (FnOk.or oU (FnOk.or oV oW)))
@[go_sem] def fQ (s_:List Clause)(q0:Int)(k2:PleasCourt)(k_0:Nat)(s_0:Unit):Int⊕Unit:=(bif(mG (s_.getD k_0 default) q0 k2)then .inl (k_0:Int)else .inr ())
def d5 (s_:List Clause)(q0:Int)(k2:PleasCourt):Int:=(match aq (fQ s_ q0 k2) s_.length 0 ()with| .inl x_0_0=>x_0_0| .inr s_0=>(-1))
@[go_sem] def ce:List SV→Option Con:=(pR .clause fun s_=>(pFn 207 (pX .int fun q0=>(IB 165 (pX .pleasCourt fun k2=>(pE ((pE ((pE (.det True (.v (.int .i64 (d5 s_ q0 k2))))))))))))))
theorem Kg {p:Prop}(h:p:=by simp only[go_sem,Nat.reduceBEq,Nat.reduceLeDiff,Nat.reduceLT,decide_true,Nat.reduceAdd,Nat.reduceSub,Nat.reduceMul,Int.reduceLE,Int.reduceLT,Int.reduceToNat,Int.reduceNeg,reduceCtorEq,fa];all_goals exact cl):p:=h
theorem dx:FnOk Tryz.prog 156 ce:=by
 have hG:ConsOk Tryz.prog (mkG [(207,fun l=>fa (bv [.st .clause,.o,.o] l))] []):=ap (cgc (iq.norm [.st .clause,.o,.o]) cg0) cg0;refine av [.o] mixed al hG (fn:=Tryz.f156) (c:=ae Tryz.f156) kr kr kr kr (bK fun s_=>(bq (aO fun q0=>(Cd (aO fun k2=>(ai ((ai ((ai (fun hp=>?_)))))))))));dsimp only[ar]at hp;refine⟨nbl rfl,(fun id st=>bif Nat.beq id 0 then some (LCR (ρ:=Int) (σ:=Unit) 0 [] [] (fun k_0 s_0=>⟨[(0,.rs .clause s_),(1,.fn 207 [] [.ep [.v (.int .i64 q0)] 0,.ep [.fn 165 [.ep (cellsOf .pleasCourt k2) 0] []] 0]),(7,.v (.int .i64 (s_.length:Int))),(8,.v (.int .i64 (k_0:Int)))],[]⟩) (fQ s_ q0 k2) pT s_.length () (s_.length≤aL) (fun _=>.ret) (fun x_0_0=>⟨[(4,.v (.int .i64 x_0_0))],[]⟩) st)else none),?_,?_⟩
 ·unfold ae Tryz.f156;simp only[am,true_and,and_true]
  ·refine aV mixed al hG kr (fun _=>rfl) (s_.length:Int) rfl ia (fun hb0 k_0 s_0 hlt0 _ hw hc=>⟨L0,ag _,?_⟩) (fun hb0 s_0 hc=>?_)
   ·exact bX (jl [])
   ·exact bH (jl [])
 ·unfold ae Tryz.f156;try unfold d5
  exact Kg
@[go_sem] def fR (s_:List Clause)(q0:Int)(k2:PleasCourt)(w_:Clause)(k_0:Nat)(s_0:Unit):Int⊕Unit:=(bif(mH (s_.getD k_0 default) q0 k2 w_)then .inl (k_0:Int)else .inr ())
def d6 (s_:List Clause)(q0:Int)(k2:PleasCourt)(w_:Clause):Int:=(match aq (fR s_ q0 k2 w_) s_.length 0 ()with| .inl x_0_0=>x_0_0| .inr s_0=>(-1))
@[go_sem] def cg:List SV→Option Con:=(pR .clause fun s_=>(pFn 207 (pX .int fun q0=>(pXF 168 (pXX .pleasCourt fun k2=>(pX .clause fun w_=>(pE ((pE ((pE (.det True (.v (.int .i64 (d6 s_ q0 k2 w_)))))))))))))))
theorem dy:FnOk Tryz.prog 156 cg:=by
 have hG:ConsOk Tryz.prog (mkG [(207,fun l=>fa (bv [.st .clause,.o,.o] l))] []):=ap (cgc (iq.norm [.st .clause,.o,.o]) cg0) cg0;refine av [.o] mixed al hG (fn:=Tryz.f156) (c:=ae Tryz.f156) kr kr kr kr (bK fun s_=>(bq (aO fun q0=>(kH (bw fun k2=>(aO fun w_=>(ai ((ai ((ai (fun hp=>?_))))))))))));dsimp only[ar]at hp;refine⟨nbl rfl,(fun id st=>bif Nat.beq id 0 then some (LCR (ρ:=Int) (σ:=Unit) 0 [] [] (fun k_0 s_0=>⟨[(0,.rs .clause s_),(1,.fn 207 [] [.ep [.v (.int .i64 q0)] 0,.ep [.fn 168 [] [.ep [.ep (cellsOf .pleasCourt k2) 0] 0,.ep (cellsOf .clause w_) 0]] 0]),(7,.v (.int .i64 (s_.length:Int))),(8,.v (.int .i64 (k_0:Int)))],[]⟩) (fR s_ q0 k2 w_) pT s_.length () (s_.length≤aL) (fun _=>.ret) (fun x_0_0=>⟨[(4,.v (.int .i64 x_0_0))],[]⟩) st)else none),?_,?_⟩
 ·unfold ae Tryz.f156;simp only[am,true_and,and_true]
  ·refine aV mixed al hG kr (fun _=>rfl) (s_.length:Int) rfl ia (fun hb0 k_0 s_0 hlt0 _ hw hc=>⟨L0,ag _,?_⟩) (fun hb0 s_0 hc=>?_)
   ·exact bX (jl [])
   ·exact bH (jl [])
 ·unfold ae Tryz.f156;try unfold d6
  exact Kg
@[go_sem] def fS (s_:List Clause)(q0:Int)(k2:PleasCourt)(k_0:Nat)(s_0:Unit):Int⊕Unit:=(bif(mI (s_.getD k_0 default) q0 k2)then .inl (k_0:Int)else .inr ())
def d7 (s_:List Clause)(q0:Int)(k2:PleasCourt):Int:=(match aq (fS s_ q0 k2) s_.length 0 ()with| .inl x_0_0=>x_0_0| .inr s_0=>(-1))
@[go_sem] def ci:List SV→Option Con:=(pR .clause fun s_=>(pFn 207 (pX .int fun q0=>(pXF 172 (pXX .pleasCourt fun k2=>(pE ((pE ((pE (.det True (.v (.int .i64 (d7 s_ q0 k2))))))))))))))
theorem dz:FnOk Tryz.prog 156 ci:=by
 have hG:ConsOk Tryz.prog (mkG [(207,fun l=>fa (bv [.st .clause,.o,.o] l))] []):=ap (cgc (iq.norm [.st .clause,.o,.o]) cg0) cg0;refine av [.o] mixed al hG (fn:=Tryz.f156) (c:=ae Tryz.f156) kr kr kr kr (bK fun s_=>(bq (aO fun q0=>(kH (bw fun k2=>(ai ((ai ((ai (fun hp=>?_)))))))))));dsimp only[ar]at hp;refine⟨nbl rfl,(fun id st=>bif Nat.beq id 0 then some (LCR (ρ:=Int) (σ:=Unit) 0 [] [] (fun k_0 s_0=>⟨[(0,.rs .clause s_),(1,.fn 207 [] [.ep [.v (.int .i64 q0)] 0,.ep [.fn 172 [] [.ep [.ep (cellsOf .pleasCourt k2) 0] 0]] 0]),(7,.v (.int .i64 (s_.length:Int))),(8,.v (.int .i64 (k_0:Int)))],[]⟩) (fS s_ q0 k2) pT s_.length () (s_.length≤aL) (fun _=>.ret) (fun x_0_0=>⟨[(4,.v (.int .i64 x_0_0))],[]⟩) st)else none),?_,?_⟩
 ·unfold ae Tryz.f156;simp only[am,true_and,and_true]
  ·refine aV mixed al hG kr (fun _=>rfl) (s_.length:Int) rfl ia (fun hb0 k_0 s_0 hlt0 _ hw hc=>⟨L0,ag _,?_⟩) (fun hb0 s_0 hc=>?_)
   ·exact bX (jl [])
   ·exact bH (jl [])
 ·unfold ae Tryz.f156;try unfold d7
  exact Kg
@[go_sem] def fT (s_:List Clause)(q0:Int)(k2:PleasCourt)(w_:Clause)(k_0:Nat)(s_0:Unit):Int⊕Unit:=(bif(mJ (s_.getD k_0 default) q0 k2 w_)then .inl (k_0:Int)else .inr ())
def d8 (s_:List Clause)(q0:Int)(k2:PleasCourt)(w_:Clause):Int:=(match aq (fT s_ q0 k2 w_) s_.length 0 ()with| .inl x_0_0=>x_0_0| .inr s_0=>(-1))
@[go_sem] def cj:List SV→Option Con:=(pR .clause fun s_=>(pFn 207 (pX .int fun q0=>(pXF 175 (pXX .pleasCourt fun k2=>(pX .clause fun w_=>(pE ((pE ((pE (.det True (.v (.int .i64 (d8 s_ q0 k2 w_)))))))))))))))
theorem dA:FnOk Tryz.prog 156 cj:=by
 have hG:ConsOk Tryz.prog (mkG [(207,fun l=>fa (bv [.st .clause,.o,.o] l))] []):=ap (cgc (iq.norm [.st .clause,.o,.o]) cg0) cg0;refine av [.o] mixed al hG (fn:=Tryz.f156) (c:=ae Tryz.f156) kr kr kr kr (bK fun s_=>(bq (aO fun q0=>(kH (bw fun k2=>(aO fun w_=>(ai ((ai ((ai (fun hp=>?_))))))))))));dsimp only[ar]at hp;refine⟨nbl rfl,(fun id st=>bif Nat.beq id 0 then some (LCR (ρ:=Int) (σ:=Unit) 0 [] [] (fun k_0 s_0=>⟨[(0,.rs .clause s_),(1,.fn 207 [] [.ep [.v (.int .i64 q0)] 0,.ep [.fn 175 [] [.ep [.ep (cellsOf .pleasCourt k2) 0] 0,.ep (cellsOf .clause w_) 0]] 0]),(7,.v (.int .i64 (s_.length:Int))),(8,.v (.int .i64 (k_0:Int)))],[]⟩) (fT s_ q0 k2 w_) pT s_.length () (s_.length≤aL) (fun _=>.ret) (fun x_0_0=>⟨[(4,.v (.int .i64 x_0_0))],[]⟩) st)else none),?_,?_⟩
 ·unfold ae Tryz.f156;simp only[am,true_and,and_true]
  ·refine aV mixed al hG kr (fun _=>rfl) (s_.length:Int) rfl ia (fun hb0 k_0 s_0 hlt0 _ hw hc=>⟨L0,ag _,?_⟩) (fun hb0 s_0 hc=>?_)
   ·exact bX (jl [])
   ·exact bH (jl [])
 ·unfold ae Tryz.f156;try unfold d8
  exact Kg
@[go_sem] noncomputable def a_:List SV→Option Con:=fun l=>(orC (bj l) (orC (ce l) (orC (cg l) (orC (ci l) (cj l)))))
theorem cm:FnOk Tryz.prog 156 a_:=(FnOk.or b7 (FnOk.or dx (FnOk.or dy (FnOk.or dz dA))))
def dB (s_:List Clause)(q0:Int)(k2:PleasCourt):Bool:=(decide ((d5 s_ q0 k2)≥0))
@[go_sem] def bR:List SV→Option Con:=(pR .clause fun s_=>(pFn 207 (pX .int fun q0=>(IB 165 (pX .pleasCourt fun k2=>(pE ((pE ((pE (.det True (.v (.bool (dB s_ q0 k2))))))))))))))
theorem Kh {p:Prop}(h:p:=by simp only[go_sem,Nat.reduceBEq,Nat.reduceLeDiff,Nat.reduceLT,decide_true,Nat.reduceAdd,Nat.reduceSub,Nat.reduceMul,Int.reduceLE,Int.reduceLT,Int.reduceToNat,Int.reduceNeg,reduceCtorEq,a_];all_goals exact cl):p:=h
theorem c6:FnOk Tryz.prog 116 bR:=by
 have hG:ConsOk Tryz.prog (mkG [(156,fun l=>a_ (bv [.sl .clause,.o] l))] []):=ap (cgc (cm.norm [.sl .clause,.o]) cg0) cg0;refine av [.o] mixed al hG (fn:=Tryz.f116) (c:=ae Tryz.f116) kr kr kr kr (bK fun s_=>(bq (aO fun q0=>(Cd (aO fun k2=>(ai ((ai ((ai (fun hp=>?_)))))))))));dsimp only[ar]at hp;refine⟨nbl rfl,L0,ag _,?_⟩
 ·unfold ae Tryz.f116;try unfold dB
  exact Kh
def dC (s_:List Clause)(q0:Int)(k2:PleasCourt)(w_:Clause):Bool:=(decide ((d6 s_ q0 k2 w_)≥0))
@[go_sem] def bS:List SV→Option Con:=(pR .clause fun s_=>(pFn 207 (pX .int fun q0=>(pXF 168 (pXX .pleasCourt fun k2=>(pX .clause fun w_=>(pE ((pE ((pE (.det True (.v (.bool (dC s_ q0 k2 w_)))))))))))))))
theorem c7:FnOk Tryz.prog 116 bS:=by
 have hG:ConsOk Tryz.prog (mkG [(156,fun l=>a_ (bv [.sl .clause,.o] l))] []):=ap (cgc (cm.norm [.sl .clause,.o]) cg0) cg0;refine av [.o] mixed al hG (fn:=Tryz.f116) (c:=ae Tryz.f116) kr kr kr kr (bK fun s_=>(bq (aO fun q0=>(kH (bw fun k2=>(aO fun w_=>(ai ((ai ((ai (fun hp=>?_))))))))))));dsimp only[ar]at hp;refine⟨nbl rfl,L0,ag _,?_⟩
 ·unfold ae Tryz.f116;try unfold dC
  exact Kh
def dD (s_:List Clause)(q0:Int)(k2:PleasCourt):Bool:=(decide ((d7 s_ q0 k2)≥0))
@[go_sem] def bT:List SV→Option Con:=(pR .clause fun s_=>(pFn 207 (pX .int fun q0=>(pXF 172 (pXX .pleasCourt fun k2=>(pE ((pE ((pE (.det True (.v (.bool (dD s_ q0 k2))))))))))))))
theorem c8:FnOk Tryz.prog 116 bT:=by
 have hG:ConsOk Tryz.prog (mkG [(156,fun l=>a_ (bv [.sl .clause,.o] l))] []):=ap (cgc (cm.norm [.sl .clause,.o]) cg0) cg0;refine av [.o] mixed al hG (fn:=Tryz.f116) (c:=ae Tryz.f116) kr kr kr kr (bK fun s_=>(bq (aO fun q0=>(kH (bw fun k2=>(ai ((ai ((ai (fun hp=>?_)))))))))));dsimp only[ar]at hp;refine⟨nbl rfl,L0,ag _,?_⟩
 ·unfold ae Tryz.f116;try unfold dD
  exact Kh
def dE (s_:List Clause)(q0:Int)(k2:PleasCourt)(w_:Clause):Bool:=(decide ((d8 s_ q0 k2 w_)≥0))
@[go_sem] def bU:List SV→Option Con:=(pR .clause fun s_=>(pFn 207 (pX .int fun q0=>(pXF 175 (pXX .pleasCourt fun k2=>(pX .clause fun w_=>(pE ((pE ((pE (.det True (.v (.bool (dE s_ q0 k2 w_)))))))))))))))
theorem c9:FnOk Tryz.prog 116 bU:=by
 have hG:ConsOk Tryz.prog (mkG [(156,fun l=>a_ (bv [.sl .clause,.o] l))] []):=ap (cgc (cm.norm [.sl .clause,.o]) cg0) cg0;refine av [.o] mixed al hG (fn:=Tryz.f116) (c:=ae Tryz.f116) kr kr kr kr (bK fun s_=>(bq (aO fun q0=>(kH (bw fun k2=>(aO fun w_=>(ai ((ai ((ai (fun hp=>?_))))))))))));dsimp only[ar]at hp;refine⟨nbl rfl,L0,ag _,?_⟩
 ·unfold ae Tryz.f116;try unfold dE
  exact Kh
@[go_sem] noncomputable def aX:List SV→Option Con:=fun l=>(orC (bR l) (orC (bS l) (orC (bT l) (bU l))))
theorem bV:FnOk Tryz.prog 116 aX:=(FnOk.or c6 (FnOk.or c7 (FnOk.or c8 c9)))
def oI (k_:PleasCourt)(q:Int)(k2:PleasCourt):Bool:=(dB k_.plea.clauses q k2)
@[go_sem] def mK:List SV→Option Con:=(pX .pleasCourt fun k_=>(pI fun q=>(pFB 165 (pX .pleasCourt fun k2=>(pE ((pE (.det True (.v (.bool (oI k_ q k2)))))))))))
theorem Ki {p:Prop}(h:p:=by simp only[go_sem,Nat.reduceBEq,Nat.reduceLeDiff,Nat.reduceLT,decide_true,Nat.reduceAdd,Nat.reduceSub,Nat.reduceMul,Int.reduceLE,Int.reduceLT,Int.reduceToNat,Int.reduceNeg,reduceCtorEq,aX];all_goals exact cl):p:=h
theorem p9:FnOk Tryz.prog 164 mK:=by
 have hG:ConsOk Tryz.prog (mkG [(116,fun l=>aX (bv [.sl .clause,.o] l))] []):=ap (cgc (bV.norm [.sl .clause,.o]) cg0) cg0;refine av [.o] mixed al hG (fn:=Tryz.f164) (c:=ae Tryz.f164) kr kr kr kr (aO fun k_=>(dh fun q=>(QL (aO fun k2=>(ai ((ai (fun hp=>?_))))))));dsimp only[ar]at hp;refine⟨nbl rfl,L0,ag _,?_⟩
 ·unfold ae Tryz.f164;try unfold oI
  exact Ki
def oJ (k_:PleasCourt)(q:Int)(k2:PleasCourt)(w_:Clause):Bool:=(dC k_.plea.clauses q k2 w_)
@[go_sem] def mL:List SV→Option Con:=(pX .pleasCourt fun k_=>(pI fun q=>(pFn 168 (pXX .pleasCourt fun k2=>(pX .clause fun w_=>(pE ((pE (.det True (.v (.bool (oJ k_ q k2 w_))))))))))))
theorem p_:FnOk Tryz.prog 164 mL:=by
 have hG:ConsOk Tryz.prog (mkG [(116,fun l=>aX (bv [.sl .clause,.o] l))] []):=ap (cgc (bV.norm [.sl .clause,.o]) cg0) cg0;refine av [.o] mixed al hG (fn:=Tryz.f164) (c:=ae Tryz.f164) kr kr kr kr (aO fun k_=>(dh fun q=>(bq (bw fun k2=>(aO fun w_=>(ai ((ai (fun hp=>?_)))))))));dsimp only[ar]at hp;refine⟨nbl rfl,L0,ag _,?_⟩
 ·unfold ae Tryz.f164;try unfold oJ
  exact Ki
def oK (k_:PleasCourt)(q:Int)(k2:PleasCourt):Bool:=(dD k_.plea.clauses q k2)
@[go_sem] def mM:List SV→Option Con:=(pX .pleasCourt fun k_=>(pI fun q=>(pFn 172 (pXX .pleasCourt fun k2=>(pE ((pE (.det True (.v (.bool (oK k_ q k2)))))))))))
theorem qa:FnOk Tryz.prog 164 mM:=by
 have hG:ConsOk Tryz.prog (mkG [(116,fun l=>aX (bv [.sl .clause,.o] l))] []):=ap (cgc (bV.norm [.sl .clause,.o]) cg0) cg0;refine av [.o] mixed al hG (fn:=Tryz.f164) (c:=ae Tryz.f164) kr kr kr kr (aO fun k_=>(dh fun q=>(bq (bw fun k2=>(ai ((ai (fun hp=>?_))))))));dsimp only[ar]at hp;refine⟨nbl rfl,L0,ag _,?_⟩
 ·unfold ae Tryz.f164;try unfold oK
  exact Ki
def oL (k_:PleasCourt)(q:Int)(k2:PleasCourt)(w_:Clause):Bool:=(dE k_.plea.clauses q k2 w_)
@[go_sem] def mN:List SV→Option Con:=(pX .pleasCourt fun k_=>(pI fun q=>(pFn 175 (pXX .pleasCourt fun k2=>(pX .clause fun w_=>(pE ((pE (.det True (.v (.bool (oL k_ q k2 w_))))))))))))
theorem qb:FnOk Tryz.prog 164 mN:=by
 have hG:ConsOk Tryz.prog (mkG [(116,fun l=>aX (bv [.sl .clause,.o] l))] []):=ap (cgc (bV.norm [.sl .clause,.o]) cg0) cg0;refine av [.o] mixed al hG (fn:=Tryz.f164) (c:=ae Tryz.f164) kr kr kr kr (aO fun k_=>(dh fun q=>(bq (bw fun k2=>(aO fun w_=>(ai ((ai (fun hp=>?_)))))))));dsimp only[ar]at hp;refine⟨nbl rfl,L0,ag _,?_⟩
 ·unfold ae Tryz.f164;try unfold oL
  exact Ki
@[go_sem] noncomputable def jL:List SV→Option Con:=fun l=>(orC (mK l) (orC (mL l) (orC (mM l) (mN l))))
theorem ri:FnOk Tryz.prog 164 jL:=(FnOk.or p9 (FnOk.or p_ (FnOk.or qa qb)))
def mO (s_:Clause)(k_:PleasCourt)(q:Int):Bool:=((!(ln k_ s_))&&(!(oJ k_ q k_ s_)))
@[go_sem] def pz:List SV→Option Con:=(pD .clause fun s_=>(pXX .pleasCourt fun k_=>(pX .int fun q=>(pE (.det True (.v (.bool (mO s_ k_ q))))))))
theorem R9 {p:Prop}(h:p:=by simp only[go_sem,Nat.reduceBEq,Nat.reduceLeDiff,Nat.reduceLT,decide_true,Nat.reduceAdd,Nat.reduceSub,Nat.reduceMul,Int.reduceLE,Int.reduceLT,Int.reduceToNat,Int.reduceNeg,reduceCtorEq,jL];all_goals exact cl):p:=h
theorem uM:FnOk Tryz.prog 166 pz:=by
 have hG:ConsOk Tryz.prog (mkG [(164,jL),(167,fun l=>mc (bv [.o,.st .clause] l))] []):=ap (cgc ri (cgc (oH.norm [.o,.st .clause]) cg0)) cg0;refine av [.o] mixed al hG (fn:=Tryz.f166) (c:=ae Tryz.f166) kr kr kr kr (bp fun s_=>(bw fun k_=>(aO fun q=>(ai (fun hp=>?_)))));dsimp only[ar]at hp;refine⟨nbl rfl,L0,ag _,?_⟩
 ·unfold ae Tryz.f166;try unfold mO
  exact R9
def j8 (s_:Clause)(k_:PleasCourt)(q:Int):Bool:=((j5 k_ s_)&&(!(oL k_ q k_ s_)))
@[go_sem] def nD:List SV→Option Con:=(pD .clause fun s_=>(pXX .pleasCourt fun k_=>(pX .int fun q=>(pE (.det True (.v (.bool (j8 s_ k_ q))))))))
theorem sO:FnOk Tryz.prog 174 nD:=by
 have hG:ConsOk Tryz.prog (mkG [(164,jL),(165,fun l=>j6 (bv [.o,.st .clause] l))] []):=ap (cgc ri (cgc (mb.norm [.o,.st .clause]) cg0)) cg0;refine av [.o] mixed al hG (fn:=Tryz.f174) (c:=ae Tryz.f174) kr kr kr kr (bp fun s_=>(bw fun k_=>(aO fun q=>(ai (fun hp=>?_)))));dsimp only[ar]at hp;refine⟨nbl rfl,L0,ag _,?_⟩
 ·unfold ae Tryz.f174;try unfold j8
  exact R9
def mP (c:Clause)(q0:Int)(k2:PleasCourt)(q2:Int):Bool:=((c.then_==q0)&&(mO c k2 q2))
@[go_sem] def pA:List SV→Option Con:=(pD .clause fun c=>(pX .int fun q0=>(pXF 166 (pXX .pleasCourt fun k2=>(pX .int fun q2=>(pE ((pE (.det True (.v (.bool (mP c q0 k2 q2))))))))))))
theorem uN:FnOk Tryz.prog 207 pA:=by
 have hG:ConsOk Tryz.prog (mkG [(166,fun l=>pz (bv [.st .clause,.o,.o] l))] []):=ap (cgc (uM.norm [.st .clause,.o,.o]) cg0) cg0;refine av [.o] mixed al hG (fn:=Tryz.f207) (c:=ae Tryz.f207) kr kr kr kr (bp fun c=>(aO fun q0=>(kH (bw fun k2=>(aO fun q2=>(ai ((ai (fun hp=>?_)))))))));dsimp only[ar]at hp;refine⟨nbl rfl,L0,ag _,?_⟩
 ·unfold ae Tryz.f207;try unfold mP
  exact zq1
def mQ (c:Clause)(q0:Int)(k2:PleasCourt)(q2:Int):Bool:=((c.then_==q0)&&(j8 c k2 q2))
@[go_sem] def pC:List SV→Option Con:=(pD .clause fun c=>(pX .int fun q0=>(pXF 174 (pXX .pleasCourt fun k2=>(pX .int fun q2=>(pE ((pE (.det True (.v (.bool (mQ c q0 k2 q2))))))))))))
theorem uO:FnOk Tryz.prog 207 pC:=by
 have hG:ConsOk Tryz.prog (mkG [(174,fun l=>nD (bv [.st .clause,.o,.o] l))] []):=ap (cgc (sO.norm [.st .clause,.o,.o]) cg0) cg0;refine av [.o] mixed al hG (fn:=Tryz.f207) (c:=ae Tryz.f207) kr kr kr kr (bp fun c=>(aO fun q0=>(kH (bw fun k2=>(aO fun q2=>(ai ((ai (fun hp=>?_)))))))));dsimp only[ar]at hp;refine⟨nbl rfl,L0,ag _,?_⟩
 ·unfold ae Tryz.f207;try unfold mQ
  exact zq1
@[go_sem] noncomputable def iV:List SV→Option Con:=fun l=>(orC (kU l) (orC (kV l) (orC (kW l) (orC (kX l) (orC (pA l) (pC l))))))
theorem pF:FnOk Tryz.prog 207 iV:=(FnOk.or oT (FnOk.or oU (FnOk.or oV (FnOk.or oW (FnOk.or uN uO)))))
@[go_sem] def fU (s_:List Clause)(q0:Int)(k2:PleasCourt)(q2:Int)(k_0:Nat)(s_0:Unit):Int⊕Unit:=(bif(mP (s_.getD k_0 default) q0 k2 q2)then .inl (k_0:Int)else .inr ())
def d9 (s_:List Clause)(q0:Int)(k2:PleasCourt)(q2:Int):Int:=(match aq (fU s_ q0 k2 q2) s_.length 0 ()with| .inl x_0_0=>x_0_0| .inr s_0=>(-1))
@[go_sem] def dR:List SV→Option Con:=(pR .clause fun s_=>(pFn 207 (pX .int fun q0=>(pXF 166 (pXX .pleasCourt fun k2=>(pX .int fun q2=>(pE ((pE ((pE (.det True (.v (.int .i64 (d9 s_ q0 k2 q2)))))))))))))))
theorem R_ {p:Prop}(h:p:=by simp only[go_sem,Nat.reduceBEq,Nat.reduceLeDiff,Nat.reduceLT,decide_true,Nat.reduceAdd,Nat.reduceSub,Nat.reduceMul,Int.reduceLE,Int.reduceLT,Int.reduceToNat,Int.reduceNeg,reduceCtorEq,iV];all_goals exact cl):p:=h
theorem fV:FnOk Tryz.prog 156 dR:=by
 have hG:ConsOk Tryz.prog (mkG [(207,fun l=>iV (bv [.st .clause,.o,.o] l))] []):=ap (cgc (pF.norm [.st .clause,.o,.o]) cg0) cg0;refine av [.o] mixed al hG (fn:=Tryz.f156) (c:=ae Tryz.f156) kr kr kr kr (bK fun s_=>(bq (aO fun q0=>(kH (bw fun k2=>(aO fun q2=>(ai ((ai ((ai (fun hp=>?_))))))))))));dsimp only[ar]at hp;refine⟨nbl rfl,(fun id st=>bif Nat.beq id 0 then some (LCR (ρ:=Int) (σ:=Unit) 0 [] [] (fun k_0 s_0=>⟨[(0,.rs .clause s_),(1,.fn 207 [] [.ep [.v (.int .i64 q0)] 0,.ep [.fn 166 [] [.ep [.ep (cellsOf .pleasCourt k2) 0] 0,.ep [.v (.int .i64 q2)] 0]] 0]),(7,.v (.int .i64 (s_.length:Int))),(8,.v (.int .i64 (k_0:Int)))],[]⟩) (fU s_ q0 k2 q2) pT s_.length () (s_.length≤aL) (fun _=>.ret) (fun x_0_0=>⟨[(4,.v (.int .i64 x_0_0))],[]⟩) st)else none),?_,?_⟩
 ·unfold ae Tryz.f156;simp only[am,true_and,and_true]
  ·refine aV mixed al hG kr (fun _=>rfl) (s_.length:Int) rfl ia (fun hb0 k_0 s_0 hlt0 _ hw hc=>⟨L0,ag _,?_⟩) (fun hb0 s_0 hc=>?_)
   ·exact bX (jl [])
   ·exact bH (jl [])
 ·unfold ae Tryz.f156;try unfold d9
  exact R_
@[go_sem] def fW (s_:List Clause)(q0:Int)(k2:PleasCourt)(q2:Int)(k_0:Nat)(s_0:Unit):Int⊕Unit:=(bif(mQ (s_.getD k_0 default) q0 k2 q2)then .inl (k_0:Int)else .inr ())
def d_ (s_:List Clause)(q0:Int)(k2:PleasCourt)(q2:Int):Int:=(match aq (fW s_ q0 k2 q2) s_.length 0 ()with| .inl x_0_0=>x_0_0| .inr s_0=>(-1))
@[go_sem] def dS:List SV→Option Con:=(pR .clause fun s_=>(pFn 207 (pX .int fun q0=>(pXF 174 (pXX .pleasCourt fun k2=>(pX .int fun q2=>(pE ((pE ((pE (.det True (.v (.int .i64 (d_ s_ q0 k2 q2)))))))))))))))
theorem fX:FnOk Tryz.prog 156 dS:=by
 have hG:ConsOk Tryz.prog (mkG [(207,fun l=>iV (bv [.st .clause,.o,.o] l))] []):=ap (cgc (pF.norm [.st .clause,.o,.o]) cg0) cg0;refine av [.o] mixed al hG (fn:=Tryz.f156) (c:=ae Tryz.f156) kr kr kr kr (bK fun s_=>(bq (aO fun q0=>(kH (bw fun k2=>(aO fun q2=>(ai ((ai ((ai (fun hp=>?_))))))))))));dsimp only[ar]at hp;refine⟨nbl rfl,(fun id st=>bif Nat.beq id 0 then some (LCR (ρ:=Int) (σ:=Unit) 0 [] [] (fun k_0 s_0=>⟨[(0,.rs .clause s_),(1,.fn 207 [] [.ep [.v (.int .i64 q0)] 0,.ep [.fn 174 [] [.ep [.ep (cellsOf .pleasCourt k2) 0] 0,.ep [.v (.int .i64 q2)] 0]] 0]),(7,.v (.int .i64 (s_.length:Int))),(8,.v (.int .i64 (k_0:Int)))],[]⟩) (fW s_ q0 k2 q2) pT s_.length () (s_.length≤aL) (fun _=>.ret) (fun x_0_0=>⟨[(4,.v (.int .i64 x_0_0))],[]⟩) st)else none),?_,?_⟩
 ·unfold ae Tryz.f156;simp only[am,true_and,and_true]
  ·refine aV mixed al hG kr (fun _=>rfl) (s_.length:Int) rfl ia (fun hb0 k_0 s_0 hlt0 _ hw hc=>⟨L0,ag _,?_⟩) (fun hb0 s_0 hc=>?_)
   ·exact bX (jl [])
   ·exact bH (jl [])
 ·unfold ae Tryz.f156;try unfold d_
  exact R_
@[go_sem] noncomputable def cw:List SV→Option Con:=fun l=>(orC (bj l) (orC (ce l) (orC (cg l) (orC (ci l) (orC (cj l) (orC (dR l) (dS l)))))))
theorem gi:FnOk Tryz.prog 156 cw:=(FnOk.or b7 (FnOk.or dx (FnOk.or dy (FnOk.or dz (FnOk.or dA (FnOk.or fV fX))))))
def dF (s_:List Clause)(q0:Int)(k2:PleasCourt)(q2:Int):Bool:=(decide ((d9 s_ q0 k2 q2)≥0))
@[go_sem] def df:List SV→Option Con:=(pR .clause fun s_=>(pFn 207 (pX .int fun q0=>(pXF 166 (pXX .pleasCourt fun k2=>(pX .int fun q2=>(pE ((pE ((pE (.det True (.v (.bool (dF s_ q0 k2 q2)))))))))))))))
theorem Sa {p:Prop}(h:p:=by simp only[go_sem,Nat.reduceBEq,Nat.reduceLeDiff,Nat.reduceLT,decide_true,Nat.reduceAdd,Nat.reduceSub,Nat.reduceMul,Int.reduceLE,Int.reduceLT,Int.reduceToNat,Int.reduceNeg,reduceCtorEq,cw];all_goals exact cl):p:=h
theorem fl:FnOk Tryz.prog 116 df:=by
 have hG:ConsOk Tryz.prog (mkG [(156,fun l=>cw (bv [.sl .clause,.o] l))] []):=ap (cgc (gi.norm [.sl .clause,.o]) cg0) cg0;refine av [.o] mixed al hG (fn:=Tryz.f116) (c:=ae Tryz.f116) kr kr kr kr (bK fun s_=>(bq (aO fun q0=>(kH (bw fun k2=>(aO fun q2=>(ai ((ai ((ai (fun hp=>?_))))))))))));dsimp only[ar]at hp;refine⟨nbl rfl,L0,ag _,?_⟩
 ·unfold ae Tryz.f116;try unfold dF
  exact Sa
def dH (s_:List Clause)(q0:Int)(k2:PleasCourt)(q2:Int):Bool:=(decide ((d_ s_ q0 k2 q2)≥0))
@[go_sem] def dg:List SV→Option Con:=(pR .clause fun s_=>(pFn 207 (pX .int fun q0=>(pXF 174 (pXX .pleasCourt fun k2=>(pX .int fun q2=>(pE ((pE ((pE (.det True (.v (.bool (dH s_ q0 k2 q2)))))))))))))))
theorem fo:FnOk Tryz.prog 116 dg:=by
 have hG:ConsOk Tryz.prog (mkG [(156,fun l=>cw (bv [.sl .clause,.o] l))] []):=ap (cgc (gi.norm [.sl .clause,.o]) cg0) cg0;refine av [.o] mixed al hG (fn:=Tryz.f116) (c:=ae Tryz.f116) kr kr kr kr (bK fun s_=>(bq (aO fun q0=>(kH (bw fun k2=>(aO fun q2=>(ai ((ai ((ai (fun hp=>?_))))))))))));dsimp only[ar]at hp;refine⟨nbl rfl,L0,ag _,?_⟩
 ·unfold ae Tryz.f116;try unfold dH
  exact Sa
@[go_sem] noncomputable def bY:List SV→Option Con:=fun l=>(orC (bR l) (orC (bS l) (orC (bT l) (orC (bU l) (orC (df l) (dg l))))))
theorem fA:FnOk Tryz.prog 116 bY:=(FnOk.or c6 (FnOk.or c7 (FnOk.or c8 (FnOk.or c9 (FnOk.or fl fo)))))
def oM (k_:PleasCourt)(q:Int)(k2:PleasCourt)(q2:Int):Bool:=(dF k_.plea.clauses q k2 q2)
@[go_sem] def rj:List SV→Option Con:=(pX .pleasCourt fun k_=>(pI fun q=>(pFn 166 (pXX .pleasCourt fun k2=>(pX .int fun q2=>(pE ((pE (.det True (.v (.bool (oM k_ q k2 q2))))))))))))
theorem Sb {p:Prop}(h:p:=by simp only[go_sem,Nat.reduceBEq,Nat.reduceLeDiff,Nat.reduceLT,decide_true,Nat.reduceAdd,Nat.reduceSub,Nat.reduceMul,Int.reduceLE,Int.reduceLT,Int.reduceToNat,Int.reduceNeg,reduceCtorEq,bY];all_goals exact cl):p:=h
theorem vT:FnOk Tryz.prog 164 rj:=by
 have hG:ConsOk Tryz.prog (mkG [(116,fun l=>bY (bv [.sl .clause,.o] l))] []):=ap (cgc (fA.norm [.sl .clause,.o]) cg0) cg0;refine av [.o] mixed al hG (fn:=Tryz.f164) (c:=ae Tryz.f164) kr kr kr kr (aO fun k_=>(dh fun q=>(bq (bw fun k2=>(aO fun q2=>(ai ((ai (fun hp=>?_)))))))));dsimp only[ar]at hp;refine⟨nbl rfl,L0,ag _,?_⟩
 ·unfold ae Tryz.f164;try unfold oM
  exact Sb
def oN (k_:PleasCourt)(q:Int)(k2:PleasCourt)(q2:Int):Bool:=(dH k_.plea.clauses q k2 q2)
@[go_sem] def rq:List SV→Option Con:=(pX .pleasCourt fun k_=>(pI fun q=>(pFn 174 (pXX .pleasCourt fun k2=>(pX .int fun q2=>(pE ((pE (.det True (.v (.bool (oN k_ q k2 q2))))))))))))
theorem vU:FnOk Tryz.prog 164 rq:=by
 have hG:ConsOk Tryz.prog (mkG [(116,fun l=>bY (bv [.sl .clause,.o] l))] []):=ap (cgc (fA.norm [.sl .clause,.o]) cg0) cg0;refine av [.o] mixed al hG (fn:=Tryz.f164) (c:=ae Tryz.f164) kr kr kr kr (aO fun k_=>(dh fun q=>(bq (bw fun k2=>(aO fun q2=>(ai ((ai (fun hp=>?_)))))))));dsimp only[ar]at hp;refine⟨nbl rfl,L0,ag _,?_⟩
 ·unfold ae Tryz.f164;try unfold oN
  exact Sb
@[go_sem] noncomputable def il:List SV→Option Con:=fun l=>(orC (mK l) (orC (mL l) (orC (mM l) (orC (mN l) (orC (rj l) (rq l))))))
theorem mR:FnOk Tryz.prog 164 il:=(FnOk.or p9 (FnOk.or p_ (FnOk.or qa (FnOk.or qb (FnOk.or vT vU)))))
def kY (k_:PleasCourt)(q:Int):Bool:=(bif(du .int .bool k_.strict q)then true else(bif((du .int .bool k_.strict (i64.wrap (0 - q))) ||(!(oI k_ q k_)))then false else(!(oM k_ (i64.wrap (0 - q)) k_ q))))
@[go_sem] def rt:List SV→Option Con:=(pX .pleasCourt fun k_=>(pI fun q=>(pE (.det True (.v (.bool (kY k_ q)))))))
theorem Ol {p:Prop}(h:p:=by simp only[go_sem,Nat.reduceBEq,Nat.reduceLeDiff,Nat.reduceLT,decide_true,Nat.reduceAdd,Nat.reduceSub,Nat.reduceMul,Int.reduceLE,Int.reduceLT,Int.reduceToNat,Int.reduceNeg,reduceCtorEq,il];all_goals exact cl):p:=h
theorem vV:FnOk Tryz.prog 132 rt:=by
 have hG:ConsOk Tryz.prog (mkG [(164,il)] []):=ap (cgc mR cg0) cg0;refine av [.o] mixed al hG (fn:=Tryz.f132) (c:=ae Tryz.f132) kr kr kr kr (aO fun k_=>(dh fun q=>(ai (fun hp=>?_))));dsimp only[ar]at hp;refine⟨nbl rfl,L0,ag _,?_⟩
 ·unfold ae Tryz.f132;try unfold kY
  exact Ol
def lH (k_:PleasCourt)(q:Int):Bool:=(du .int .bool k_.strict (i64.wrap (0 - q)))
@[go_sem] def oX:List SV→Option Con:=(pXX .pleasCourt fun k_=>(pX .int fun q=>(pE (.det True (.v (.bool (lH k_ q)))))))
theorem t_:FnOk Tryz.prog 170 oX:=by
 have hG:ConsOk Tryz.prog (mkG [] []):=ap cg0 cg0;refine av [.o] mixed al hG (fn:=Tryz.f170) (c:=ae Tryz.f170) kr kr kr kr (bw fun k_=>(aO fun q=>(ai (fun hp=>?_))));dsimp only[ar]at hp;refine⟨nbl rfl,L0,ag _,?_⟩
 ·unfold ae Tryz.f170;try unfold lH
  exact zq1
def lI (k_:PleasCourt)(q:Int):Bool:=(!(oK k_ q k_))
@[go_sem] def oY:List SV→Option Con:=(pXX .pleasCourt fun k_=>(pX .int fun q=>(pE (.det True (.v (.bool (lI k_ q)))))))
theorem ua:FnOk Tryz.prog 171 oY:=by
 have hG:ConsOk Tryz.prog (mkG [(164,il)] []):=ap (cgc mR cg0) cg0;refine av [.o] mixed al hG (fn:=Tryz.f171) (c:=ae Tryz.f171) kr kr kr kr (bw fun k_=>(aO fun q=>(ai (fun hp=>?_))));dsimp only[ar]at hp;refine⟨nbl rfl,L0,ag _,?_⟩
 ·unfold ae Tryz.f171;try unfold lI
  exact Ol
def lJ (k_:PleasCourt)(q:Int):Bool:=(oN k_ (i64.wrap (0 - q)) k_ q)
@[go_sem] def oZ:List SV→Option Con:=(pXX .pleasCourt fun k_=>(pX .int fun q=>(pE (.det True (.v (.bool (lJ k_ q)))))))
theorem ub:FnOk Tryz.prog 173 oZ:=by
 have hG:ConsOk Tryz.prog (mkG [(164,il)] []):=ap (cgc mR cg0) cg0;refine av [.o] mixed al hG (fn:=Tryz.f173) (c:=ae Tryz.f173) kr kr kr kr (bw fun k_=>(aO fun q=>(ai (fun hp=>?_))));dsimp only[ar]at hp;refine⟨nbl rfl,L0,ag _,?_⟩
 ·unfold ae Tryz.f173;try unfold lJ
  exact Ol
@[go_sem] def CG (x:Int):List SV:=[.v (.int .i64 x)]
@[go_sem] def qt:List SV→Option Con:=(pE (.det True (.fn 159 [] [])))
theorem tM:FnOk Tryz.prog 119 qt:=by
 have hG:ConsOk Tryz.prog (mkG [] []):=ap cg0 cg0;refine av [.o] mixed al hG (fn:=Tryz.f119) (c:=ae Tryz.f119) kr kr kr kr (ai (fun hp=>?_));refine⟨nbl rfl,L0,ag _,?_⟩;unfold ae Tryz.f119;simp only[go_sem,G1,G3,Nat.reduceBEq,Nat.reduceLeDiff,Nat.reduceAdd,Nat.reduceSub,Nat.reduceMul]
@[go_sem] def im (k_0:Nat)(s_0:List Int×Int):(List Int)⊕(List Int×Int):=(bif(decide (s_0.2≤32))then(bif(s_0.2 !=0)then .inr ((s_0.1++[s_0.2]),(i64.wrap (s_0.2+1)))else .inr (s_0.1,(i64.wrap (s_0.2+1))))else .inl s_0.1)
def lK (items_:List (List SV))(k_0:Nat)(s_0:List Int×Int):Prop:=((decide (s_0.2≤32))=true→(((s_0.2 !=0)=true→(items_[s_0.1.length]? =some (CG s_0.2)))∧((s_0.2 !=0)=false→((s_0.2 !=0)=false))))
def aP:List Int:=(match aq (im) 66 0 (([]:List Int),(-32))with| .inl x_0_0=>x_0_0| .inr s_0=>default)
def eF (items_:List (List SV)):Prop:=(okI (im) (lK items_) 66 0 (([]:List Int),(-32))∧(∀ z_,aq (im) 66 0 (([]:List Int),(-32))≠ .inr z_)∧(∀ x_0_0,aq (im) 66 0 (([]:List Int),(-32))=.inl x_0_0→(items_.length=x_0_0.length)))
theorem r4 (items_:List (List SV))(hp:eF items_):GC Tryz.prog 159 (fun y=>[y]) [] items_:=by
 unfold eF at hp;refine N5 mixed al (fn:=Tryz.f159) (c:=ae Tryz.f159) kr kr kr kr rfl (n:=0) rfl (G:=fun r_=>EY [] [] (Lv items_ r_)) (fun r_ hy=>?_) (fun args w=>by kernel_rfl);have hG:ConsOk Tryz.prog (EY [] [] (Lv items_ r_)):=EZ cg0 cg0 hy;refine⟨hG,nbl rfl,(fun id st=>bif Nat.beq id 0 then some (Ud (ρ:=(List Int)) (σ:=(List Int×Int)) 1 [] [0] (fun k_0 s_0=>⟨[(0,.os 0),(2,.v (.int .i64 s_0.2))],[.ab (r_.1 (s_0.1.length+1))]⟩) (im) (lK items_) 66 (([]:List Int),(-32)) (fun _=>.normal) (fun x_0_0=>⟨[],[.ab (r_.1 (x_0_0.length+1))]⟩) ⟨[],[.ab (r_.1 0)]⟩ st)else none),?_,?_⟩
 ·unfold ae Tryz.f159;simp only[am,true_and,and_true]
  ·refine Lw mixed al hG kr (fun _=>rfl) fun k_0 s_0 hq0=>⟨L0,ag _,?_⟩
   ·unfold lK at hq0;exact Ui (jl [0])
 ·unfold ae Tryz.f159;exact Ui (jl [0])
def sP (q:Int)(m:List (Int×Bool)):Bool:=(!(du .int .bool m q))
@[go_sem] def uP:List SV→Option Con:=(pI fun q=>(pXM .int .bool fun m=>(pE (.det True (.v (.bool (sP q m)))))))
theorem zg:FnOk Tryz.prog 158 uP:=by
 have hG:ConsOk Tryz.prog (mkG [] []):=ap cg0 cg0;refine av [.o] mixed al hG (fn:=Tryz.f158) (c:=ae Tryz.f158) kr kr kr kr (dh fun q=>(yY fun m=>(ai (fun hp=>?_))));dsimp only[ar]at hp;refine⟨nbl rfl,L0,ag _,?_⟩
 ·unfold ae Tryz.f158;try unfold sP
  exact zq1
@[go_sem] def kD (s_:List Int)(m:List (Int×Bool))(k_0:Nat)(s_0:Unit):Int⊕Unit:=(bif(sP (s_.getD k_0 0) m)then .inl (k_0:Int)else .inr ())
def iN (s_:List Int)(m:List (Int×Bool)):Int:=(match aq (kD s_ m) s_.length 0 ()with| .inl x_0_0=>x_0_0| .inr s_0=>(-1))
@[go_sem] def lp:List SV→Option Con:=(pR .int fun s_=>(pFn 158 (pXM .int .bool fun m=>(pE ((pE (.det True (.v (.int .i64 (iN s_ m))))))))))
theorem ru:FnOk Tryz.prog 203 lp:=by
 have hG:ConsOk Tryz.prog (mkG [(158,uP)] []):=ap (cgc zg cg0) cg0;refine av [.o] mixed al hG (fn:=Tryz.f203) (c:=ae Tryz.f203) kr kr kr kr (bK fun s_=>(bq (yY fun m=>(ai ((ai (fun hp=>?_)))))));dsimp only[ar]at hp;refine⟨nbl rfl,(fun id st=>bif Nat.beq id 0 then some (LCR (ρ:=Int) (σ:=Unit) 0 [] [] (fun k_0 s_0=>⟨[(0,.rs .int s_),(1,.fn 158 [] [.ep [.rm .int .bool m] 0]),(7,.v (.int .i64 (s_.length:Int))),(8,.v (.int .i64 (k_0:Int)))],[]⟩) (kD s_ m) pT s_.length () (s_.length≤aL) (fun _=>.ret) (fun x_0_0=>⟨[(4,.v (.int .i64 x_0_0))],[]⟩) st)else none),?_,?_⟩
 ·unfold ae Tryz.f203;simp only[am,true_and,and_true]
  ·refine aV mixed al hG kr (fun _=>rfl) (s_.length:Int) rfl ia (fun hb0 k_0 s_0 hlt0 _ hw hc=>⟨L0,ag _,?_⟩) (fun hb0 s_0 hc=>?_)
   ·exact bX (jl [])
   ·exact bH (jl [])
 ·unfold ae Tryz.f203;try unfold iN
  exact zq1
@[go_sem] noncomputable def ir:List SV→Option Con:=fun l=>(orC (iL l) (orC (ig l) (lp l)))
theorem rM:FnOk Tryz.prog 203 ir:=(FnOk.or ma (FnOk.or kC ru))
def gZ (s_:List Int)(m:List (Int×Bool)):Bool:=(decide ((iN s_ m)≥0))
@[go_sem] def jH:List SV→Option Con:=(pR .int fun s_=>(pFn 158 (pXM .int .bool fun m=>(pE ((pE (.det True (.v (.bool (gZ s_ m))))))))))
theorem Yz {p:Prop}(h:p:=by simp only[go_sem,Nat.reduceBEq,Nat.reduceLeDiff,Nat.reduceLT,decide_true,Nat.reduceAdd,Nat.reduceSub,Nat.reduceMul,Int.reduceLE,Int.reduceLT,Int.reduceToNat,Int.reduceNeg,reduceCtorEq,ir];all_goals exact cl):p:=h
theorem pG:FnOk Tryz.prog 157 jH:=by
 have hG:ConsOk Tryz.prog (mkG [(203,fun l=>ir (bv [.sl .int,.o] l))] []):=ap (cgc (rM.norm [.sl .int,.o]) cg0) cg0;refine av [.o] mixed al hG (fn:=Tryz.f157) (c:=ae Tryz.f157) kr kr kr kr (bK fun s_=>(bq (yY fun m=>(ai ((ai (fun hp=>?_)))))));dsimp only[ar]at hp;refine⟨nbl rfl,L0,ag _,?_⟩
 ·unfold ae Tryz.f157;try unfold gZ
  exact Yz
@[go_sem] noncomputable def gK:List SV→Option Con:=fun l=>(orC (gX l) (orC (gE l) (jH l)))
theorem pY:FnOk Tryz.prog 157 gK:=(FnOk.or j4 (FnOk.or jq pG))
@[go_sem] def oo (p:Plea)(k_0:Nat)(s_0:List (Int×Bool)):Empty⊕(List (Int×Bool)):=.inr (iX .int .bool s_0 (p.facts.getD k_0 0) true)
@[go_sem] def vK (p:Plea)(s_1:List (Int×Bool))(k_2:Nat)(s_2:Unit):(List (Int×Bool))⊕Unit:=letI q0:=p.clauses.getD k_2 default;(bif((q0.strict&&(!(du .int .bool s_1 (q0.then_))))&&(!(gZ (q0.if_) s_1)))then .inl (iX .int .bool s_1 (q0.then_) true)else .inr ())
@[go_sem] def rN (p:Plea)(k_1:Nat)(s_1:List (Int×Bool)):(List (Int×Bool))⊕(List (Int×Bool)):=(match aq (vK p s_1) p.clauses.length 0 ()with| .inl x_2_0=>.inr x_2_0| .inr s_2=>.inl s_1)
def fv (p:Plea):List (Int×Bool):=(match aq (oo p) p.facts.length 0 ([])with| .inl x=>x.elim| .inr s_0=>(match aq (rN p) (p.clauses.length+1) 0 s_0 with| .inl x_1_0=>x_1_0| .inr s_1=>default))
def iO (p:Plea):Prop:=(p.facts.length≤aL→(∀ s_0,aq (oo p) p.facts.length 0 ([])=.inr s_0→(∀ z_,aq (rN p) (p.clauses.length+1) 0 s_0≠ .inr z_)))
@[go_sem] def sQ:List SV→Option Con:=(pD .plea fun p=>(pE (.det (iO p) (.nm .int .bool (fv p)))))
theorem YA {p:Prop}(h:p:=by simp only[go_sem,Nat.reduceBEq,Nat.reduceLeDiff,Nat.reduceLT,decide_true,Nat.reduceAdd,Nat.reduceSub,Nat.reduceMul,Int.reduceLE,Int.reduceLT,Int.reduceToNat,Int.reduceNeg,reduceCtorEq,gK];all_goals exact cl):p:=h
theorem vL:FnOk Tryz.prog 118 sQ:=by
 have hG:ConsOk Tryz.prog (mkG [(157,fun l=>gK (bv [.sl .int,.o] l))] []):=ap (cgc (pY.norm [.sl .int,.o]) cg0) cg0;refine Is true mixed al hG (fn:=Tryz.f118) (c:=ae Tryz.f118) kr kr kr kr (bp fun p=>(ai (fun hp=>?_)));dsimp only[ar]at hp;unfold iO at hp;refine⟨nbl rfl,(fun id st=>bif Nat.beq id 0 then some (LCR (ρ:=Empty) (σ:=(List (Int×Bool))) 3 [] [0,1,2] (fun k_0 s_0=>⟨[(1,.ptr 0 0),(3,.ptr 2 0),(11,.rs .int p.facts),(12,.v (.int .i64 (p.facts.length:Int))),(13,.v (.int .i64 (k_0:Int)))],[.cells (cellsOf .plea p),.mp .int .bool s_0 none,.cells [.os 1]]⟩) (oo p) pT p.facts.length ([]) (p.facts.length≤aL) ((·.elim)) ((·.elim)) st)else bif Nat.beq id 2 then some (LCV (ρ:=(List (Int×Bool))) (σ:=(List (Int×Bool))) 3 [] [0,1,2] (fun k_1 s_1=>⟨[(1,.ptr 0 0),(3,.ptr 2 0)],[.cells (cellsOf .plea p),.mp .int .bool s_1 none,.cells [.os 1]]⟩) (rN p) pT (p.clauses.length+1) (dL (aq (oo p) p.facts.length 0 ([]))) (fun _=>.ret) (fun x_1_0=>⟨[(2,.os 3)],[.dead,.dead,.dead,.mp .int .bool x_1_0 none]⟩) st)else none),?_,?_⟩
 ·unfold ae Tryz.f118;simp only[am,true_and,and_true];refine⟨?_,?_⟩
  ·refine aV mixed al hG kr (fun _=>rfl) (p.facts.length:Int) rfl ia (fun hb0 k_0 s_0 hlt0 _ hw hc=>⟨L0,ag _,?_⟩) (fun hb0 s_0 hc=>?_)
   ·exact bX (jl [0,1,2])
   ·exact bH (jl [0,1,2])
  ·refine uD mixed al hG kr (fun _=>rfl) fun k_1 s_1 _=>⟨(fun id st=>bif Nat.beq id 4 then some (LCR (ρ:=(List (Int×Bool))) (σ:=Unit) 3 [] [0,1,2] (fun k_2 s_2=>⟨[(1,.ptr 0 0),(3,.ptr 2 0),(21,.rs .clause p.clauses),(22,.v (.int .i64 (p.clauses.length:Int))),(23,.v (.int .i64 (k_2:Int)))],[.cells (cellsOf .plea p),.mp .int .bool s_1 none,.cells [.os 1]]⟩) (vK p s_1) pT p.clauses.length () (p.clauses.length≤aL) (fun _=>.exit 3) (fun x_2_0=>⟨[(1,.ptr 0 0),(3,.ptr 2 0)],[.cells (cellsOf .plea p),.mp .int .bool x_2_0 none,.cells [.os 1]]⟩) st)else none),?_,?_⟩
   ·simp only[am,true_and,and_true]
    ·refine aV mixed al hG kr (fun _=>rfl) (p.clauses.length:Int) rfl ia (fun hb2 k_2 s_2 hlt2 _ hw hc=>⟨L0,ag _,?_⟩) (fun hb2 s_2 hc=>?_)
     ·exact bX (jl [0,1,2])
     ·exact bH (jl [0,1,2])
   ·exact G4 (jl [0,1,2]) (jl [0,1,2,1])
 ·unfold ae Tryz.f118;try unfold fv
  exact YA
@[go_sem] def fY (s_:List Clause)(k_0:Nat)(s_0:Unit):Int⊕Unit:=(bif(t8 (s_.getD k_0 default))then .inl (k_0:Int)else .inr ())
def ed (s_:List Clause):Int:=(match aq (fY s_) s_.length 0 ()with| .inl x_0_0=>x_0_0| .inr s_0=>(-1))
@[go_sem] def gj:List SV→Option Con:=(pR .clause fun s_=>(pFn 115 (pE ((pE (.det True (.v (.int .i64 (ed s_)))))))))
theorem kw:FnOk Tryz.prog 156 gj:=by
 have hG:ConsOk Tryz.prog (mkG [(115,fun l=>vJ (bv [.st .clause] l))] []):=ap (cgc (z7.norm [.st .clause]) cg0) cg0;refine av [.o] mixed al hG (fn:=Tryz.f156) (c:=ae Tryz.f156) kr kr kr kr (bK fun s_=>(bq (ai ((ai (fun hp=>?_))))));dsimp only[ar]at hp;refine⟨nbl rfl,(fun id st=>bif Nat.beq id 0 then some (LCR (ρ:=Int) (σ:=Unit) 0 [] [] (fun k_0 s_0=>⟨[(0,.rs .clause s_),(1,.fn 115 [] []),(7,.v (.int .i64 (s_.length:Int))),(8,.v (.int .i64 (k_0:Int)))],[]⟩) (fY s_) pT s_.length () (s_.length≤aL) (fun _=>.ret) (fun x_0_0=>⟨[(4,.v (.int .i64 x_0_0))],[]⟩) st)else none),?_,?_⟩
 ·unfold ae Tryz.f156;simp only[am,true_and,and_true]
  ·refine aV mixed al hG kr (fun _=>rfl) (s_.length:Int) rfl ia (fun hb0 k_0 s_0 hlt0 _ hw hc=>⟨L0,ag _,?_⟩) (fun hb0 s_0 hc=>?_)
   ·exact bX (jl [])
   ·exact bH (jl [])
 ·unfold ae Tryz.f156;try unfold ed
  exact zq1
@[go_sem] noncomputable def dV:List SV→Option Con:=fun l=>(orC (bj l) (orC (ce l) (orC (cg l) (orC (ci l) (orC (cj l) (orC (dR l) (orC (dS l) (gj l))))))))
theorem kZ:FnOk Tryz.prog 156 dV:=(FnOk.or b7 (FnOk.or dx (FnOk.or dy (FnOk.or dz (FnOk.or dA (FnOk.or fV (FnOk.or fX kw)))))))
def b8 (s_:List Clause):Bool:=(decide ((ed s_)≥0))
@[go_sem] def fB:List SV→Option Con:=(pR .clause fun s_=>(pFn 115 (pE ((pE (.det True (.v (.bool (b8 s_)))))))))
theorem YB {p:Prop}(h:p:=by simp only[go_sem,Nat.reduceBEq,Nat.reduceLeDiff,Nat.reduceLT,decide_true,Nat.reduceAdd,Nat.reduceSub,Nat.reduceMul,Int.reduceLE,Int.reduceLT,Int.reduceToNat,Int.reduceNeg,reduceCtorEq,dV];all_goals exact cl):p:=h
theorem jB:FnOk Tryz.prog 116 fB:=by
 have hG:ConsOk Tryz.prog (mkG [(156,fun l=>dV (bv [.sl .clause,.o] l))] []):=ap (cgc (kZ.norm [.sl .clause,.o]) cg0) cg0;refine av [.o] mixed al hG (fn:=Tryz.f116) (c:=ae Tryz.f116) kr kr kr kr (bK fun s_=>(bq (ai ((ai (fun hp=>?_))))));dsimp only[ar]at hp;refine⟨nbl rfl,L0,ag _,?_⟩
 ·unfold ae Tryz.f116;try unfold b8
  exact YB
@[go_sem] noncomputable def bb:List SV→Option Con:=fun l=>(orC (bR l) (orC (bS l) (orC (bT l) (orC (bU l) (orC (df l) (orC (dg l) (fB l)))))))
theorem jK:FnOk Tryz.prog 116 bb:=(FnOk.or c6 (FnOk.or c7 (FnOk.or c8 (FnOk.or c9 (FnOk.or fl (FnOk.or fo jB))))))
@[go_sem] def sR (a0:Plea)(k_0:Nat)(s_0:Bool×Int):Empty⊕(Bool×Int):=letI q0:=a0.clauses.getD k_0 default;.inr (((((((s_0.1&&(decide (q0.no > s_0.2)))&&(decide (q0.no≤1048576)))&&(iA (q0.then_)))&&(decide (q0.rank≥0)))&&(decide (q0.rank≤1048576)))&&(nu (q0.if_))),q0.no)
def ka (a0:Plea)(k_0:Nat)(s_0:Bool×Int):Prop:=letI q0:=a0.clauses.getD k_0 default;((((((s_0.1&&(decide (q0.no > s_0.2)))&&(decide (q0.no≤1048576)))&&(iA (q0.then_)))&&(decide (q0.rank≥0)))&&(decide (q0.rank≤1048576)))=true→(j3 (q0.if_)))
@[go_sem] def pH (a0:Plea)(z_1:Int)(s_1:Unit):Unit⊕Unit:=(bif((du .int .bool (fv a0) z_1)&&(du .int .bool (fv a0) (i64.wrap (0 - z_1))))then .inl ()else .inr ())
def z8 (a0:Plea)(z_1:Int)(s_1:Unit):Prop:=True
def jr (a0:Plea):Int:=(bif(((decide ((a0.facts.length:Int) > 64)) ||(decide ((a0.clauses.length:Int) > 64))) ||(b8 a0.clauses))then 2 else(match aq (sR a0) a0.clauses.length 0 ((nu a0.facts),(-1))with| .inl x=>x.elim| .inr s_0=>(bif(!s_0.1)then 510 else(match gD (pH a0) aP ()with| .inl x_1_0=>510| .inr s_1=>0))))
def jC (a0:Plea):Prop:=letI q0:=((nu a0.facts),(-1));letI q1:=sR a0;(a0.facts.length≤aL→((((decide ((a0.facts.length:Int) > 64)) ||(decide ((a0.clauses.length:Int) > 64))) ||(b8 a0.clauses))=false→((j3 a0.facts)∧(a0.clauses.length≤aL→(okI q1 (ka a0) a0.clauses.length 0 q0∧(∀ s_0,aq q1 a0.clauses.length 0 q0=.inr s_0→((!s_0.1)=false→((iO a0)∧(eF ((aP).map CG))))))))))
@[go_sem] def qG:List SV→Option Con:=(pD .plea fun a0=>(pE (.det (jC a0) (.v (.int .i64 (jr a0))))))
theorem YC {l0:List Nat}(a0:JL l0){p:Prop}(h:JL l0→p:=by intro ja;simp only[go_sem,Nat.reduceBEq,Nat.reduceLeDiff,Nat.reduceLT,decide_true,Nat.reduceAdd,Nat.reduceSub,Nat.reduceMul,Int.reduceLE,Int.reduceLT,Int.reduceToNat,Int.reduceNeg,reduceCtorEq,bb,pH,psT,CG,List.cons_append,List.nil_append];all_goals exact gT ja):p:=h a0
theorem Sc {l0:List Nat}(a0:JL l0){p:Prop}(h:JL l0→p:=by intro ja;simp only[go_sem,Nat.reduceBEq,Nat.reduceLeDiff,Nat.reduceLT,decide_true,Nat.reduceAdd,Nat.reduceSub,Nat.reduceMul,Int.reduceLE,Int.reduceLT,Int.reduceToNat,Int.reduceNeg,reduceCtorEq,bb];all_goals exact gT ja):p:=h a0
theorem YD {p:Prop}(h:p:=by simp only[go_sem,Nat.reduceBEq,Nat.reduceLeDiff,Nat.reduceLT,decide_true,Nat.reduceAdd,Nat.reduceSub,Nat.reduceMul,Int.reduceLE,Int.reduceLT,Int.reduceToNat,Int.reduceNeg,reduceCtorEq,bb];all_goals exact cl):p:=h
theorem sS:FnOk Tryz.prog 67 qG:=by
 have hG:ConsOk Tryz.prog (mkG [(83,ol),(116,fun l=>bb (bv [.sl .clause,.o] l)),(117,fun l=>wT (bv [.sl .int] l)),(118,fun l=>sQ (bv [.st .plea] l)),(119,fun l=>qt (bv [] l))] []):=ap (cgc qr (cgc (jK.norm [.sl .clause,.o]) (cgc (AO.norm [.sl .int]) (cgc (vL.norm [.st .plea]) (cgc (tM.norm []) cg0))))) cg0;refine av [.o] mixed al hG (fn:=Tryz.f67) (c:=ae Tryz.f67) kr kr kr kr (bp fun a0=>(ai (fun hp=>?_)));dsimp only[ar]at hp;unfold jC at hp;refine⟨nbl rfl,(fun id st=>bif Nat.beq id 0 then some (LCR (ρ:=Empty) (σ:=(Bool×Int)) 2 [] [0,1] (fun k_0 s_0=>⟨[(1,.ptr 0 0),(2,.ptr 1 0),(4,.v (.bool s_0.1)),(5,.v (.int .i64 s_0.2)),(30,.rs .clause a0.clauses),(31,.v (.int .i64 (a0.clauses.length:Int))),(32,.v (.int .i64 (k_0:Int)))],[.cells (cellsOf .plea a0),.cells [.v (.int .i64 0)]]⟩) (sR a0) (ka a0) a0.clauses.length ((nu a0.facts),(-1)) (a0.clauses.length≤aL) ((·.elim)) ((·.elim)) st)else bif Nat.beq id 2 then some (LC (ρ:=Unit) (σ:=Unit) (lk 2 st.t=.ptr 1 0∧lk 8 st.t=.ptr 3 0∧lk 75 st.t=.fn 159 [] []∧st.h=[.cells (cellsOf .plea a0),.cells [.v (.int .i64 0)],.mp .int .bool (fv a0) none,.cells [.os 2]]∧eF ((aP).map CG)) (gD (pH a0) aP ()) (fun _=>.ret) (fun x_1_0=>⟨[(2,.ptr 1 0),(8,.ptr 3 0)],[.dead,.cells [.v (.int .i64 510)],.mp .int .bool (fv a0) none,.cells [.os 2]]⟩) (fun s_1=>⟨[(2,.ptr 1 0),(8,.ptr 3 0)],[.dead,.cells [.v (.int .i64 0)],.mp .int .bool (fv a0) none,.cells [.os 2]]⟩))else none),?_,?_⟩
 ·unfold ae Tryz.f67;simp only[am,true_and,and_true];refine⟨?_,?_⟩
  ·refine aV mixed al hG kr (fun _=>rfl) (a0.clauses.length:Int) rfl ia (fun hb0 k_0 s_0 hlt0 hq0 hw hc=>⟨L0,ag _,?_⟩) (fun hb0 s_0 hc=>?_)
   ·unfold ka at hq0;try simp only[hw,Int.toNat_natCast]at hq0
    exact bX (jl [0,1])
   ·exact bH (jl [0,1])
  ·refine zJ mixed al hG (by decide) (by decide) kr kr fun st lc hC hp=>?_;simp only[go_sem,Nat.reduceBEq,Option.some.injEq]at hC;subst hC;obtain⟨t,h⟩:=st;dsimp only[LC]at hp;obtain⟨e1_0,e1_1,e1_2,rfl,hb1⟩:=hp;refine⟨159,[],Int,_,_,aP,CG,(pH a0),(z8 a0),_,(),_,_,_,[(2,.ptr 1 0),(8,.ptr 3 0)],(fun s_1=>[.dead,.cells [.v (.int .i64 0)],.mp .int .bool (fv a0) none,.cells [.os 2]]),(fun x_1_0=>[.dead,.cells [.v (.int .i64 510)],.mp .int .bool (fv a0) none,.cells [.os 2]]),[0,1,2,3],?_,rfl,E1 _ _ fun _ _ _=>trivial,nbl rfl,?_,r4 _ hb1,fun z_1 s_1 hq1=>⟨rfl,L0,fun l=>?_,fun l=>?_,?_⟩,fun s_1=>?_,fun y=>?_⟩
   ·simp only[go_sem,e1_0,e1_1,e1_2]
   ·simp only[go_sem,Nat.reduceBEq,Nat.reduceLeDiff,Nat.reduceLT,decide_true,Nat.reduceAdd,Nat.reduceSub,Nat.reduceMul,Int.reduceLE,Int.reduceLT,Int.reduceToNat,Int.reduceNeg,reduceCtorEq,wu,ox,List.flatMap_cons,List.flatMap_nil,List.nil_append,List.append_nil,List.map_nil,e1_0,e1_1,e1_2];all_goals (first|done|decide|(repeat' (first|refine And.intro ?_ ?_|rfl|decide)))
   ·simp only[am,and_self,true_and,and_true]
   ·simp only[am,and_self,true_and,and_true]
   ·skip
    exact YC (jl [0,1,2,3])
   ·exact Sc (jl [0,1,2,3])
   ·exact Sc (jl [0,1,2,3])
 ·unfold ae Tryz.f67;try unfold jr
  exact YD
def kc (k1:PleasCourt)(q1:Int):Bool:=(lH k1 q1)
@[go_sem] def nE:List SV→Option Con:=(pFn 170 (pXX .pleasCourt fun k1=>(pX .int fun q1=>(pE ((pE (.det True (.v (.bool (kc k1 q1))))))))))
theorem sT:FnOk Tryz.prog 177 nE:=by
 have hG:ConsOk Tryz.prog (mkG [(170,oX)] []):=ap (cgc t_ cg0) cg0;refine av [.o] mixed al hG (fn:=Tryz.f177) (c:=ae Tryz.f177) kr kr kr kr (bq (bw fun k1=>(aO fun q1=>(ai ((ai (fun hp=>?_)))))));dsimp only[ar]at hp;refine⟨nbl rfl,L0,ag _,?_⟩
 ·unfold ae Tryz.f177;try unfold kc
  exact zq1
def ke (k2:PleasCourt)(q2:Int):Bool:=(lI k2 q2)
@[go_sem] def nF:List SV→Option Con:=(pFn 171 (pXX .pleasCourt fun k2=>(pX .int fun q2=>(pE ((pE (.det True (.v (.bool (ke k2 q2))))))))))
theorem sU:FnOk Tryz.prog 177 nF:=by
 have hG:ConsOk Tryz.prog (mkG [(171,oY)] []):=ap (cgc ua cg0) cg0;refine av [.o] mixed al hG (fn:=Tryz.f177) (c:=ae Tryz.f177) kr kr kr kr (bq (bw fun k2=>(aO fun q2=>(ai ((ai (fun hp=>?_)))))));dsimp only[ar]at hp;refine⟨nbl rfl,L0,ag _,?_⟩
 ·unfold ae Tryz.f177;try unfold ke
  exact zq1
def kf (k3:PleasCourt)(q3:Int):Bool:=(lJ k3 q3)
@[go_sem] def nG:List SV→Option Con:=(pFn 173 (pXX .pleasCourt fun k3=>(pX .int fun q3=>(pE ((pE (.det True (.v (.bool (kf k3 q3))))))))))
theorem sV:FnOk Tryz.prog 177 nG:=by
 have hG:ConsOk Tryz.prog (mkG [(173,oZ)] []):=ap (cgc ub cg0) cg0;refine av [.o] mixed al hG (fn:=Tryz.f177) (c:=ae Tryz.f177) kr kr kr kr (bq (bw fun k3=>(aO fun q3=>(ai ((ai (fun hp=>?_)))))));dsimp only[ar]at hp;refine⟨nbl rfl,L0,ag _,?_⟩
 ·unfold ae Tryz.f177;try unfold kf
  exact zq1
@[go_sem] noncomputable def gM:List SV→Option Con:=fun l=>(orC (nE l) (orC (nF l) (nG l)))
theorem tb:FnOk Tryz.prog 177 gM:=(FnOk.or sT (FnOk.or sU sV))
@[go_sem] def cH (k1:PleasCourt)(q1:Int)(k2:PleasCourt)(q2:Int)(k3:PleasCourt)(q3:Int)(k_0:Nat)(s_0:Unit):Int⊕Unit:=(bif(Nat.beq k_0 0)then(bif(kc k1 q1)then .inl 0 else .inr ())else(bif(Nat.beq k_0 1)then(bif(ke k2 q2)then .inl 1 else .inr ())else(bif(kf k3 q3)then .inl 2 else .inr ())))
def gB (k1:PleasCourt)(q1:Int)(k2:PleasCourt)(q2:Int)(k3:PleasCourt)(q3:Int)(k_0:Nat)(s_0:Unit):Prop:=True
def eS (k1:PleasCourt)(q1:Int)(k2:PleasCourt)(q2:Int)(k3:PleasCourt)(q3:Int):Int:=(match aq (cH k1 q1 k2 q2 k3 q3) 3 0 ()with| .inl x_0_0=>x_0_0| .inr s_0=>(-1))
@[go_sem] def g6:List SV→Option Con:=(pLS (pFn 170 (pXX .pleasCourt fun k1=>(pX .int fun q1=>(pE ((pFn 171 (pXX .pleasCourt fun k2=>(pX .int fun q2=>(pE ((pFn 173 (pXX .pleasCourt fun k3=>(pX .int fun q3=>(pE ((pE ((pFn 177 (pE ((pE (.det True (.v (.int .i64 (eS k1 q1 k2 q2 k3 q3))))))))))))))))))))))))))
theorem YE {p:Prop}(h:p:=by simp only[go_sem,Nat.reduceBEq,Nat.reduceLeDiff,Nat.reduceLT,decide_true,Nat.reduceAdd,Nat.reduceSub,Nat.reduceMul,Int.reduceLE,Int.reduceLT,Int.reduceToNat,Int.reduceNeg,reduceCtorEq,gM];all_goals exact cl):p:=h
theorem mj:FnOk Tryz.prog 210 g6:=by
 have hG:ConsOk Tryz.prog (mkG [(177,gM)] []):=ap (cgc tb cg0) cg0;refine av [.o] mixed al hG (fn:=Tryz.f210) (c:=ae Tryz.f210) kr kr kr kr (J2 (bq (bw fun k1=>(aO fun q1=>(ai ((bq (bw fun k2=>(aO fun q2=>(ai ((bq (bw fun k3=>(aO fun q3=>(ai ((ai ((bq (ai ((ai (fun hp=>?_)))))))))))))))))))))));dsimp only[ar]at hp;refine⟨nbl rfl,(fun id st=>bif Nat.beq id 0 then some (LC (ρ:=Int) (σ:=Unit) (lk 0 st.t=.ls [.fn 170 [] [.ep [.ep (cellsOf .pleasCourt k1) 0] 0,.ep [.v (.int .i64 q1)] 0],.fn 171 [] [.ep [.ep (cellsOf .pleasCourt k2) 0] 0,.ep [.v (.int .i64 q2)] 0],.fn 173 [] [.ep [.ep (cellsOf .pleasCourt k3) 0] 0,.ep [.v (.int .i64 q3)] 0]]∧lk 1 st.t=.fn 177 [] []∧lk 7 st.t=.v (.int .i64 3)∧lk 8 st.t=.v (.int .i64 0)∧st.h=[]) (aq (cH k1 q1 k2 q2 k3 q3) 3 0 ()) (fun _=>.ret) (fun x_0_0=>⟨[(4,.v (.int .i64 x_0_0))],[]⟩) (fun s_0=>⟨[],[]⟩))else none),?_,?_⟩
 ·unfold ae Tryz.f210;simp only[am,true_and,and_true]
  ·refine Lg mixed al hG kr fun st lc hC hp=>?_;simp only[go_sem,Nat.reduceBEq,Option.some.injEq]at hC;subst hC;obtain⟨t,h⟩:=st;dsimp only[LC]at hp;obtain⟨e0_0,e0_1,e0_2,e0_3,rfl⟩:=hp;refine⟨_,_,_,(cH k1 q1 k2 q2 k3 q3),(gB k1 q1 k2 q2 k3 q3),3,(),_,_,_,(fun k_0 s_0=>⟨[(0,.ls [.fn 170 [] [.ep [.ep (cellsOf .pleasCourt k1) 0] 0,.ep [.v (.int .i64 q1)] 0],.fn 171 [] [.ep [.ep (cellsOf .pleasCourt k2) 0] 0,.ep [.v (.int .i64 q2)] 0],.fn 173 [] [.ep [.ep (cellsOf .pleasCourt k3) 0] 0,.ep [.v (.int .i64 q3)] 0]]),(1,.fn 177 [] []),(7,.v (.int .i64 3)),(8,.v (.int .i64 (k_0:Int)))],[]⟩),⟨t,[]⟩,[],rfl,nr _ _ _ fun _ _ _ _=>trivial,NilS.refl _,nbl rfl,?_,fun k_0 s_0 hk0 hp0=>?_⟩
   ·simp only[go_sem,Nat.reduceBEq,Nat.reduceLeDiff,Nat.reduceLT,decide_true,Nat.reduceAdd,Nat.reduceSub,Nat.reduceMul,Int.reduceLE,Int.reduceLT,Int.reduceToNat,Int.reduceNeg,reduceCtorEq,e0_0,e0_1,e0_2,e0_3];all_goals (first|done|decide|(repeat' (first|refine And.intro ?_ ?_|rfl|decide)))
   refine⟨L0,?_,?_⟩
   ·simp only[am,and_self,true_and,and_true]
   ·have hkk:k_0=0∨k_0=1∨k_0=2∨k_0=3:=by omega
    have hw0_0:i64.wrap ((0:Int)+1)=((0+1:Nat):Int):=by decide
    have hw0_1:i64.wrap ((1:Int)+1)=((1+1:Nat):Int):=by decide
    have hw0_2:i64.wrap ((2:Int)+1)=((2+1:Nat):Int):=by decide
    rcases hkk with rfl|rfl|rfl|rfl;all_goals try (have hq0:=hp0 (by decide))
    all_goals try unfold gB at hq0
    all_goals try simp only[go_sem,Nat.reduceBEq,Nat.reduceEqDiff,cond_true,cond_false,true_imp_iff,false_imp_iff,Bool.false_eq_true,true_and,and_true,reduceCtorEq]at hq0
    all_goals simp only[go_sem,Nat.reduceBEq,Nat.reduceLeDiff,Nat.reduceLT,decide_true,Nat.reduceAdd,Nat.reduceSub,Nat.reduceMul,Int.reduceLE,Int.reduceLT,Int.reduceToNat,Int.reduceNeg,reduceCtorEq,gM,cH,Int.cast_ofNat_Int,Nat.reduceLT,Nat.reduceEqDiff]
    all_goals exact gT (jl [])
 ·unfold ae Tryz.f210;try unfold eS
  exact YE
def et (k1:PleasCourt)(q1:Int)(k2:PleasCourt)(q2:Int)(k3:PleasCourt)(q3:Int):Bool:=(decide ((eS k1 q1 k2 q2 k3 q3)≥0))
@[go_sem] def gC:List SV→Option Con:=(pLS (pFn 170 (pXX .pleasCourt fun k1=>(pX .int fun q1=>(pE ((pFn 171 (pXX .pleasCourt fun k2=>(pX .int fun q2=>(pE ((pFn 173 (pXX .pleasCourt fun k3=>(pX .int fun q3=>(pE ((pE ((pFn 177 (pE ((pE (.det True (.v (.bool (et k1 q1 k2 q2 k3 q3))))))))))))))))))))))))))
theorem k9:FnOk Tryz.prog 176 gC:=by
 have hG:ConsOk Tryz.prog (mkG [(210,g6)] []):=ap (cgc mj cg0) cg0;refine av [.o] mixed al hG (fn:=Tryz.f176) (c:=ae Tryz.f176) kr kr kr kr (J2 (bq (bw fun k1=>(aO fun q1=>(ai ((bq (bw fun k2=>(aO fun q2=>(ai ((bq (bw fun k3=>(aO fun q3=>(ai ((ai ((bq (ai ((ai (fun hp=>?_)))))))))))))))))))))));dsimp only[ar]at hp;refine⟨nbl rfl,L0,ag _,?_⟩
 ·unfold ae Tryz.f176;try unfold et
  exact zq1
def jM (k_:PleasCourt)(q:Int):Bool:=((!(du .int .bool k_.strict q))&&(et k_ q k_ q k_ q))
@[go_sem] def qc:List SV→Option Con:=(pX .pleasCourt fun k_=>(pI fun q=>(pE (.det True (.v (.bool (jM k_ q)))))))
theorem vA:FnOk Tryz.prog 134 qc:=by
 have hG:ConsOk Tryz.prog (mkG [(176,gC)] []):=ap (cgc k9 cg0) cg0;refine av [.o] mixed al hG (fn:=Tryz.f134) (c:=ae Tryz.f134) kr kr kr kr (aO fun k_=>(dh fun q=>(ai (fun hp=>?_))));dsimp only[ar]at hp;refine⟨nbl rfl,L0,ag _,?_⟩
 ·unfold ae Tryz.f134;try unfold jM
  exact zq1
def Uj (k:Option HCon):List Ob→Option HCon
 | [] =>k
 |_=>none
@[go_sem] theorem YF {k:Option HCon}:Uj k []=k:=(rfl)
theorem Om {k:Option HCon}{h:List Ob}{c:HCon}(e:Uj k h=some c):h=[]∧k=some c:=by
 cases h with
 |nil=>exact⟨rfl,e⟩
 |cons=>cases e
@[go_sem] def Uk (p:Plea)(st:List (Int×Bool))(kn:List (Int×Int)):List Ob:=[.cells [.rs .int p.facts,.rs .clause p.clauses,.os 1,.os 2],.mp .int .bool st none,.mp .int .int kn none]
@[go_sem] noncomputable def qu:List SV→List Ob→Option HCon:=fun l h=>Uj (pD .plea (fun p=>pE (ik (iO p) (.ptr 0 0) (Uk p (fv p) []))) l) h
theorem zh:FnOkO Tryz.prog 84 qu:=by
 have hG:ConsOk Tryz.prog (mkG [(118,fun l=>sQ (bv [.st .plea] l))] []):=ap (cgc (vL.norm [.st .plea]) cg0) cg0;refine pd mixed al hG (fn:=Tryz.f84) (c:=ae Tryz.f84) kr kr kr kr fun l o con h=>?_;unfold qu at h;obtain⟨rfl,h⟩:=Om h;obtain⟨p,r1,rfl,h1⟩:=M2 h;obtain⟨rfl,rfl⟩:=B4 h1;clear h h1;refine⟨_,_,_,rfl,fun hp=>?_⟩;refine⟨nbl rfl,L0,ag _,?_⟩;unfold ae Tryz.f84;simp only[go_sem,Nat.reduceBEq,Nat.reduceLeDiff,Nat.reduceLT,decide_true,Nat.reduceAdd,Nat.reduceSub,Nat.reduceMul,Int.reduceLE,Int.reduceLT,Int.reduceToNat,Int.reduceNeg,reduceCtorEq];refine⟨hp,rfl,?_⟩;exact fk (jl [3,1,2])
def jt (x:Reason)(facts:List Int)(clauses:List Clause)(strict_:List (Int×Bool))(known_:List (Int×Int)):List (Int×Int):=(bif x.proved then(iX .int .int (iX .int .int known_ x.literal 2) x.literal 1)else(iX .int .int known_ x.literal 2))
noncomputable def nP:List SV→List Ob→Option HCon:=pt (fun x_:Reason×(List Int)×(List Clause)×(List (Int×Bool))×(List (Int×Int)) =>[.ptr 0 0,.agg (cellsOf .reason x_.1)]) (fun x_=>[.cells [.rs .int x_.2.1,.rs .clause x_.2.2.1,.os 1,.os 2],.mp .int .bool x_.2.2.2.1 none,.mp .int .int x_.2.2.2.2 none]) (fun x_=>ik True (.tup []) [.cells [.rs .int x_.2.1,.rs .clause x_.2.2.1,.os 1,.os 2],.mp .int .bool x_.2.2.2.1 none,.mp .int .int (jt x_.1 x_.2.1 x_.2.2.1 x_.2.2.2.1 x_.2.2.2.2) none])
@[go_sem] theorem Ft (x:Reason)(facts:List Int)(clauses:List Clause)(strict_:List (Int×Bool))(known_:List (Int×Int)){p1_:Option (Nat×Option Tag.int.T)}(hp1_:p1_=none){p2_:Option (Nat×Option Tag.int.T)}(hp2_:p2_=none):nP ([.ptr 0 0,.agg [.v (.int .i64 x.literal),.v (.int .i64 x.clause),.v (.bool x.proved)]]) ([.cells [.rs .int facts,.rs .clause clauses,.os 1,.os 2],.mp .int .bool strict_ p1_,.mp .int .int known_ p2_])=some (ik True (.tup []) [.cells [.rs .int facts,.rs .clause clauses,.os 1,.os 2],.mp .int .bool strict_ none,.mp .int .int (jt x facts clauses strict_ known_) none]):=by
 subst hp1_;subst hp2_;exact lw (A:=fun x_:Reason×(List Int)×(List Clause)×(List (Int×Bool))×(List (Int×Int)) =>[.ptr 0 0,.agg (cellsOf .reason x_.1)]) (H:=fun x_=>[.cells [.rs .int x_.2.1,.rs .clause x_.2.2.1,.os 1,.os 2],.mp .int .bool x_.2.2.2.1 none,.mp .int .int x_.2.2.2.2 none]) (K:=fun x_=>ik True (.tup []) [.cells [.rs .int x_.2.1,.rs .clause x_.2.2.1,.os 1,.os 2],.mp .int .bool x_.2.2.2.1 none,.mp .int .int (jt x_.1 x_.2.1 x_.2.2.1 x_.2.2.2.1 x_.2.2.2.2) none]) (x:=(x,facts,clauses,strict_,known_))
theorem wV:FnOkO Tryz.prog 135 (nP):=by
 have hG:ConsOk Tryz.prog (mkG [] []):=ap cg0 cg0;refine pd mixed al hG (fn:=Tryz.f135) (c:=ae Tryz.f135) kr kr kr kr fun l o con h=>?_;obtain⟨⟨x,facts,clauses,strict_,known_⟩,rfl,rfl,rfl⟩:=jx h;clear h;try dsimp only
 refine⟨_,_,_,rfl,fun hp=>?_⟩;refine⟨nbl rfl,L0,?_,?_⟩
 ·unfold ae Tryz.f135;simp only[am,and_self,true_and,and_true]
 ·unfold ae Tryz.f135;try unfold jt
  exact sH (jl [0,1,2])
end Go.Sx
end
section
namespace Go.Sx
open Go.RowKit
section
variable {P:Program}{ts:Tis}{G:Cons}{N:Nat}
theorem IW (hm:P.follows .mixedOrders=true)(hts:ts.ok P)(hG:ConsOk P G){id:Nat}{g:Operand}{ps:Array Tmp}{assign body:Code}{C:St→Option LCon}
  (hpn:ps.toList.Nodup) (hpN:∀ p∈ps.toList,p<N) (hca:bO N assign=true) (hcb:bO N body=true)
  (h:∀ st0 lc,C st0=some lc→lc.pre→∃ st,NilS st0 st∧∃ (f:FuncId) (caps:List SV) (τ ρ σ:Type) (l:List τ) (mk:τ→List SV) (step:τ→σ→ρ⊕σ) (p:τ→σ→Prop) (pre:Prop) (s0:σ) (exE:ρ→Ex) (outE:ρ→St) (outN:σ→St) (T:List (Nat×SV)) (H:σ→List Ob) (Hy:ρ→List Ob) (js:List Nat),
   raw st.t g=.fn f [] caps∧lc=LC pre (gD step l s0) exE outE outN∧okL step p l s0∧st.h.length≤(H s0).length∧Sub js st.h.length ⟨st.t,wu (ox st caps) st.h⟩ ⟨T,H s0⟩∧
   GC P f (fun y=>y::caps.map (ren (Ix (ox st caps)) 3)) (GF (ox st caps) st.h) (l.map mk)∧
   (∀ x s,p x s→(mk x).length=ps.size∧∃ L,(∀ l,am P (some l) N L assign)∧(∀ l,am P (some l) N L body)∧exec ts G L assign ⟨psT ps.toList (mk x)++T,H s⟩ (fun e st1=>e=.normal∧exec ts G L body st1 (rgQ step exE T H Hy st.h.length id x s)))∧
   (∀ s,i9 (outN s) st.h.length ⟨T,H s⟩)∧∀ y,i9 (outE y) st.h.length ⟨T,Hy y⟩):kG P none N id (.rangeFunc g ps assign body) C:=by
 intro nd F w0 st0 lc hC hpre own a w hr;obtain⟨st,hN,hrest⟩:=h st0 lc hC hpre;obtain⟨own',hr'⟩:=hN.rel hr;refine zJ hm hts hG hpn hpN hca hcb (C:=fun s=>@ite _ (s=st) (Classical.propDecidable _) (some lc) none) (fun s l e _=>?_) nd F w0 st lc (if_pos rfl) hpre own' a w hr';split at e
 ·rename_i e1;subst e1;cases e;exact hrest
 ·cases e
end
end Go.Sx
end
