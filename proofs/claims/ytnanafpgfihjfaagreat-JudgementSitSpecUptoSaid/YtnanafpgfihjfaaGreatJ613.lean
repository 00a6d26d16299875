/- Part of the proof that the law JudgementSitSpec returns true and leaves its arguments as they were, for all arguments of bulk at most 1048576 (the Upto form). -/
import Derived.Test.YtnanafpgfihjfaaGreatJ612
import Derived.Test.YtnanafpgfihjfaaGreatJ609
import Derived.Test.YtnanafpgfihjfaaGreatJ608
import Derived.Test.YtnanafpgfihjfaaGreatJ610
import Derived.Test.YtnanafpgfihjfaaGreatJ611
set_option linter.all false
set_option maxHeartbeats 4000000
set_option maxRecDepth 100000
section
namespace Go.Sx
open Go.Proofs
open IntKind (i64)
def kH (a:Case)(b:Case):Bool:=(((((a.no==b.no)&&(a.hour==b.hour))&&(a.winner==b.winner))&&(kY a.facts b.facts))&&(kY a.reason b.reason))
def kI (a:Case)(b:Case):Prop:=letI q0:=((a.no==b.no)&&(a.hour==b.hour))&&(a.winner==b.winner);((q0=true->(nF a.facts b.facts))/\((q0&&(kY a.facts b.facts))=true->(nF a.reason b.reason)))
@[go_sem] def qM:List SV->Option Con:=(pD .case fun a=>(pD .case fun b=>(pE (.det (kI a b) (.v (.bool (kH a b)))))))
theorem uf:FnOk Tryz.prog 26 qM:=by
 have hG:ConsOk Tryz.prog (mkG [(19,fun l=>vK (aP [.sl .int,.sl .int] l))] []):=am (cgc (xY.norm [.sl .int,.sl .int]) cg0) cg0;refine av [.o] mixed ai hG (fn:=Tryz.f26) (c:=aa Tryz.f26) kr kr kr kr (aF fun a=>(aF fun b=>(ah (fun hp=>?_))));dsimp only[an]at hp;unfold kI at hp;refine⟨nbl rfl,L0,ag _,?_⟩
 ·unfold aa Tryz.f26;try unfold kH
  exact zq1
@[go_sem] def lu (a:Cases)(b:Cases)(k_0:Nat)(s_0:Unit):Unit⊕Unit:=(bif(!(kH (a.cases.getD k_0 default) (b.cases.getD k_0 default)))then .inl ()else .inr ())
def nq (a:Cases)(b:Cases)(k_0:Nat)(s_0:Unit):Prop:=(a.cases.length<=aA->((0<=(k_0:Int)/\(k_0:Int) < (b.cases.length:Int))/\(kI (a.cases.getD k_0 default) (b.cases.getD k_0 default))))
def jm (a:Cases)(b:Cases):Bool:=(bif(((a.cases.length:Int) !=(b.cases.length:Int)) ||(!(kY a.sides b.sides)))then false else(match aq (lu a b) a.cases.length 0 ()with| .inl x_0_0=>false| .inr s_0=>true))
def mu (a:Cases)(b:Cases):Prop:=letI q0:=(a.cases.length:Int) !=(b.cases.length:Int);(a.cases.length<=aA->(b.cases.length<=aA->((q0=false->(nF a.sides b.sides))/\((q0||(!(kY a.sides b.sides)))=false->okI (lu a b) (nq a b) a.cases.length 0 ()))))
@[go_sem] def ug:List SV->Option Con:=(pD .cases fun a=>(pD .cases fun b=>(pE (.det (mu a b) (.v (.bool (jm a b)))))))
theorem yC:FnOk Tryz.prog 23 ug:=by
 have hG:ConsOk Tryz.prog (mkG [(19,fun l=>vK (aP [.sl .int,.sl .int] l)),(26,fun l=>qM (aP [.st .case,.st .case] l))] []):=am (cgc (xY.norm [.sl .int,.sl .int]) (cgc (uf.norm [.st .case,.st .case]) cg0)) cg0;refine av [.o] mixed ai hG (fn:=Tryz.f23) (c:=aa Tryz.f23) kr kr kr kr (aF fun a=>(aF fun b=>(ah (fun hp=>?_))));dsimp only[an]at hp;unfold mu at hp;refine⟨nbl rfl,(fun id st=>bif Nat.beq id 0 then some (LCR (ρ:=Unit) (σ:=Unit) 2 [] [0,1] (fun k_0 s_0=>⟨[(2,.ptr 0 0),(3,.ptr 1 0),(5,.v (.int .i64 (k_0:Int)))],[.cells (cellsOf .cases a),.cells (cellsOf .cases b)]⟩) (lu a b) (nq a b) a.cases.length () (True) (fun _=>.ret) (fun x_0_0=>⟨[(4,.v (.bool false))],[.dead,.dead]⟩) st)else none),?_,?_⟩
 ·unfold aa Tryz.f23;simp only[ak,true_and,and_true]
  ·refine cB (a.cases.length<=aA) mixed ai hG kr (fun _=>rfl) (a.cases.length:Int) rfl dV (fun hb0 k_0 s_0 hlt0 hq0 hw hc=>⟨L0,ag _,?_⟩) (fun hb0 s_0 hc=>?_) fun hb0 k_0 s_0=>?_
   ·unfold nq at hq0;try simp only[hw,Int.toNat_natCast]at hq0
    exact aL (jl [0,1])
   ·exact aK (jl [0,1])
   ·exact zq7
 ·unfold aa Tryz.f23;try unfold jm
  exact zq1
@[go_sem] def mv (l_:List Suit)(k_0:Nat)(s_0:Unit):Unit⊕Unit:=(bif((!(Ai ((l_.getD k_0 default).plea))) ||(decide ((((l_.getD k_0 default).facts).length:Int) > 100)))then .inl ()else .inr ())
def iZ (b:Cases)(l_:List Suit):Bool:=(bif((!(u3 b)) ||(decide ((l_.length:Int) > 6)))then false else(match aq (mv l_) l_.length 0 ()with| .inl x_0_0=>false| .inr s_0=>true))
@[go_sem] def u5:List SV->Option Con:=(pD .cases fun b=>(pR .suit fun l_=>(pE (.det True (.v (.bool (iZ b l_)))))))
theorem zz:FnOk Tryz.prog 20 u5:=by
 have hG:ConsOk Tryz.prog (mkG [(62,fun l=>AC (aP [.st .cases] l)),(63,fun l=>AE (aP [.st .plea] l))] []):=am (cgc (FF.norm [.st .cases]) (cgc (FK.norm [.st .plea]) cg0)) cg0;refine av [.o] mixed ai hG (fn:=Tryz.f20) (c:=aa Tryz.f20) kr kr kr kr (aF fun b=>(a_ fun l_=>(ah (fun hp=>?_))));dsimp only[an]at hp;refine⟨nbl rfl,(fun id st=>bif Nat.beq id 0 then some (LCR (ρ:=Unit) (σ:=Unit) 1 [] [0] (fun k_0 s_0=>⟨[(1,.rs .suit l_),(5,.v (.int .i64 (k_0:Int)))],[.dead]⟩) (mv l_) pT l_.length () (True) (fun _=>.ret) (fun x_0_0=>⟨[(4,.v (.bool false))],[.dead]⟩) st)else none),?_,?_⟩
 ·unfold aa Tryz.f20;simp only[ak,true_and,and_true]
  ·refine cB (l_.length<=aA) mixed ai hG kr (fun _=>rfl) (l_.length:Int) rfl dV (fun hb0 k_0 s_0 hlt0 _ hw hc=>⟨L0,ag _,?_⟩) (fun hb0 s_0 hc=>?_) fun hb0 k_0 s_0=>?_
   ·exact aL (jl [0])
   ·exact aK (jl [0])
   ·exact zq7
 ·unfold aa Tryz.f20;try unfold iZ
  exact zq1
theorem O0 {l0 l1 l2:List Nat}(a0:JL l0)(a1:JL l1)(a2:JL l2){p:Prop}(h:JL l0->JL l1->JL l2->p:=by intro ja jb jc;simp only[go_sem,Nat.reduceBEq,Nat.reduceLeDiff,Nat.reduceLT,decide_true,Nat.reduceAdd,Nat.reduceSub,Nat.reduceMul,Int.reduceLE,Int.reduceLT,Int.reduceToNat,Int.reduceNeg,reduceCtorEq,hc,hw];all_goals exact rA ja jb jc):p:=h a0 a1 a2
theorem O1 {l0 l1 l2:List Nat}(a0:JL l0)(a1:JL l1)(a2:JL l2){p:Prop}(h:JL l0->JL l1->JL l2->p:=by intro ja jb jc;simp only[go_sem,Nat.reduceBEq,Nat.reduceLeDiff,Nat.reduceLT,decide_true,Nat.reduceAdd,Nat.reduceSub,Nat.reduceMul,Int.reduceLE,Int.reduceLT,Int.reduceToNat,Int.reduceNeg,reduceCtorEq,hc];all_goals exact rA ja jb jc):p:=h a0 a1 a2
@[go_sem] def lv (l_:List Reason)(k_0:Nat)(s_0:List Int×List Int):Empty⊕(List Int×List Int):=(bif(l_.getD k_0 default).proved then .inr ((s_0.1++([(l_.getD k_0 default).literal])),s_0.2)else .inr (s_0.1,(s_0.2++([(l_.getD k_0 default).literal]))))
def p8 (l_:List Reason)(k_0:Nat)(s_0:List Int×List Int):Prop:=(l_.length<=aA->(((l_.getD k_0 default).proved=true->((s_0.1++([(l_.getD k_0 default).literal])).length*8<=ez))/\((l_.getD k_0 default).proved=false->((s_0.2++([(l_.getD k_0 default).literal])).length*8<=ez))))
def gM (st_:List Int)(pr_:List Int)(rf_:List Int)(l_:List Reason):(List Int)×(List Int):=(match aq (lv l_) l_.length 0 (pr_,rf_)with| .inl x=>x.elim| .inr s_0=>(s_0.1,s_0.2))
def o9 (st_:List Int)(pr_:List Int)(rf_:List Int)(l_:List Reason):Prop:=okI (lv l_) (p8 l_) l_.length 0 (pr_,rf_)
noncomputable def xm:List SV->List Ob->Option HCon:=pC (fun x_:(List Int)×(List Int)×(List Int)×(List Reason) =>[.agg [.os 0,.os 1,.os 2],.os 3]) (fun x_=>[.row .int x_.1,.row .int x_.2.1,.row .int x_.2.2.1,.row .reason x_.2.2.2]) (fun x_=>je (o9 x_.1 x_.2.1 x_.2.2.1 x_.2.2.2) (.agg [.os 0,.os 4,.os 5]) [.row .int x_.1,.dead,.dead,.row .reason x_.2.2.2,.row .int ((gM x_.1 x_.2.1 x_.2.2.1 x_.2.2.2).1),.row .int ((gM x_.1 x_.2.1 x_.2.2.1 x_.2.2.2).2)])
@[go_sem] theorem O2 (st_:List Int)(pr_:List Int)(rf_:List Int)(l_:List Reason):xm ([.agg [.os 0,.os 1,.os 2],.os 3]) ([.row .int st_,.row .int pr_,.row .int rf_,.row .reason l_])=some (je (o9 st_ pr_ rf_ l_) (.agg [.os 0,.os 4,.os 5]) [.row .int st_,.dead,.dead,.row .reason l_,.row .int ((gM st_ pr_ rf_ l_).1),.row .int ((gM st_ pr_ rf_ l_).2)]):=lM (A:=fun x_:(List Int)×(List Int)×(List Int)×(List Reason) =>[.agg [.os 0,.os 1,.os 2],.os 3]) (H:=fun x_=>[.row .int x_.1,.row .int x_.2.1,.row .int x_.2.2.1,.row .reason x_.2.2.2]) (K:=fun x_=>je (o9 x_.1 x_.2.1 x_.2.2.1 x_.2.2.2) (.agg [.os 0,.os 4,.os 5]) [.row .int x_.1,.dead,.dead,.row .reason x_.2.2.2,.row .int ((gM x_.1 x_.2.1 x_.2.2.1 x_.2.2.2).1),.row .int ((gM x_.1 x_.2.1 x_.2.2.1 x_.2.2.2).2)]) (x:=(st_,pr_,rf_,l_))
theorem FL:FnOkO Tryz.prog 162 (xm):=by
 have hG:ConsOk Tryz.prog (mkG [] []):=am cg0 cg0;refine oe mixed ai hG (fn:=Tryz.f162) (c:=aa Tryz.f162) kr kr kr kr fun l o con h=>?_;obtain⟨⟨st_,pr_,rf_,l_⟩,rfl,rfl,rfl⟩:=jJ h;clear h;try dsimp only
 refine⟨_,_,_,rfl,fun hp=>?_⟩;unfold o9 at hp;refine⟨nbl rfl,(fun id st=>bif Nat.beq id 0 then some (LCR (ρ:=Empty) (σ:=(List Int×List Int)) 6 [] [0,1,2,3,4,5,1,2] (fun k_0 s_0=>⟨[(1,.os 3),(2,.ptr 4 0),(4,.ptr 5 0),(5,.v (.int .i64 (k_0:Int)))],[.row .int st_,.dead,.dead,.row .reason l_,.cells [.os 0,.os 6,.os 7],.cells [.v (.slice none 0 0),.v (.slice none 0 0),.v (.slice none 0 0)],.row .int s_0.1,.row .int s_0.2]⟩) (lv l_) (p8 l_) l_.length (pr_,rf_) (True) ((·.elim)) ((·.elim)) st)else none),?_,?_⟩
 ·unfold aa Tryz.f162;simp only[ak,true_and,and_true,and_assoc]
  ·refine cB (l_.length<=aA) mixed ai hG kr (fun _=>rfl) (l_.length:Int) rfl dV (fun hb0 k_0 s_0 hlt0 hq0 hw hc=>⟨L0,ag _,?_⟩) (fun hb0 s_0 hc=>?_) fun hb0 k_0 s_0=>?_
   ·unfold p8 at hq0;try simp only[hw,Int.toNat_natCast]at hq0
    exact O0 (jl [0,1,2,3,4,5,9,7]) (jl [0,1,2,3,4,5,6,9]) (jl [0,1,2,3,4,5,6,7])
   ·exact O1 (jl [0,1,2,3,4,5,9,7]) (jl [0,1,2,3,4,5,6,9]) (jl [0,1,2,3,4,5,6,7])
   ·exact zq7
 ·unfold aa Tryz.f162;try unfold gM
  exact sZ (jl [0,1,2,3,6,7])
@[go_sem] def fj (p:Plea)(k_0:Nat)(s_0:List Int×List Int×List Reason×List Reason):(List Int×List Int×List Reason)⊕(List Int×List Int×List Reason×List Reason):=letI q0:=gM (az p) s_0.1 s_0.2.1 s_0.2.2.2;(bif(decide ((s_0.2.2.2.length:Int) > 0))then .inr (q0.1,q0.2,(s_0.2.2.1++s_0.2.2.2),(g7 p ({ strict:=(az p),proved:=q0.1,refuted:=q0.2}:Acequiaref51State)))else .inl (s_0.1,s_0.2.1,s_0.2.2.1))
def nL (p:Plea)(k_0:Nat)(s_0:List Int×List Int×List Reason×List Reason):Prop:=letI q1:=az p;letI q0:=gM q1 s_0.1 s_0.2.1 s_0.2.2.2;letI q2:=s_0.2.2.1++s_0.2.2.2;(s_0.2.2.2.length<=aA->((decide ((s_0.2.2.2.length:Int) > 0))=true->((q2.length*24<=ez)/\(q2.length<=aA->((o9 q1 s_0.1 s_0.2.1 s_0.2.2.2)/\(oq p ({ strict:=q1,proved:=q0.1,refuted:=q0.2}:Acequiaref51State)))))))
def jG (p:Plea):List Reason×Acequiaref51State:=(match aq (fj p) 70 0 ([],[],[],(g7 p ({ strict:=(az p),proved:=[],refuted:=[]}:Acequiaref51State)))with| .inl x_0_0=>(x_0_0.2.2,({ strict:=(az p),proved:=x_0_0.1,refuted:=x_0_0.2.1}:Acequiaref51State)) | .inr s_0=>default)
def qW (p:Plea):Prop:=letI q0:=({ strict:=(az p),proved:=[],refuted:=[]}:Acequiaref51State);((nk p)/\((oq p q0)/\(okI (fj p) (nL p) 70 0 ([],[],[],(g7 p q0))/\(∀ z_,aq (fj p) 70 0 ([],[],[],(g7 p q0))≠ .inr z_))))
@[go_sem] def ya:List SV->Option Con:=(pD .plea fun p=>(pE (.det (qW p) (.tup [.rs .reason ((jG p).1),.agg (cellsOf .acequiaref51State ((jG p).2))]))))
theorem CY:FnOk Tryz.prog 124 ya:=by
 have hG:ConsOk Tryz.prog (mkG [(122,fun l=>tx (aP [.st .plea] l)),(161,fun l=>x9 (aP [.st .plea,.st .acequiaref51State] l))] [(162,xm)]):=am (cgc (vZ.norm [.st .plea]) (cgc (CX.norm [.st .plea,.st .acequiaref51State]) cg0)) (cgc FL cg0);refine av [.sl .reason,.st .acequiaref51State] mixed ai hG (fn:=Tryz.f124) (c:=aa Tryz.f124) kr kr kr kr (aF fun p=>(ah (fun hp=>?_)));dsimp only[an]at hp;unfold qW at hp;refine⟨nbl rfl,(fun id st=>bif Nat.beq id 0 then some (LCV (ρ:=(List Int×List Int×List Reason)) (σ:=(List Int×List Int×List Reason×List Reason)) 5 [.cell 3 1 (.row .int ([])),.cell 3 2 (.row .int ([])),.slot 5 (.row .reason ([]))] [0,1,2,3,4,5,6,7,4] (fun k_0 s_0=>⟨[(1,.ptr 0 0),(3,.ptr 1 0),(4,.ptr 3 0),(5,.os 7),(6,.os 8)],[.cells (cellsOf .plea p),.cells [.v (.slice none 0 0),.v (.slice none 0 0),.v (.slice none 0 0)],.row .int (az p),.cells [.os 2,.os 5,.os 6],.dead,.row .int s_0.1,.row .int s_0.2.1,.row .reason s_0.2.2.1,.row .reason s_0.2.2.2]⟩) (fj p) (nL p) 70 ([],[],[],(g7 p ({ strict:=(az p),proved:=[],refuted:=[]}:Acequiaref51State))) (fun _=>.normal) (fun x_0_0=>⟨[(3,.ptr 1 0),(4,.ptr 3 0),(5,.os 7)],[.dead,.cells [.v (.slice none 0 0),.v (.slice none 0 0),.v (.slice none 0 0)],.row .int (az p),.cells [.os 2,.os 5,.os 6],.dead,.row .int x_0_0.1,.row .int x_0_0.2.1,.row .reason x_0_0.2.2,.dead]⟩) st)else none),?_,?_⟩
 ·unfold aa Tryz.f124;simp only[ak,true_and,and_true]
  ·refine pj mixed ai hG kr (fun _=>rfl) fun k_0 s_0 hq0=>⟨L0,ag _,?_⟩
   ·unfold nL at hq0;exact zf (jl [0,1,2,3,4,10,11,9,12]) (jl [0,1,2,3,4,5,6,7,8])
 ·unfold aa Tryz.f124;try unfold jG
  exact zq1
def fv (p:Plea)(q:Int):Int×Int:=(bif((eV p) !=0)then(0,(eV p))else(bif(!(a7 q))then(0,1)else(bif(aO (((jG p).2).proved) q)then(1,0)else(bif(aO (((jG p).2).refuted) q)then(2,0)else(3,0)))))
def p9 (p:Plea)(q:Int):Prop:=((oo p)/\(((eV p) !=0)=false->((!(a7 q))=false->(qW p))))
@[go_sem] def xn:List SV->Option Con:=(pD .plea fun p=>(pI fun q=>(pE (.det (p9 p q) (.tup [.v (.int .i64 ((fv p q).1)),.v (.int .i64 ((fv p q).2))])))))
theorem A6:FnOk Tryz.prog 71 xn:=by
 have hG:ConsOk Tryz.prog (mkG [(68,fun l=>uu (aP [.st .plea] l)),(69,lH),(123,fun l=>jD (aP [.sl .int,.o] l)),(124,fun l=>ya (aP [.st .plea] l))] []):=am (cgc (xi.norm [.st .plea]) (cgc nK (cgc (jE.norm [.sl .int,.o]) (cgc (CY.norm [.st .plea]) cg0)))) cg0;refine av [.o,.o] mixed ai hG (fn:=Tryz.f71) (c:=aa Tryz.f71) kr kr kr kr (aF fun p=>(br fun q=>(ah (fun hp=>?_))));dsimp only[an]at hp;unfold p9 at hp;refine⟨nbl rfl,L0,ag _,?_⟩
 ·unfold aa Tryz.f71;try unfold fv
  exact zq1
def gk (a0:Cases)(a1:Suit):Case×Int:=letI q1:=(({ no:=a1.no,hour:=a1.hour,winner:=0,facts:=a1.facts,reason:=(nJ a0 a1.facts 0)}:Case),0);letI q0:=bif(gA a0 a1.facts 0).2.1 then q1 else(({ no:=a1.no,hour:=a1.hour,winner:=1,facts:=a1.facts,reason:=(nJ a0 a1.facts 1)}:Case),0);letI q3:=(a0.cases.length:Int);letI q2:=a0.cases.getD (Int.toNat (i64.wrap (q3 - 1))) default;letI q4:=eV a1.plea;(bif((dP a0) !=0)then(({ no:=0,hour:=0,winner:=0,facts:=[],reason:=[]}:Case),(dP a0))else(bif(q4 !=0)then(({ no:=0,hour:=0,winner:=0,facts:=[],reason:=[]}:Case),q4)else(bif(!(a7 a1.question))then(({ no:=0,hour:=0,winner:=0,facts:=[],reason:=[]}:Case),1)else(bif((((!(fP a0 a1.facts)) ||(!(du a1.no 0 1048576))) ||(!(du a1.hour 0 4096))) ||((decide (q3 > 0))&&((decide (a1.no<=q2.no)) ||(decide (a1.hour<q2.hour)))))then(({ no:=0,hour:=0,winner:=0,facts:=[],reason:=[]}:Case),520)else(bif((fv a1.plea a1.question).1==1)then(bif(gA a0 a1.facts 1).2.1 then q0 else q1)else q0)))))
def nr (a0:Cases)(a1:Suit):Prop:=letI q2:=(a0.cases.length:Int);letI q1:=i64.wrap (q2 - 1);letI q3:=gA a0 a1.facts 1;letI q4:=gA a0 a1.facts 0;letI q5:=a0.cases.getD (Int.toNat q1) default;letI q6:= !(du a1.no 0 1048576);letI q7:= !(du a1.hour 0 4096);letI q8:=mW a0 a1.facts 0;letI q9:= !(fP a0 a1.facts);letI qa:=(fv a1.plea a1.question).1==1;letI qb:=decide (q2 > 0);letI qc:=oi a0 a1.facts 0;letI qd:=oi a0 a1.facts 1;letI qe:=decide (a1.no<=q5.no);letI qg:=q4.2.1=true->q8;letI q0:=qg/\(q4.2.1=false->(mW a0 a1.facts 1));letI qf:=q3.2.1=true->q0;((lO a0)/\(((dP a0) !=0)=false->((oo a1.plea)/\(((eV a1.plea) !=0)=false->((!(a7 a1.question))=false->(a0.cases.length<=aA->((mU a0 a1.facts)/\((((q9||q6) ||q7)=false->(qb=true->(0<=q1/\q1<q2)))/\((((q9||q6) ||q7)=false->(qb=true->(qe=false->(0<=q1/\q1<q2))))/\((((q9||q6) ||q7) ||(qb&&(qe||(decide (a1.hour<q5.hour)))))=false->((p9 a1.plea a1.question)/\((qa=true->(qc/\(qd/\(qf/\(q3.2.1=false->(qg/\(q4.2.1=false->q8)))))))/\(qa=false->(qc/\(qd/\(qf/\(q3.2.1=false->q0)))))))))))))))))
@[go_sem] def tC:List SV->Option Con:=(pD .cases fun a0=>(pD .suit fun a1=>(pE (.det (nr a0 a1) (.tup [.agg (cellsOf .case ((gk a0 a1).1)),.v (.int .i64 ((gk a0 a1).2))])))))
theorem v_:FnOk Tryz.prog 25 tC:=by
 have hG:ConsOk Tryz.prog (mkG [(54,wT),(66,fun l=>qV (aP [.st .cases] l)),(68,fun l=>uu (aP [.st .plea] l)),(69,lH),(70,fun l=>rK (aP [.st .cases,.sl .int] l)),(71,fun l=>xn (aP [.st .plea,.o] l)),(72,fun l=>x4 (aP [.st .cases,.sl .int,.o] l)),(73,fun l=>xe (aP [.st .cases,.sl .int,.o] l))] []):=am (cgc AU (cgc (tv.norm [.st .cases]) (cgc (xi.norm [.st .plea]) (cgc nK (cgc (sE.norm [.st .cases,.sl .int]) (cgc (A6.norm [.st .plea,.o]) (cgc (CW.norm [.st .cases,.sl .int,.o]) (cgc (A0.norm [.st .cases,.sl .int,.o]) cg0)))))))) cg0;refine av [.st .case,.o] mixed ai hG (fn:=Tryz.f25) (c:=aa Tryz.f25) kr kr kr kr (aF fun a0=>(aF fun a1=>(ah (fun hp=>?_))));dsimp only[an]at hp;unfold nr at hp;refine⟨nbl rfl,L0,ag _,?_⟩
 ·unfold aa Tryz.f25;try unfold gk
  exact zq1
theorem O3 {α ρ:Type}(l:List α)(d:α)(P:α->Bool)(f:α->ρ){step:Nat->Unit->ρ⊕Unit}(h:∀ k,step k ()=bif P (l.getD k d)then .inl (f (l.getD k d))else .inr ()):
  (aq step l.length 0 ()=.inr ()/\∀ x∈l,P x=false)\/∃ x∈l,P x=true/\aq step l.length 0 ()=.inl (f x):=by
 have key:∀ (R A:List α),l=A++R->(aq step R.length A.length ()=.inr ()/\∀ x∈R,P x=false)\/∃ x∈R,P x=true/\aq step R.length A.length ()=.inl (f x):=fun R=>by
  induction R with
  |nil=>intro A _;exact .inl ⟨rfl,fun x hx=>by cases hx⟩
  |cons y R ih=>
   intro A hl;have g:l.getD A.length d=y:=by rw[hl];exact gP A y d R rfl
   have hl':l=(A++[y])++R:=by rw[hl];simp
   have ih:=ih (A++[y]) hl';rw[List.length_append,List.length_singleton]at ih;simp only[List.length_cons,aq,h,g];cases hc:P y with
   |true=>exact .inr ⟨y,by simp,hc,rfl⟩
   |false=>
    simp only[cond_false];rcases ih with⟨i1,i2⟩ | ⟨x,hx,i1,i2⟩
    ·exact .inl ⟨i1,fun x hx=>by
      rcases List.mem_cons.1 hx with rfl|hx
      ·exact hc
      ·exact i2 x hx⟩
    ·exact .inr ⟨x,by simp[hx],i1,i2⟩
 exact key l [] rfl
theorem mw {α ρ:Type}(l:List α)(d:α)(P:α->Bool)(r:ρ){step:Nat->Unit->ρ⊕Unit}(h:∀ k,step k ()=bif P (l.getD k d)then .inl r else .inr ()):
  aq step l.length 0 ()=bif l.any P then .inl r else .inr ():=by
 rcases O3 l d P (fun _=>r) h with⟨h1,h2⟩ | ⟨x,hx,h1,h2⟩
 ·have:l.any P=false:=by
   cases ha:l.any P with
   |false=>rfl
   |true=>obtain⟨x,hx,e⟩:=List.any_eq_true.1 ha;rw[h2 x hx]at e;cases e
  rw[this,h1];rfl
 ·have:l.any P=true:=List.any_eq_true.2 ⟨x,hx,h1⟩;rw[this,h2];rfl
theorem ot {α:Type}(l:List α)(d:α)(P:α->Bool){step:Nat->Unit->Int⊕Unit}(h:∀ k,step k ()=bif P (l.getD k d)then .inl (k:Int)else .inr ()):
  decide ((match aq step l.length 0 ()with| .inl x=>x| .inr _=>(-1:Int))>=0)=l.any P:=by
 rcases CR l d P (fun k _=>h k)with⟨h1,h2⟩ | ⟨K,x,R,h0,h1,h2⟩
 ·rw[h1];cases ha:l.any P with
  |false=>rfl
  |true=>obtain⟨x,hx,e⟩:=List.any_eq_true.1 ha;rw[h2 x hx]at e;cases e
 ·have:aq step l.length 0 ()=.inl (K.length:Int):=by first|exact h1|exact h1.1|exact h2.1|exact h2
  rw[this];have hp:P x=true:=by first|exact h2|exact h2.1|exact h1.2|exact h1.2.1|exact h2.2.1
  have:l.any P=true:=List.any_eq_true.2 ⟨x,by rw[h0];simp,hp⟩;rw[this];simp
theorem p_ (l:List Int)(n:Int):aO l n=true↔n∈l:=by
 unfold aO;rw[mw l 0 (fun x=>x==n) () fun _=>rfl];cases ha:l.any (fun x=>x==n)with
 |true=>
  obtain⟨x,hx,e⟩:=List.any_eq_true.1 ha;rw[beq_iff_eq]at e;subst e;simp[hx]
 |false=>
  simp only[cond_false,Bool.false_eq_true,false_iff];intro hm;rw[List.any_eq_true.2 ⟨n,hm,by simp⟩]at ha;cases ha
theorem O4 (l:List Int)(n:Int):aO l n=decide (n∈l):=Ee (by rw[p_,decide_eq_true_eq])
theorem O5 (l o:List Int):o8 l o=o.all fun q=>aO l q:=by
 unfold o8;rw[mw o 0 (fun q=>!aO l q) () fun _=>rfl,List.all_eq_not_any_not];cases o.any (fun q=>!aO l q) <;>rfl
theorem U9 (l o:List Int):tw l o=o.any fun q=>aO l q:=by
 unfold tw;rw[mw o 0 (fun q=>aO l q) () fun _=>rfl];cases o.any (fun q=>aO l q) <;>rfl
theorem S0 (s:List Int)(m:List (Int×Bool)):bT s m=s.any fun q=>!(bg .int .bool m q):=by
 unfold bT gh;exact ot s 0 (fun q=>pL q m) fun _=>rfl
inductive Cl (p:Plea):Int->Prop where
 |fact {q:Int}:q∈p.facts->Cl p q
 |rule {c:Clause}:c∈p.clauses->c.strict=true->(∀ q∈c.if_,Cl p q)->Cl p c.then_
def zA (p:Plea)(K:Int->Bool):Nat:=(p.clauses.filter fun c=>!K c.then_).length
theorem O6 (p:Plea){K K':Int->Bool}(h:∀ q,K q=true->K' q=true){c:Clause}(hc:c∈p.clauses)(h1:K c.then_=false)(h2:K' c.then_=true):zA p K'<zA p K:=
 zp (fun x _ hx=>by
  cases hk:K x.then_ with
  |false=>rfl
  |true=>rw[h _ hk]at hx;cases hx) ⟨c,hc,by rw[h1];rfl,by rw[h2];rfl⟩
theorem Jh (p:Plea)(K:Int->Bool):zA p K<=p.clauses.length:=List.length_filter_le _ _
def KX (p:Plea)(K:Int->Bool):Prop:= ∀ c∈p.clauses,c.strict=true->(∀ q∈c.if_,K q=true)->K c.then_=true
theorem CZ {p:Plea}{K:Int->Bool}(hf:∀ q∈p.facts,K q=true)(hc:KX p K){q:Int}(h:Cl p q):K q=true:=by
 induction h with
 |fact h=>exact hf _ h
 |rule h1 h2 _ ih=>exact hc _ h1 h2 ih
def KM (m:List (Int×Bool))(q:Int):Bool:=bg .int .bool m q
def KL (l:List Int)(q:Int):Bool:=aO l q
theorem C0 (m:List (Int×Bool))(x q:Int):KM (iH .int .bool m x true) q=if q=x then true else KM m q:=uS (kk:=.int) (vk:=.bool) m x q true
theorem FM (l:List Int)(x q:Int):KL (l++[x]) q=if q=x then true else KL l q:=by
 unfold KL;rw[O4,O4];by_cases h:q=x
 ·subst h;simp
 ·simp[h]
theorem Mg (p:Plea):∃ s0,aq (ic p) p.facts.length 0 []=.inr s0/\∀ q,KM s0 q=decide (q∈p.facts):=by
 have key:∀ (R A:List Int) (s:List (Int×Bool)),p.facts=A++R->(∀ q,KM s q=decide (q∈A))->∃ s0,aq (ic p) R.length A.length s=.inr s0/\∀ q,KM s0 q=decide (q∈p.facts):=fun R=>by
  induction R with
  |nil=>
   intro A s h hs;refine⟨s,rfl,fun q=>?_⟩;rw[hs,h];simp
  |cons y R ih=>
   intro A s h hs;have g:p.facts.getD A.length 0=y:=by rw[h];exact gP A y 0 R rfl
   have ih:=ih (A++[y]) (iH .int .bool s y true) (by rw[h];simp) (fun q=>by
    rw[C0,hs];by_cases hq:q=y
    ·subst hq;simp
    ·simp[hq])
   rw[List.length_append,List.length_singleton]at ih;simp only[List.length_cons,aq,ic,g];exact ih
 exact key p.facts [] [] rfl (fun q=>by simp[KM,bg,nu,fS])
theorem RL (p:Plea)(q:Int):KM (bt p) q=true↔Cl p q:=by
 obtain⟨s0,e0,h0⟩:=Mg p;unfold bt;rw[e0];simp only;have W:=RD (step:=ji p) (p:=fun _ _=>True) (fun s=>zA p (KM s)) (fun s=>(∀ q,KM s q=true->Cl p q)/\∀ q∈p.facts,KM s q=true) (fun r=>∀ q,KM r q=true↔Cl p q) (fun k s hs=>⟨trivial,by
  unfold ji;rcases O3 p.clauses default (fun c=>(c.strict&& !KM s c.then_)&& !(bT c.if_ s)) (fun c=>iH .int .bool s c.then_ true) (step:=lG p s) (fun _=>rfl)with⟨h1,h2⟩ | ⟨c,hc,h1,h2⟩
  ·rw[h1];refine .inl ⟨s,rfl,fun q=>⟨hs.1 q,fun hq=>CZ hs.2 (fun c hc h3 h4=>?_) hq⟩⟩;have:=h2 c hc;rw[S0,h3]at this;have ha:c.if_.any (fun q=>!(bg .int .bool s q))=false:=by
    cases ha:c.if_.any (fun q=>!(bg .int .bool s q))with
    |false=>rfl
    |true=>
     obtain⟨x,hx,e⟩:=List.any_eq_true.1 ha;have:=h4 x hx;unfold KM at this;rw[this]at e;cases e
   rw[ha]at this;simpa using this
  ·rw[h2];rw[S0,Bool.and_eq_true,Bool.and_eq_true]at h1;obtain⟨⟨h3,h4⟩,h5⟩:=h1;have h4:KM s c.then_=false:=by simpa using h4
   have h6:∀ q∈c.if_,KM s q=true:=fun q hq=>by
    cases hk:KM s q with
    |true=>rfl
    |false=>
     rw[List.any_eq_true.2 ⟨q,hq,by unfold KM at hk;rw[hk];rfl⟩]at h5;cases h5
   refine .inr ⟨_,rfl,O6 p (fun q hq=>by rw[C0];split <;>simp[hq]) hc h4 (by rw[C0,if_pos rfl]),fun q hq=>?_,fun q hq=>?_⟩
   ·rw[C0]at hq;split at hq
    ·rename_i e;subst e;exact .rule hc h3 fun q hq=>hs.1 q (h6 q hq)
    ·exact hs.1 q hq
   ·rw[C0];split
    ·rfl
    ·exact hs.2 q hq⟩) (p.clauses.length+1) 0 s0 ⟨fun q hq=>.fact (by rw[h0]at hq;simpa using hq),fun q hq=>by rw[h0];simpa using hq⟩ (by have:=Jh p (KM s0);omega)
 obtain⟨_,r,e,h⟩:=W;rw[e];exact h q
structure PassI (p:Plea)(l0:List Int)(k:Nat)(s:List Int×Bool):Prop where
 sub:∀ q,KL l0 q=true->KL s.1 q=true
 sound:∀ q,KL s.1 q=true->Cl p q
 no:s.2=false->s.1=l0/\∀ j,j<k->(p.clauses.getD j default).strict=true->(∀ q∈(p.clauses.getD j default).if_,KL l0 q=true)->KL l0 (p.clauses.getD j default).then_=true
 cnt:s.1.length+zA p (KL s.1)<=l0.length+zA p (KL l0)
 lt:s.2=true->zA p (KL s.1) <zA p (KL l0)
theorem Em (p:Plea){l0:List Int}{k:Nat}(hk:k<p.clauses.length){s s':List Int×Bool}(hs:PassI p l0 k s)(e:gB p k s=.inr s'):PassI p l0 (k+1) s':=by
 obtain⟨l,b⟩:=s;have hm:p.clauses.getD k default∈p.clauses:=by rw[List.getD_eq_getElem?_getD,List.getElem?_eq_getElem hk];exact List.getElem_mem hk
 unfold gB at e;simp only at e;cases hc:(((p.clauses.getD k (default:Clause)).strict&&(!(aO l ((p.clauses.getD k (default:Clause)).then_))))&&(o8 l ((p.clauses.getD k (default:Clause)).if_)))with
 |true=>
  rw[hc]at e;simp only[cond_true,Sum.inr.injEq]at e;subst e;rw[O5,Bool.and_eq_true,Bool.and_eq_true,List.all_eq_true]at hc;obtain⟨⟨h1,h2⟩,h3⟩:=hc;have h2:KL l (p.clauses.getD k default).then_=false:=by unfold KL;simpa using h2
  have hlt:=O6 p (K:=KL l) (K':=KL (l++[(p.clauses.getD k default).then_])) (fun q hq=>by rw[FM];split <;>simp[hq]) hm h2 (by rw[FM,if_pos rfl]);have hcnt:=hs.cnt;have hle:zA p (KL l)<=zA p (KL l0):=by
   cases b with
   |true=>exact Nat.le_of_lt (hs.lt rfl)
   |false=>
    have e:l=l0:=(hs.no rfl).1;rw[e];exact Nat.le_refl _
  refine⟨fun q hq=>?_,fun q hq=>?_,fun h=>(by cases h),?_,fun _=>Nat.lt_of_lt_of_le hlt hle⟩
  ·show KL (l++[_]) q=true;rw[FM];split
   ·rfl
   ·exact hs.sub q hq
  ·change KL (l++[_]) q=true at hq;rw[FM]at hq;split at hq
   ·rename_i e;subst e;exact .rule hm h1 fun q hq=>hs.sound q (h3 q hq)
   ·exact hs.sound q hq
  ·show(l++[_]).length+zA p (KL (l++[_]))<=_;simp only at hcnt;rw[List.length_append,List.length_singleton];omega
 |false=>
  rw[hc]at e;simp only[cond_false,Sum.inr.injEq]at e;subst e;refine⟨hs.sub,hs.sound,fun h=>⟨(hs.no h).1,fun j hj h1 h2=>?_⟩,hs.cnt,hs.lt⟩;rcases Nat.lt_or_ge j k with hj'|hj'
  ·exact(hs.no h).2 j hj' h1 h2
  ·have:j=k:=by omega
   subst this;have e:l=l0:=(hs.no h).1;have h3:(p.clauses.getD j default).if_.all (fun q=>aO l0 q)=true:=List.all_eq_true.2 h2;rw[e,h1,O5,h3]at hc;unfold KL;simpa using hc
theorem RM (p:Plea)(hF:p.facts.length<=64)(hC:p.clauses.length<=64){l0:List Int}(h0:∀ q,KL l0 q=true->Cl p q)(hn:l0.length+zA p (KL l0)<=128):
  okI (gB p) (mr p) p.clauses.length 0 (l0,false)/\∃ s,aq (gB p) p.clauses.length 0 (l0,false)=.inr s/\PassI p l0 p.clauses.length s:=by
 have i0:PassI p l0 0 (l0,false):=⟨fun q h=>h,h0,fun _=>⟨rfl,fun j hj=>absurd hj (Nat.not_lt_zero _)⟩,Nat.le_refl _,fun h=>by cases h⟩;refine⟨y6 (fun k s=>PassI p l0 k s) _ _ _ i0 fun k s _ hk hs=>⟨fun _ _=>?_,fun s' e=>Em p (by omega) hs e⟩,?_⟩
 ·have:=hs.cnt;rw[List.length_append,List.length_singleton];unfold ez;omega
 ·cases hr:aq (gB p) p.clauses.length 0 (l0,false)with
  |inl x=>exact x.elim
  |inr s=>
   have:=G3 (fun k s=>PassI p l0 k s) _ _ _ i0 (fun k s _ hk hs s' e=>Em p (by omega) hs e) s hr;rw[Nat.zero_add]at this;exact⟨s,rfl,this⟩
theorem Bh (p:Plea)(hF:p.facts.length<=64)(hC:p.clauses.length<=64):nk p/\(∀ q,q∈az p↔Cl p q)/\(az p).length<=128:=by
 have W:=RD (step:=lJ p) (p:=mt p) (fun s=>if s.2 then zA p (KL s.1)+1 else 0) (fun s=>(∀ q,KL s.1 q=true->Cl p q)/\(∀ q∈p.facts,KL s.1 q=true)/\s.1.length+zA p (KL s.1)<=128/\(s.2=false->KX p (KL s.1)))
  (fun r=>(∀ q,q∈r↔Cl p q)/\r.length<=128) (fun k s hs=>by
  obtain⟨l,b⟩:=s;obtain⟨h1,h2,h3,h4⟩:=hs;simp only at h1 h2 h3 h4;obtain⟨P1,s',P2,P3⟩:=RM p hF hC h1 h3;refine⟨fun _=>P1,?_⟩;unfold lJ;cases b with
  |false=>exact .inl ⟨l,rfl,fun q=>⟨fun hq=>h1 q ((p_ _ _).2 hq),fun hq=>(p_ _ _).1 (CZ h2 (h4 rfl) hq)⟩,by omega⟩
  |true=>
   simp only[cond_true];rw[P2];obtain⟨l',b'⟩:=s';refine .inr ⟨(l',b'),rfl,?_,P3.sound,fun q hq=>P3.sub q (h2 q hq),Nat.le_trans P3.cnt h3,fun hb=>?_⟩
   ·cases b' with
    |false=>simp
    |true=>have:=P3.lt rfl;simp only[if_true]at this |-;omega
   ·obtain⟨e,h⟩:=P3.no hb;simp only at e hb;subst e;intro c hc q1 q2;obtain⟨j,hj,rfl⟩:=List.getElem_of_mem hc;have:=h j hj;rw[List.getD_eq_getElem?_getD,List.getElem?_eq_getElem hj]at this;exact this q1 q2) (p.clauses.length+2) 0 ([]++p.facts,true) ⟨fun q hq=>.fact (by simpa using (p_ _ _).1 hq),fun q hq=>(p_ _ _).2 (by simpa using hq),by have:=Jh p (KL ([]++p.facts));simp only[List.nil_append]at this |-;omega,fun h=>by cases h⟩ (by have:=Jh p (KL ([]++p.facts));simp only[if_true];omega)
 obtain⟨w1,r,e,h,hl⟩:=W;refine⟨⟨by rw[List.nil_append];unfold ez;omega,fun _=>⟨w1,KD (Q:=fun _=>True) ⟨r,e,trivial⟩⟩⟩,?_⟩;unfold az;rw[e];exact⟨h,hl⟩
theorem rL (p:Plea)(hF:p.facts.length<=64)(hC:p.clauses.length<=64)(q:Int):bg .int .bool (bt p) q=aO (az p) q:=
 Ee ((RL p q).trans (((Bh p hF hC).2.1 q).symm.trans (p_ _ _).symm))
end Go.Sx
end
section
namespace Go.Sx
open IntKind (i64)
open Go.Proofs
set_option maxRecDepth 100000
structure KS (k:PleasCourt)(s:Acequiaref51State):Prop where
 st:∀ q,bg .int .bool k.strict q=aO s.strict q
 pr:∀ q:Int,(bg .int .int k.known q:Int)=1↔q∈s.proved
 rf:∀ q:Int,(bg .int .int k.known q:Int)=2↔q∈s.refuted
 r:∀ q:Int,(bg .int .int k.known q:Int)=0\/(bg .int .int k.known q:Int)=1\/(bg .int .int k.known q:Int)=2
variable {k:PleasCourt}{s:Acequiaref51State}
theorem S1 {l:List Int}{P Q:Int->Bool}(h:∀ q,P q=Q q):l.any P=l.any Q:=by rw[funext h]
theorem KS.p1 (h:KS k s)(q:Int):aO s.proved q=((bg .int .int k.known q:Int) ==1):=Ee (by rw[p_,beq_iff_eq];exact(h.pr q).symm)
theorem KS.p2 (h:KS k s)(q:Int):aO s.refuted q=((bg .int .int k.known q:Int) ==2):=Ee (by rw[p_,beq_iff_eq];exact(h.rf q).symm)
theorem O7 (h:KS k s)(c:Clause):gY k c=jF s c:=by
 unfold gY jF;have e:fR c.if_ k=c.if_.any (fun q=>kx q k):=ot c.if_ 0 (fun q=>kx q k) fun _=>rfl;rw[e,O5,List.all_eq_not_any_not];congr 1
 refine S1 fun q=>?_;rw[h.p1];rfl
theorem Ji (h:KS k s)(c:Clause):ib k c=iF s c:=by
 unfold ib iF;have e:eU c.if_ k=c.if_.any (fun q=>jA q k):=ot c.if_ 0 (fun q=>jA q k) fun _=>rfl;rw[e,U9];refine S1 fun q=>?_;rw[h.p2];rfl
theorem Mh {l:List Clause}{P Q:Clause->Bool}(h:∀ q,P q=Q q):l.any P=l.any Q:=by rw[funext h]
theorem U_ (h:KS k s)(q:Int):iP k q k=jk k.plea s q:=by
 unfold jk;have e:iP k q k=k.plea.clauses.any (fun c=>fE c q k):=ot k.plea.clauses default (fun c=>fE c q k) fun _=>rfl;rw[e,mw k.plea.clauses default (fun c=>(c.then_==q)&&jF s c) () fun _=>rfl];rw[Mh (Q:=fun c=>(c.then_==q)&&jF s c) fun c=>by unfold fE;rw[O7 h]];cases k.plea.clauses.any _ <;>rfl
theorem Va (h:KS k s)(q:Int)(w:Clause):iQ k q k w=ln k.plea s q w.rank:=by
 unfold ln;have e:iQ k q k w=k.plea.clauses.any (fun c=>fF c q k w):=ot k.plea.clauses default (fun c=>fF c q k w) fun _=>rfl;rw[e,mw k.plea.clauses default (fun c=>((c.then_==q)&&jF s c)&&decide (c.rank > w.rank)) () fun _=>rfl];rw[Mh (Q:=fun c=>((c.then_==q)&&jF s c)&&decide (c.rank > w.rank)) fun c=>by unfold fF iv;rw[O7 h,Bool.and_assoc]];cases k.plea.clauses.any _ <;>rfl
theorem Vb (h:KS k s)(q q2:Int):iT k q k q2=k.plea.clauses.any fun c=>((c.then_==q)&& !iF s c)&& !ln k.plea s q2 c.rank:=by
 skip
 have e:iT k q k q2=k.plea.clauses.any (fun c=>fI c q k q2):=ot k.plea.clauses default (fun c=>fI c q k q2) fun _=>rfl;rw[e];exact Mh fun c=>by unfold fI jC;rw[Ji h,Va h,Bool.and_assoc]
theorem Mi (h:KS k s)(q:Int)(hq:bg .int .bool k.strict q=false):dg k q=lr k.plea s q:=by
 unfold dg lr;rw[hq,h.st,U_ h,Vb h,mw k.plea.clauses default (fun c=>((c.then_==i64.wrap (0 - q))&& !iF s c)&& !ln k.plea s q c.rank) () fun _=>rfl];simp only[cond_false];cases(aO s.strict (i64.wrap (0 - q)) || !jk k.plea s q)with
 |true=>rfl
 |false=>
  simp only[cond_false];cases k.plea.clauses.any _ <;>rfl
theorem Vc (h:KS k s)(q:Int):(!iR k q k)=qL k.plea s q:=by
 unfold qL;have e:iR k q k=k.plea.clauses.any (fun c=>fG c q k):=ot k.plea.clauses default (fun c=>fG c q k) fun _=>rfl;rw[e,mw k.plea.clauses default (fun c=>(c.then_==q)&& !iF s c) () fun _=>rfl];rw[Mh (Q:=fun c=>(c.then_==q)&& !iF s c) fun c=>by unfold fG g9;rw[Ji h]];cases k.plea.clauses.any _ <;>rfl
theorem Vd (h:KS k s)(q:Int)(w:Clause):(!iS k q k w)=oS k.plea s q w.rank:=by
 unfold oS;have e:iS k q k w=k.plea.clauses.any (fun c=>fH c q k w):=ot k.plea.clauses default (fun c=>fH c q k w) fun _=>rfl;rw[e,mw k.plea.clauses default (fun c=>((c.then_==q)&& !iF s c)&&decide (c.rank > w.rank)) () fun _=>rfl];rw[Mh (Q:=fun c=>((c.then_==q)&& !iF s c)&&decide (c.rank > w.rank)) fun c=>by unfold fH gE;rw[Ji h,Bool.and_assoc]];cases k.plea.clauses.any _ <;>rfl
theorem Ve (h:KS k s)(q q2:Int):iU k q k q2=k.plea.clauses.any fun c=>((c.then_==q)&&jF s c)&&oS k.plea s q2 c.rank:=by
 skip
 have e:iU k q k q2=k.plea.clauses.any (fun c=>fJ c q k q2):=ot k.plea.clauses default (fun c=>fJ c q k q2) fun _=>rfl;rw[e];exact Mh fun c=>by unfold fJ g_;rw[O7 h,Vd h,Bool.and_assoc]
theorem ZY (a b c:Bool)(k1 k2 k3:PleasCourt)(q1 q2 q3:Int)(ha:cH k1 q1=a)(hb:cI k2 q2=b)(hc:cJ k3 q3=c):bP k1 q1 k2 q2 k3 q3=(a||(b||c)):=by
 subst ha;subst hb;subst hc;have key:b9 k1 q1 k2 q2 k3 q3=bif cH k1 q1 then 0 else bif cI k2 q2 then 1 else bif cJ k3 q3 then 2 else -1:=by
  unfold b9;simp only[aq,bO];cases cH k1 q1 <;>cases cI k2 q2 <;>cases cJ k3 q3 <;>rfl
 unfold bP;rw[key];cases cH k1 q1 <;>cases cI k2 q2 <;>cases cJ k3 q3 <;>rfl
theorem Jj (h:KS k s)(q:Int):cL k q=jT k.plea s q:=by
 unfold cL jT;rw[ZY _ _ _ k k k q q q rfl rfl rfl,h.st];unfold cH cI cJ i6 i7 i9;rw[h.st,Vc h,Ve h,mw k.plea.clauses default (fun c=>((c.then_==i64.wrap (0 - q))&&jF s c)&&oS k.plea s q c.rank) () fun _=>rfl];cases aO s.strict q <;>cases aO s.strict (i64.wrap (0 - q)) <;>cases qL k.plea s q <;>cases k.plea.clauses.any _ <;>rfl
def act (k:PleasCourt)(q:Int):Option Bool:=
 bif(bg .int .int k.known q:Int) !=0 then none else bif bg .int .bool k.strict q then some true else bif dg k q then some true else bif cL k q then some false else none
def xo (k:PleasCourt)(q:Int):Option (Int×Bool):=(act k q).map fun b=>(q,b)
def lp (x:Reason):Int×Bool:=(x.literal,x.proved)
theorem Jk (facts:List Int)(clauses:List Clause)(st:List (Int×Bool))(s0:List (Int×Int)×List Reason):∀ (L:List Int) (a:List Reason),
  ∃ R,kf (ay facts clauses st s0) L a=.inr (a++R)/\R.map lp=L.filterMap (xo { plea:= { facts:=facts,clauses:=clauses},strict:=st,known:=s0.1})
 | [],a=>⟨[],by simp[kf],rfl⟩
 |q::L,a=>by
  have cons:∀ x:Reason,lp x=(q,x.proved)->act { plea:= { facts:=facts,clauses:=clauses},strict:=st,known:=s0.1} q=some x.proved->ay facts clauses st s0 q a=.inr (a++[x])->∃ R,kf (ay facts clauses st s0) (q::L) a=.inr (a++R)/\R.map lp=(q::L).filterMap (xo { plea:= { facts:=facts,clauses:=clauses},strict:=st,known:=s0.1}):=fun x h1 h2 h3=>by
   obtain⟨R,r1,r2⟩:=Jk facts clauses st s0 L (a++[x]);refine⟨x::R,by simp only[kf,h3];rw[r1];simp,?_⟩;have:xo { plea:= { facts:=facts,clauses:=clauses},strict:=st,known:=s0.1} q=some (lp x):=by unfold xo;rw[h2,h1];rfl
   rw[List.filterMap_cons_some this,<-r2];rfl
  have skip:act { plea:= { facts:=facts,clauses:=clauses},strict:=st,known:=s0.1} q=none->ay facts clauses st s0 q a=.inr a->∃ R,kf (ay facts clauses st s0) (q::L) a=.inr (a++R)/\R.map lp=(q::L).filterMap (xo { plea:= { facts:=facts,clauses:=clauses},strict:=st,known:=s0.1}):=fun h2 h3=>by
   obtain⟨R,r1,r2⟩:=Jk facts clauses st s0 L a;refine⟨R,by simp only[kf,h3];exact r1,?_⟩;have:xo { plea:= { facts:=facts,clauses:=clauses},strict:=st,known:=s0.1} q=none:=by unfold xo;rw[h2];rfl
   rw[List.filterMap_cons_none this];exact r2
  have ea:∀ r,act { plea:= { facts:=facts,clauses:=clauses},strict:=st,known:=s0.1} q=r↔(bif(bg .int .int s0.1 q:Int) !=0 then none else bif bg .int .bool st q then some true else bif dg { plea:= { facts:=facts,clauses:=clauses},strict:=st,known:=s0.1} q then some true else bif cL { plea:= { facts:=facts,clauses:=clauses},strict:=st,known:=s0.1} q then some false else none)=r:=fun r=>Iff.rfl;rw[ea]at skip;simp only[ea]at cons;unfold ay at cons skip;cases h1:(bg .int .int s0.1 q:Int) !=0 with
  |true=>
   rw[h1]at skip;exact skip rfl rfl
  |false=>
   rw[h1]at skip cons;cases h2:bg .int .bool st q with
   |true=>rw[h2]at cons;exact cons _ rfl rfl rfl
   |false=>
    rw[h2]at cons skip;cases h3:dg { plea:= { facts:=facts,clauses:=clauses},strict:=st,known:=s0.1} q with
    |true=>rw[h3]at cons;exact cons _ rfl rfl rfl
    |false=>
     rw[h3]at cons skip;cases h4:cL { plea:= { facts:=facts,clauses:=clauses},strict:=st,known:=s0.1} q with
     |true=>rw[h4]at cons;exact cons _ rfl rfl rfl
     |false=>rw[h4]at skip;exact skip rfl rfl
end Go.Sx
end
section
namespace Go.Sx
open Go.Proofs
open IntKind (i64)
def AF:Nat->List Int
 |0=>[]
 |n+1=>bif(32 - (n:Int)) ==0 then AF n else(32 - (n:Int))::AF n
theorem KY:ax=AF 65:=by kernel_rfl
theorem Jl:ax.Nodup:=of_decide_eq_true kr
theorem KS.kn {k:PleasCourt}{s:Acequiaref51State}(h:KS k s)(q:Int):((bg .int .int k.known q:Int) !=0)=(aO s.proved q||aO s.refuted q):=by
 rw[h.p1,h.p2];rcases h.r q with e|e|e <;>rw[e] <;>rfl
theorem Aj {k:PleasCourt}{s:Acequiaref51State}(h:KS k s):∀ (n:Nat) (fuel i:Nat) (a:List Reason),n<fuel->n<=65->a.length+n<=70->
  okI (eH k.plea s) (kG k.plea s) fuel i (33 - (n:Int),a)/\∃ R,aq (eH k.plea s) fuel i (33 - (n:Int),a)=.inl (a++R)/\R.map lp=(AF n).filterMap (xo k)
 |_,0,_,_,hf,_,_=>absurd hf (Nat.not_lt_zero _)
 |0,fuel+1,i,a,_,_,_=>by
  have e:eH k.plea s i (33 - ((0:Nat):Int),a)=.inl a:=by
   unfold eH;simp only[decide_eq_false (by omega:¬ (33 - ((0:Nat):Int))<=32),cond_false]
  refine⟨⟨fun h=>?_,fun s' e'=>by rw[e]at e';cases e'⟩,[],by rw[aq,e];simp,rfl⟩;have:=of_decide_eq_true h;simp only at this;omega
 |n+1,fuel+1,i,a,hf,hn,ha=>by
  have eq1:(33:Int) - ((n+1:Nat):Int)=32 - (n:Int):=by omega
  have eq2:i64.wrap (32 - (n:Int)+1)=33 - (n:Int):=by rw[mb (by omega) (by omega)];omega
  rw[eq1];have hb:∀ x:Reason,(a++[x]).length*24<=ez:=fun x=>by
   simp only[List.length_append,List.length_singleton];unfold ez;omega
  have hp:kG k.plea s i (32 - (n:Int),a):=fun _ _=>⟨fun _=>hb _,fun _=>⟨fun _=>hb _,fun _ _=>hb _⟩⟩;have step:(eH k.plea s i (32 - (n:Int),a)=.inr (33 - (n:Int),a)/\((32 - (n:Int))=0\/xo k (32 - (n:Int))=none))\/∃ x:Reason,eH k.plea s i (32 - (n:Int),a)=.inr (33 - (n:Int),a++[x])/\(32 - (n:Int))≠0/\xo k (32 - (n:Int))=some (lp x):=by
   unfold eH xo act;simp only[decide_eq_true (by omega:(32 - (n:Int))<=32),cond_true,eq2];rw[h.kn,h.st];by_cases h0:(32 - (n:Int))=0
   ·rw[h0];exact .inl ⟨rfl,.inl rfl⟩
   ·have h0':((32 - (n:Int)) ==0)=false:=by simpa using h0
    rw[h0',Bool.false_or];cases h1:(aO s.proved (32 - (n:Int)) ||aO s.refuted (32 - (n:Int)))with
    |true=>exact .inl ⟨rfl,.inr rfl⟩
    |false=>
     cases h2:aO s.strict (32 - (n:Int))with
     |true=>exact .inr ⟨_,rfl,h0,rfl⟩
     |false=>
      rw[Mi h _ (by rw[h.st];exact h2),Jj h];cases h3:lr k.plea s (32 - (n:Int))with
      |true=>exact .inr ⟨_,rfl,h0,rfl⟩
      |false=>
       cases h4:jT k.plea s (32 - (n:Int))with
       |true=>exact .inr ⟨_,rfl,h0,rfl⟩
       |false=>exact .inl ⟨rfl,.inr rfl⟩
  rcases step with⟨e,hs⟩ | ⟨x,e,h0,hs⟩
  ·obtain⟨i1,R,i2,i3⟩:=Aj h n fuel (i+1) a (by omega) (by omega) (by omega);refine⟨⟨hp,fun s' e'=>by rw[e]at e';simp only[Sum.inr.injEq]at e';subst e';exact i1⟩,R,by rw[aq,e];exact i2,?_⟩;rw[i3,AF];rcases hs with hs|hs
   ·rw[hs];rfl
   ·cases((32 - (n:Int)) ==0)with
    |true=>rfl
    |false=>simp only[cond_false];rw[List.filterMap_cons_none hs]
  ·obtain⟨i1,R,i2,i3⟩:=Aj h n fuel (i+1) (a++[x]) (by omega) (by omega) (by simp only[List.length_append,List.length_singleton];omega);refine⟨⟨hp,fun s' e'=>by rw[e]at e';simp only[Sum.inr.injEq]at e';subst e';exact i1⟩,x::R,by rw[aq,e];simp only;rw[i2];simp,?_⟩;have h0':((32 - (n:Int)) ==0)=false:=by simpa using h0
   rw[AF,h0'];simp only[cond_false,List.map_cons];rw[List.filterMap_cons_some hs,i3]
def j6 (k:PleasCourt):List (Int×Bool):=ax.filterMap (xo k)
theorem C1 {k:PleasCourt}{s:Acequiaref51State}(h:KS k s):oq k.plea s/\(g7 k.plea s).map lp=j6 k:=by
 obtain⟨h1,R,h2,h3⟩:=Aj h 65 130 0 [] (by omega) (by omega) (by simp);have e0:(33:Int) - ((65:Nat):Int)= -32:=by omega
 rw[e0]at h1 h2;refine⟨⟨h1,KD (Q:=fun _=>True) ⟨_,h2,trivial⟩⟩,?_⟩;unfold g7 j6;rw[h2,KY];simpa using h3
theorem C2 (k:PleasCourt):∀ L:List Int,((L.filterMap (xo k)).map Prod.fst).Sublist L
 | [] =>.slnil
 |q::L=>by
  cases hs:xo k q with
  |none=>rw[List.filterMap_cons_none hs];exact(C2 k L).cons _
  |some x=>
   rw[List.filterMap_cons_some hs,List.map_cons];have:x.1=q:=by
    unfold xo at hs;cases ha:act k q with
    |none=>rw[ha]at hs;cases hs
    |some b=>rw[ha]at hs;cases hs;rfl
   rw[this];exact(C2 k L).cons₂ _
theorem KZ {k:PleasCourt}{x:Int×Bool}(hx:x∈j6 k):x.1∈ax/\(bg .int .int k.known x.1:Int)=0:=by
 unfold j6 at hx;obtain⟨q,hq,hs⟩:=List.mem_filterMap.1 hx;unfold xo at hs;cases ha:act k q with
 |none=>rw[ha]at hs;cases hs
 |some b=>
  rw[ha]at hs;cases hs;refine⟨hq,?_⟩;unfold act at ha;cases hc:(bg .int .int k.known q:Int) !=0 with
  |true=>rw[hc]at ha;cases ha
  |false=>simpa using hc
def oT (k:List (Int×Int))(x:Int×Bool):List (Int×Int):=bif x.2 then iH .int .int (iH .int .int k x.1 2) x.1 1 else iH .int .int k x.1 2
def u6 (s:List Int×List Int)(x:Int×Bool):List Int×List Int:=bif x.2 then(s.1++[x.1],s.2)else(s.1,s.2++[x.1])
theorem qN (k:List (Int×Int))(x:Int×Bool)(q:Int):(bg .int .int (oT k x) q:Int)=if q=x.1 then(bif x.2 then 1 else 2)else bg .int .int k q:=by
 have hu:∀ (m:List (Int×Int)) (v:Int),(bg .int .int (iH .int .int m x.1 v) q:Int)=if q=x.1 then v else bg .int .int m q:=fun m v=>uS (kk:=.int) (vk:=.int) m x.1 q v;unfold oT;cases x.2 with
 |true=>simp only[cond_true];rw[hu,hu];split <;>rfl
 |false=>simp only[cond_false];rw[hu]
theorem O8 (facts:List Int)(clauses:List Clause)(st:List (Int×Bool))(s1:List Reason):∀ (R A:List Reason) (k:List (Int×Int)),s1=A++R->aq (eo facts clauses st s1) R.length A.length k=.inr ((R.map lp).foldl oT k)
 | [],A,k,_=>rfl
 |y::R,A,k,h=>by
  have g:s1.getD A.length default=y:=by rw[h];exact gP A y default R rfl
  have ih:=O8 facts clauses st s1 R (A++[y]) (oT k (lp y)) (by rw[h];simp);rw[List.length_append,List.length_singleton]at ih;simp only[List.length_cons,aq,eo,g,List.map_cons,List.foldl_cons];exact ih
theorem K1 (l:List Reason):∀ (R A:List Reason) (s:List Int×List Int),l=A++R->s.1.length+s.2.length+R.length<=10000->
  okI (lv l) (p8 l) R.length A.length s/\aq (lv l) R.length A.length s=.inr ((R.map lp).foldl u6 s)
 | [],A,s,_,_=>⟨trivial,rfl⟩
 |y::R,A,s,h,hl=>by
  simp only[List.length_cons]at hl;have g:l.getD A.length default=y:=by rw[h];exact gP A y default R rfl
  have e:lv l A.length s=.inr (u6 s (lp y)):=by
   unfold lv u6 lp;rw[g];cases y.proved <;>rfl
  have hn:(u6 s (lp y)).1.length+(u6 s (lp y)).2.length+R.length<=10000:=by
   unfold u6;cases(lp y).2 <;>simp <;>omega
  obtain⟨i1,i2⟩:=K1 l R (A++[y]) (u6 s (lp y)) (by rw[h];simp) hn;rw[List.length_append,List.length_singleton]at i1 i2;refine⟨⟨fun _=>⟨fun _=>?_,fun _=>?_⟩,fun s' e'=>by rw[e]at e';simp only[Sum.inr.injEq]at e';subst e';exact i1⟩,?_⟩
  ·rw[List.length_append,List.length_singleton];unfold ez;omega
  ·rw[List.length_append,List.length_singleton];unfold ez;omega
  ·simp only[List.length_cons,aq,e,List.map_cons,List.foldl_cons];exact i2
theorem Vf (st pr rf:List Int)(l:List Reason)(h:pr.length+rf.length+l.length<=10000):o9 st pr rf l/\gM st pr rf l=(l.map lp).foldl u6 (pr,rf):=by
 obtain⟨h1,h2⟩:=K1 l l [] (pr,rf) rfl h;rw[List.length_nil]at h1 h2;refine⟨h1,?_⟩;unfold gM;rw[h2]
theorem HG:∀ (X:List (Int×Bool)) (s:List Int×List Int),(X.foldl u6 s).1.length+(X.foldl u6 s).2.length=s.1.length+s.2.length+X.length
 | [],s=>by simp
 |x::X,s=>by
  rw[List.foldl_cons,HG X];unfold u6;cases x.2 <;>simp <;>omega
theorem K2 (p:Plea)(st:List (Int×Bool))(sl:List Int):∀ (X:List (Int×Bool)) (kn:List (Int×Int)) (s:List Int×List Int),(X.map Prod.fst).Nodup->(∀ x∈X,(bg .int .int kn x.1:Int)=0)->KS { plea:=p,strict:=st,known:=kn} { strict:=sl,proved:=s.1,refuted:=s.2}->
  KS { plea:=p,strict:=st,known:=X.foldl oT kn} { strict:=sl,proved:=(X.foldl u6 s).1,refuted:=(X.foldl u6 s).2}/\∀ q:Int,((bg .int .int kn q:Int)≠0\/∃ x∈X,x.1=q)->(bg .int .int (X.foldl oT kn) q:Int)≠0
 | [],kn,s,_,_,h=>⟨h,fun q hq=>by
  rcases hq with hq| ⟨x,hx,_⟩
  ·exact hq
  ·cases hx⟩
 |x::X,kn,s,hn,hz,h=>by
  rw[List.map_cons,List.nodup_cons]at hn;have hx:=hz x (by simp);have k1:KS { plea:=p,strict:=st,known:=oT kn x} { strict:=sl,proved:=(u6 s x).1,refuted:=(u6 s x).2}:=by
   refine⟨h.st,fun q=>?_,fun q=>?_,fun q=>?_⟩
   ·show(bg .int .int (oT kn x) q:Int)=1↔q∈(u6 s x).1;rw[qN];have hp:=h.pr q;simp only at hp;unfold u6;by_cases hq:q=x.1
    ·subst hq;rw[if_pos rfl];cases x.2 with
     |true=>simp
     |false=>simp only[cond_false];rw[<-hp,hx];simp
    ·rw[if_neg hq,hp];cases x.2 <;>simp[hq]
   ·show(bg .int .int (oT kn x) q:Int)=2↔q∈(u6 s x).2;rw[qN];have hp:=h.rf q;simp only at hp;unfold u6;by_cases hq:q=x.1
    ·subst hq;rw[if_pos rfl];cases x.2 with
     |true=>simp only[cond_true];rw[<-hp,hx];simp
     |false=>simp
    ·rw[if_neg hq,hp];cases x.2 <;>simp[hq]
   ·show(bg .int .int (oT kn x) q:Int)=0\/(bg .int .int (oT kn x) q:Int)=1\/(bg .int .int (oT kn x) q:Int)=2;rw[qN];split
    ·cases x.2 <;>simp
    ·exact h.r q
  obtain⟨r1,r2⟩:=K2 p st sl X (oT kn x) (u6 s x) hn.2 (fun y hy=>by
   rw[qN,if_neg (fun e=>hn.1 (by rw[<-e];exact List.mem_map.2 ⟨y,hy,rfl⟩))];exact hz y (by simp[hy])) k1
  refine⟨r1,fun q hq=>r2 q ?_⟩;rcases hq with hq| ⟨y,hy,e⟩
  ·left;rw[qN];split
   ·cases x.2 <;>decide
   ·exact hq
  ·rcases List.mem_cons.1 hy with rfl|hy
   ·left;rw[qN,if_pos e.symm];cases y.2 <;>decide
   ·exact .inr ⟨y,hy,e⟩
def unk (kn:List (Int×Int)):Nat:=(ax.filter fun q=>(bg .int .int kn q:Int) ==0).length
theorem ZZ (p:Plea)(st:List (Int×Bool))(hst:∀ q,bg .int .bool st q=aO (az p) q):∀ (n f1 f2 i1 i2:Nat) (kn:List (Int×Int)) (all:List Reason) (pr rf:List Int) (out l:List Reason),
  unk kn<=n->n<f1->n<f2->KS { plea:=p,strict:=st,known:=kn} { strict:=az p,proved:=pr,refuted:=rf}->l=g7 p { strict:=az p,proved:=pr,refuted:=rf}->
  pr.length+rf.length+65*n<=9000->out.length+65*n<=9000->
  okI (fj p) (nL p) f2 i2 (pr,rf,out,l)/\∃ kn' all' pr' rf' out',aq (bJ p.facts p.clauses st) f1 i1 (kn,all)=.inl (kn',all')/\aq (fj p) f2 i2 (pr,rf,out,l)=.inl (pr',rf',out')/\
   KS { plea:=p,strict:=st,known:=kn'} { strict:=az p,proved:=pr',refuted:=rf'}
 |_,0,_,_,_,_,_,_,_,_,_,_,h,_,_,_,_,_=>absurd h (Nat.not_lt_zero _)
 |_,_+1,0,_,_,_,_,_,_,_,_,_,_,h,_,_,_,_=>absurd h (Nat.not_lt_zero _)
 |n,f1+1,f2+1,i1,i2,kn,all,pr,rf,out,l,hn,h1,h2,hk,hl,hs,ho=>by
  obtain⟨_,q2⟩:=C1 hk;rw[<-hl]at q2;have lenX:l.length=(j6 { plea:=p,strict:=st,known:=kn}).length:=by rw[<-q2,List.length_map]
  have len64:(j6 { plea:=p,strict:=st,known:=kn}).length<=64:=by
   have:=List.length_filterMap_le (xo { plea:=p,strict:=st,known:=kn}) ax;rw[FG]at this;exact this
  obtain⟨s1,d1,d2⟩:=Jk p.facts p.clauses st (kn,all) ax [];rw[List.nil_append]at d1;have d2:s1.map lp=j6 { plea:=p,strict:=st,known:=kn}:=d2;have sN:s1.length=(j6 { plea:=p,strict:=st,known:=kn}).length:=by rw[<-d2,List.length_map]
  by_cases hz:(j6 { plea:=p,strict:=st,known:=kn}).length=0
  ·have e1:bJ p.facts p.clauses st i1 (kn,all)=.inl (kn,all):=by
    unfold bJ;rw[d1];have:((s1.length:Int) ==0)=true:=by rw[sN,hz];rfl
    simp only[this,cond_true]
   have e2:fj p i2 (pr,rf,out,l)=.inl (pr,rf,out):=by
    unfold fj;have:decide ((l.length:Int) > 0)=false:=decide_eq_false (by rw[lenX,hz];simp);simp only[this,cond_false]
   refine⟨⟨fun _ h=>?_,fun s' e'=>by rw[e2]at e';cases e'⟩,kn,all,pr,rf,out,by rw[aq,e1],by rw[aq,e2],hk⟩;have h:=of_decide_eq_true h;simp only at h;rw[lenX,hz]at h;simp at h
  ·
   obtain⟨a1,a2⟩:=Vf (az p) pr rf l (by omega);rw[q2]at a2;have hnd:((j6 { plea:=p,strict:=st,known:=kn}).map Prod.fst).Nodup:=Jl.sublist (C2 _ _);obtain⟨k1,k2⟩:=K2 p st (az p) (j6 { plea:=p,strict:=st,known:=kn}) kn (pr,rf) hnd (fun x hx=>(KZ hx).2) hk;have fl:=HG (j6 { plea:=p,strict:=st,known:=kn}) (pr,rf);rw[<-a2]at k1 fl;simp only at fl;have hlt:unk ((j6 { plea:=p,strict:=st,known:=kn}).foldl oT kn) <unk kn:=by
    have hne:j6 { plea:=p,strict:=st,known:=kn}≠[]:=fun e=>hz (by rw[e];rfl);obtain⟨x,X,hX⟩:=List.exists_cons_of_ne_nil hne;have hx:x∈j6 { plea:=p,strict:=st,known:=kn}:=by rw[hX];simp
    obtain⟨u1,u2⟩:=KZ hx;refine zp (fun q _ h=>?_) ⟨x.1,u1,by rw[beq_iff_eq];exact u2,?_⟩
    ·rw[beq_iff_eq]at h |-;exact Decidable.byContradiction fun hq=>k2 q (.inl hq) h
    ·have:=k2 x.1 (.inr ⟨x,hx,rfl⟩);simpa using this
   have e1:bJ p.facts p.clauses st i1 (kn,all)=.inr ((j6 { plea:=p,strict:=st,known:=kn}).foldl oT kn,all++s1):=by
    unfold bJ;rw[d1];have:((s1.length:Int) ==0)=false:=by
     rw[beq_eq_false_iff_ne];omega
    simp only[this,cond_false];have l2:=O8 p.facts p.clauses st s1 s1 [] kn rfl;rw[List.length_nil,d2]at l2;rw[l2]
   have hpos:decide ((l.length:Int) > 0)=true:=decide_eq_true (by omega);have e2:fj p i2 (pr,rf,out,l)=.inr ((gM (az p) pr rf l).1,(gM (az p) pr rf l).2,out++l,g7 p { strict:=az p,proved:=(gM (az p) pr rf l).1,refuted:=(gM (az p) pr rf l).2}):=by
    unfold fj;simp only[hpos,cond_true]
   obtain⟨r1,_⟩:=C1 k1;cases n with
   |zero=>omega
   |succ n=>
    obtain⟨i0,kn',all',pr',rf',out',j1,j2,j3⟩:=ZZ p st hst n f1 f2 (i1+1) (i2+1) _ (all++s1) _ _ (out++l) _ (by omega) (by omega) (by omega) k1 rfl (by omega) (by rw[List.length_append];omega);refine⟨⟨fun _ _=>⟨?_,fun _=>⟨a1,r1⟩⟩,fun s' e'=>by rw[e2]at e';simp only[Sum.inr.injEq]at e';subst e';exact i0⟩,kn',all',pr',rf',out',by rw[aq,e1];exact j1,by rw[aq,e2];exact j2,j3⟩;show(out++l).length*24<=ez;rw[List.length_append];unfold ez;omega
theorem HH (p:Plea)(hF:p.facts.length<=64)(hC:p.clauses.length<=64):qW p/\KS { plea:=p,strict:=bt p,known:=(dh p.facts p.clauses (bt p) []).1} (jG p).2:=by
 obtain⟨s1,s2,s3⟩:=Bh p hF hC;have k0:KS { plea:=p,strict:=bt p,known:=[]} { strict:=az p,proved:=[],refuted:=[]}:=by
  refine⟨rL p hF hC,fun q=>?_,fun q=>?_,fun q=>.inl rfl⟩
  ·show(0:Int)=1↔q∈([]:List Int);simp
  ·show(0:Int)=2↔q∈([]:List Int);simp
 have hu:unk []<=64:=by
  unfold unk;have:=List.length_filter_le (fun q=>(bg .int .int ([]:List (Int×Int)) q:Int) ==0) ax;rw[FG]at this;exact this
 obtain⟨w1,kn',all',pr',rf',out',j1,j2,j3⟩:=ZZ p (bt p) (rL p hF hC) 64 130 70 0 0 [] [] [] [] [] _ hu (by omega) (by omega) k0 rfl (by simp) (by simp);refine⟨⟨s1,(C1 k0).1,w1,KD (Q:=fun _=>True) ⟨_,j2,trivial⟩⟩,?_⟩;unfold dh jG;rw[j1,j2];exact j3
theorem S2 (q:Int):gQ q=a7 q:=rfl
theorem HI (l:List Int):jz l=eL l:=rfl
theorem C3 (l:List Int):nj l:=j4 _ _ _ fun j _ _ hj hl _ h0=>by
 have h0:=of_decide_eq_true h0;unfold aA at hl;rw[mb (by omega) (by omega)];omega
theorem HJ:∀ (n:Nat) (q:Int),33 - (n:Int)<=q->q<=32->q≠0->q∈AF n
 |0,q,h1,h2,_=>by omega
 |n+1,q,h1,h2,h3=>by
  unfold AF;by_cases hq:q=32 - (n:Int)
  ·have:((32 - (n:Int)) ==0)=false:=by rw[beq_eq_false_iff_ne];omega
   rw[this];simp[hq]
  ·have:=HJ n q (by omega) h2 h3;cases((32 - (n:Int)) ==0) <;>simp[this]
theorem RN {q:Int}(h:a7 q=true):q∈ax:=by
 unfold a7 at h;rw[Bool.and_eq_true,Bool.and_eq_true,decide_eq_true_eq,decide_eq_true_eq]at h;rw[KY];exact HJ 65 q (by omega) h.1.2 (by simpa using h.2)
theorem HK {P:Int->Bool}{step:Int->Unit->Unit⊕Unit}(h:∀ q,step q ()=bif P q then .inl ()else .inr ()):∀ L:List Int,kf step L ()=bif L.any P then .inl ()else .inr ()
 | [] =>rfl
 |q::L=>by
  rw[kf,h,List.any_cons];cases P q with
  |true=>rfl
  |false=>simp only[cond_false,Bool.false_or];exact HK h L
def okc (last:Int)(c:Clause):Bool:=((((decide (c.no > last)&&decide (c.no<=1048576))&&a7 c.then_)&&decide (c.rank>=0))&&decide (c.rank<=1048576))&&eL c.if_
def chain:Int->List Clause->Bool
 |_,[] =>true
 |last,c::R=>okc last c&&chain c.no R
theorem HL (p:Plea):∀ (R A:List Clause) (b:Bool) (last:Int),p.clauses=A++R->∃ last',aq (kA p) R.length A.length (b,last)=.inr (b&&chain last R,last')
 | [],A,b,last,_=>⟨last,by simp[aq,chain]⟩
 |c::R,A,b,last,h=>by
  have g:p.clauses.getD A.length default=c:=by rw[h];exact gP A c default R rfl
  obtain⟨last',ih⟩:=HL p R (A++[c]) (b&&okc last c) c.no (by rw[h];simp);rw[List.length_append,List.length_singleton]at ih;refine⟨last',?_⟩;have e:kA p A.length (b,last)=.inr (b&&okc last c,c.no):=by
   unfold kA okc;rw[g,HI];simp only[S2,Bool.and_assoc]
  simp only[List.length_cons,aq,e,chain];rw[ih,Bool.and_assoc]
theorem HM (p:Plea)(hC:p.clauses.length<=64):∀ (R A:List Clause) (last:Int),p.clauses=A++R-> -1<=last->(A=[]->last= -1)->(0<A.length->last=(A.getD (A.length - 1) default).no)->
  aq (kF p) R.length A.length ()=bif chain last R then .inr ()else .inl ()
 | [],A,last,_,_,_,_=>rfl
 |c::R,A,last,h,h0,h1,h2=>by
  have g:p.clauses.getD A.length default=c:=by rw[h];exact gP A c default R rfl
  have hA:A.length<64:=by have:=congrArg List.length h;simp at this;omega
  have gp:0<A.length->p.clauses.getD (Int.toNat (i64.wrap ((A.length:Int) - 1))) default=A.getD (A.length - 1) default:=fun hp=>by
   rw[mb (by omega) (by omega),show Int.toNat ((A.length:Int) - 1)=A.length - 1 by omega,h,List.getD_eq_getElem?_getD,List.getElem?_append_left (by omega),<-List.getD_eq_getElem?_getD]
  have e:kF p A.length ()=bif okc last c then .inr ()else .inl ():=by
   unfold kF okc lm;rw[g];by_cases hp:0<A.length
   ·rw[gp hp,<-h2 hp,decide_eq_true (by omega:(A.length:Int) > 0),Bool.true_and];by_cases c1:c.no > last
    ·rw[decide_eq_true c1,decide_eq_true (by omega:c.no>=0),decide_eq_false (by omega:¬c.no<=last)];cases decide (c.no<=1048576) <;>cases a7 c.then_ <;>cases decide (c.rank>=0) <;>cases decide (c.rank<=1048576) <;>cases eL c.if_ <;>rfl
    ·rw[decide_eq_false c1,decide_eq_true (by omega:c.no<=last)];cases decide (c.no>=0) <;>cases decide (c.no<=1048576) <;>cases a7 c.then_ <;>cases decide (c.rank>=0) <;>cases decide (c.rank<=1048576) <;>cases eL c.if_ <;>rfl
   ·have hA0:A=[]:=List.length_eq_zero_iff.1 (by omega);have hl:=h1 hA0;rw[decide_eq_false (by omega:¬ (A.length:Int) > 0),Bool.false_and,Bool.or_false,hl];have:decide (c.no > -1)=decide (c.no>=0):=decide_eq_decide.2 (by omega);rw[this];cases decide (c.no>=0) <;>cases decide (c.no<=1048576) <;>cases a7 c.then_ <;>cases decide (c.rank>=0) <;>cases decide (c.rank<=1048576) <;>cases eL c.if_ <;>rfl
  simp only[List.length_cons,aq,e,chain];cases hc:okc last c with
  |false=>rfl
  |true=>
   simp only[cond_true,Bool.true_and];have hno:c.no > last:=by
    unfold okc at hc;simp only[Bool.and_eq_true,decide_eq_true_eq]at hc;exact hc.1.1.1.1.1
   have ih:=HM p hC R (A++[c]) c.no (by rw[h];simp) (by omega) (fun e=>by simp at e) (fun _=>by
    rw[List.length_append,List.length_singleton,Nat.add_sub_cancel];rw[gP A c default [] rfl])
   rw[List.length_append,List.length_singleton]at ih;exact ih
theorem En:∀ {R:List Clause} {last:Int},chain last R=true->∀ c∈R,a7 c.then_=true
 | [],_,_,c,hc=>by cases hc
 |x::R,last,h,c,hc=>by
  unfold chain at h;rw[Bool.and_eq_true]at h;rcases List.mem_cons.1 hc with rfl|hc
  ·have h:=h.1;unfold okc at h;simp only[Bool.and_eq_true]at h;exact h.1.1.1.2
  ·exact En h.2 c hc
theorem Jm {l:List Int}(h:eL l=true):∀ q∈l,a7 q=true:=fun q hq=>by
 unfold eL at h;cases hr:aq (lI l) l.length 0 ()with
 |inl x=>rw[hr]at h;cases h
 |inr s=>
  obtain⟨j,hj,rfl⟩:=List.getElem_of_mem hq;have:=yu hr j (Nat.zero_le _) (by omega);unfold lI at this;rw[Fk l 0 hj]at this;cases hl:a7 l[j]with
  |true=>rfl
  |false=>rw[hl]at this;simp at this
theorem FN (p:Plea):oo p/\gq p=eV p:=by
 have hk:bB p.clauses=p.clauses.any (fun c=>iB c):=ot p.clauses default (fun c=>iB c) fun _=>rfl;have h8:aq (p7 p) p.clauses.length 0 ()=bif p.clauses.any (fun c=>iB c)then .inl ()else .inr ():=mw p.clauses default (fun c=>iB c) () fun _=>rfl;have ltrue:∀ {a b:Nat},((decide ((a:Int) > 64)) ||(decide ((b:Int) > 64)))=false->a<=64/\b<=64:=fun {a b} h=>by
  simp only[Bool.or_eq_false_iff,decide_eq_false_iff_not]at h;omega
 refine⟨fun _ h1 s0 _=>⟨C3 _,fun _=>⟨j4 _ _ _ fun j _ _ hj hl=>⟨fun _ h0=>?_,fun _=>C3 _⟩,fun _ _=>(Bh p (ltrue h1).1 (ltrue h1).2).1⟩⟩,?_⟩
 ·have h0:=of_decide_eq_true h0;unfold aA at hl;rw[mb (by omega) (by omega)];omega
 ·unfold gq eV;rw[hk,h8];cases h1:((decide ((p.facts.length:Int) > 64)) ||(decide ((p.clauses.length:Int) > 64)))with
  |true=>rfl
  |false=>
   obtain⟨hF,hC⟩:=ltrue h1;cases h2:p.clauses.any (fun c=>iB c)with
   |true=>rfl
   |false=>
    simp only[Bool.or_self,cond_false];obtain⟨last',e0⟩:=HL p p.clauses [] (jz p.facts) (-1) rfl;have e1:=HM p hC p.clauses [] (-1) rfl (by omega) (fun _=>rfl) (fun h=>by simp at h);rw[List.length_nil]at e0 e1;rw[e0,e1,HI];cases hr:eL p.facts with
    |false=>rfl
    |true=>
     cases hc:chain (-1) p.clauses with
     |false=>rfl
     |true=>
      simp only[Bool.and_self,Bool.not_true,cond_false,cond_true];have ll:∀ q,Cl p q->a7 q=true:=fun q h=>by
       cases h with
       |fact h=>exact Jm hr q h
       |rule h _ _=>exact En hc _ h
      obtain⟨_,sm,_⟩:=Bh p hF hC;have e2:=HK (P:=fun q=>(bg .int .bool (bt p) q)&&(bg .int .bool (bt p) (i64.wrap (0 - q)))) (step:=mR p) (fun _=>rfl) ax;have e3:aq (tz p) (az p).length 0 ()=bif(az p).any (fun q=>aO (az p) (i64.wrap (0 - q)))then .inl ()else .inr ():=mw (az p) 0 (fun q=>aO (az p) (i64.wrap (0 - q))) () fun _=>rfl;have e4:ax.any (fun q=>(bg .int .bool (bt p) q)&&(bg .int .bool (bt p) (i64.wrap (0 - q))))=(az p).any (fun q=>aO (az p) (i64.wrap (0 - q))):=Ee (by
       rw[List.any_eq_true,List.any_eq_true];constructor
       ·rintro⟨q,_,h⟩;rw[Bool.and_eq_true]at h;have a:=h.1;have b:=h.2;rw[rL p hF hC]at a b;exact⟨q,(p_ _ _).1 a,b⟩
       ·rintro⟨q,hq,h⟩;refine⟨q,RN (ll q ((sm q).1 hq)),?_⟩;have a:bg .int .bool (bt p) q=true:=by rw[rL p hF hC];exact(p_ _ _).2 hq
        have b:bg .int .bool (bt p) (i64.wrap (0 - q))=true:=by rw[rL p hF hC];exact h
        rw[Bool.and_eq_true];exact⟨a,b⟩)
      rw[e2,e3,e4];cases(az p).any (fun q=>aO (az p) (i64.wrap (0 - q))) <;>rfl
theorem xC {p:Plea}(h:eV p=0):p.facts.length<=64/\p.clauses.length<=64:=by
 unfold eV at h;cases h1:((decide ((p.facts.length:Int) > 64)) ||(decide ((p.clauses.length:Int) > 64)))with
 |true=>rw[h1]at h;cases h
 |false=>
  simp only[Bool.or_eq_false_iff,decide_eq_false_iff_not]at h1;omega
theorem HN (p:Plea)(q:Int):p9 p q/\cD p q=fv p q:=by
 obtain⟨c1,c2⟩:=FN p;have hz:∀ {n:Int},(n !=0)=false->n=0:=fun h=>by simpa using h
 refine⟨⟨c1,fun h _=>(HH p (xC (hz h)).1 (xC (hz h)).2).1⟩,?_⟩;unfold cD fv;rw[c2];cases h1:eV p !=0 with
 |true=>rfl
 |false=>
  simp only[cond_false,S2];cases h2:!a7 q with
  |true=>rfl
  |false=>
   simp only[cond_false];obtain⟨_,k⟩:=HH p (xC (hz h1)).1 (xC (hz h1)).2;rw[k.p1,k.p2];simp only;rcases k.r q with e|e|e <;>simp only at e <;>rw[e] <;>rfl
theorem K3 (l:List Int)(n:Int):lN l n=true↔n∈l:=p_ l n
theorem O9 (l o:List Int):kC l o=true↔∀ k∈l,k∈o:=by
 unfold kC;rw[mw l 0 (fun q=>!lN o q) () fun _=>rfl];cases ha:l.any (fun q=>!lN o q)with
 |true=>
  obtain⟨x,hx,e⟩:=List.any_eq_true.1 ha;simp only[cond_true,Bool.false_eq_true,false_iff];intro h;rw[(K3 o x).2 (h x hx)]at e;cases e
 |false=>
  simp only[cond_false,true_iff];intro k hk;refine(K3 o k).1 ?_;cases hh:lN o k with
  |true=>rfl
  |false=>rw[List.any_eq_true.2 ⟨k,hk,by rw[hh];rfl⟩]at ha;cases ha
def Mj (m:Int):Int->List Int->Bool
 |_,[] =>true
 |last,x::R=>(decide (last<x)&&decide (x<m))&&Mj m x R
theorem HO (m:Int):∀ (R:List Int) (last:Int),Mj m last R=true↔R.Pairwise (· < ·)/\∀ x∈R,last<x/\x<m
 | [],_=>⟨fun _=>⟨.nil,fun x hx=>by cases hx⟩,fun _=>rfl⟩
 |x::R,last=>by
  unfold Mj;rw[Bool.and_eq_true,Bool.and_eq_true,decide_eq_true_eq,decide_eq_true_eq,HO m R x,List.pairwise_cons];constructor
  ·rintro⟨⟨h1,h2⟩,h3,h4⟩;refine⟨⟨fun y hy=>(h4 y hy).1,h3⟩,fun y hy=>?_⟩;rcases List.mem_cons.1 hy with rfl|hy
   ·exact⟨h1,h2⟩
   ·have:=h4 y hy;omega
  ·rintro⟨⟨h1,h2⟩,h3⟩;exact⟨h3 x (by simp),h2,fun y hy=>⟨h1 y hy,(h3 y (by simp[hy])).2⟩⟩
theorem K4 (b:Cases)(hs:b.sides.length<=32)(l:List Int)(hl:l.length<4611686018427387904):∀ (R A:List Int) (last:Int),l=A++R-> -1<=last->(A=[]->last= -1)->(0<A.length->last=A.getD (A.length - 1) 0)->
  aq (nG b l) R.length A.length ()=bif Mj (b.sides.length:Int) last R then .inr ()else .inl ()
 | [],A,last,_,_,_,_=>rfl
 |x::R,A,last,h,h0,h1,h2=>by
  have g:l.getD A.length 0=x:=by rw[h];exact gP A x 0 R rfl
  have hA:A.length<4611686018427387904:=by have:=congrArg List.length h;simp at this;omega
  have e:nG b l A.length ()=bif decide (last<x)&&decide (x< (b.sides.length:Int))then .inr ()else .inl ():=by
   unfold nG bp;rw[g,mb (by omega) (by omega)];have e1:decide (x<=(b.sides.length:Int) - 1)=decide (x< (b.sides.length:Int)):=decide_eq_decide.2 (by omega);rw[e1];by_cases hp:0<A.length
   ·have gp:l.getD (Int.toNat (i64.wrap ((A.length:Int) - 1))) 0=last:=by
     rw[mb (by omega) (by omega),show Int.toNat ((A.length:Int) - 1)=A.length - 1 by omega,h,List.getD_eq_getElem?_getD,List.getElem?_append_left (by omega),<-List.getD_eq_getElem?_getD];exact(h2 hp).symm
    rw[gp,decide_eq_true (by omega:(A.length:Int) > 0),Bool.true_and];by_cases c1:last<x
    ·rw[decide_eq_true c1,decide_eq_true (by omega:x>=0),decide_eq_false (by omega:¬x<=last)];cases decide (x< (b.sides.length:Int)) <;>rfl
    ·rw[decide_eq_false c1,decide_eq_true (by omega:x<=last)];cases decide (x>=0) <;>cases decide (x< (b.sides.length:Int)) <;>rfl
   ·have hl:=h1 (List.length_eq_zero_iff.1 (by omega));have e2:decide (last<x)=decide (x>=0):=decide_eq_decide.2 (by omega);rw[decide_eq_false (by omega:¬ (A.length:Int) > 0),Bool.false_and,Bool.or_false,e2];cases decide (x>=0) <;>cases decide (x< (b.sides.length:Int)) <;>rfl
  simp only[List.length_cons,aq,e,Mj];cases hc:decide (last<x)&&decide (x< (b.sides.length:Int))with
  |false=>rfl
  |true=>
   simp only[cond_true,Bool.true_and];rw[Bool.and_eq_true,decide_eq_true_eq]at hc;have ih:=K4 b hs l hl R (A++[x]) x (by rw[h];simp) (by omega) (fun e=>by simp at e) (fun _=>by
    rw[List.length_append,List.length_singleton,Nat.add_sub_cancel,gP A x 0 [] rfl])
   rw[List.length_append,List.length_singleton]at ih;exact ih
theorem qX (b:Cases)(hs:b.sides.length<=32)(l:List Int)(hl:l.length<4611686018427387904):fP b l=true↔OfOk l b.sides.length:=by
 have e:=K4 b hs l hl l [] (-1) rfl (by omega) (fun _=>rfl) (fun h=>by simp at h);rw[List.length_nil]at e;unfold fP;rw[e];have k:=HO (b.sides.length:Int) l (-1);have:OfOk l b.sides.length↔l.Pairwise (· < ·)/\∀ x∈l,-1<x/\x< (b.sides.length:Int):=⟨fun h=>⟨h.inc,fun x hx=>by have:=h.rg x hx;omega⟩,fun h=>⟨h.1,fun x hx=>by have:=h.2 x hx;omega⟩⟩;rw[this,<-k];cases Mj (b.sides.length:Int) (-1) l <;>simp
theorem Bi (b:Cases)(l:List Int):mU b l:=j4 _ _ _ fun j _ _ hj hl _ _ h0=>by
 have h0:=of_decide_eq_true h0;unfold aA at hl;rw[mb (by omega) (by omega)];omega
theorem C4 (b:Cases)(hs:b.sides.length<=32)(f l:List Int)(hl:l.length<4611686018427387904)(w:Int):nH b f l w=true↔OfOk l b.sides.length/\∀ k∈l,k∈f/\b.sides.getD k.toNat 0=w:=by
 unfold nH;rw[mw l 0 (fun k=>b.sides.getD (Int.toNat k) 0 !=w) () fun _=>rfl];cases h1:fP b l with
 |false=>
  have:¬OfOk l b.sides.length:=fun h=>by rw[(qX b hs l hl).2 h]at h1;cases h1
  simp only[Bool.not_false,Bool.true_or,cond_true,Bool.false_eq_true,false_iff];exact fun h=>this h.1
 |true=>
  have o:=(qX b hs l hl).1 h1;cases h2:kC l f with
  |false=>
   simp only[Bool.not_true,Bool.not_false,Bool.or_true,cond_true,Bool.false_eq_true,false_iff];intro h;rw[(O9 l f).2 fun k hk=>(h.2 k hk).1]at h2;cases h2
  |true=>
   have a:=(O9 l f).1 h2;simp only[Bool.not_true,Bool.or_self,cond_false];cases h3:l.any (fun k=>b.sides.getD (Int.toNat k) 0 !=w)with
   |true=>
    obtain⟨x,hx,e⟩:=List.any_eq_true.1 h3;simp only[cond_true,Bool.false_eq_true,false_iff];intro h;rw[(h.2 x hx).2]at e;simp at e
   |false=>
    simp only[cond_false,true_iff];refine⟨o,fun k hk=>⟨a k hk,?_⟩⟩;exact Decidable.byContradiction fun hne=>by
     rw[List.any_eq_true.2 ⟨k,hk,by simpa using hne⟩]at h3;cases h3
theorem Vg {l:List Int}{m:Nat}(h:OfOk l m){j:Nat}(hj:j<l.length):0<=l.getD j 0/\l.getD j 0< (m:Int):=by
 rw[List.getD_eq_getElem?_getD,List.getElem?_eq_getElem hj];exact h.rg _ (List.getElem_mem hj)
theorem Jn (b:Cases)(hs:b.sides.length<=32)(f l:List Int)(w:Int):pQ b f l w:=⟨Bi b l,fun h=>j4 _ _ _ fun j _ _ hj hl=>by
 rw[Bool.or_eq_false_iff,Bool.not_eq_false']at h;unfold aA at hl;exact Vg ((qX b hs l (by omega)).1 h.1) (by omega)⟩
theorem Ak (b:Cases):lO b:=fun _ h s0 _=>j4 _ _ _ fun j _ _ hj hl _=>by
 have hs:b.sides.length<=32:=by
  simp only[Bool.or_eq_false_iff,decide_eq_false_iff_not]at h;omega
 have hw:(decide ((j:Int) > 0))=true->0<=i64.wrap ((j:Int) - 1)/\i64.wrap ((j:Int) - 1) < (b.cases.length:Int):=fun h0=>by
  have h0:=of_decide_eq_true h0;unfold aA at hl;rw[mb (by omega) (by omega)];omega
 exact⟨hw,fun h0 _=>hw h0,fun _=>⟨Bi _ _,fun _=>Jn b hs _ _ _⟩⟩
theorem Mk (b:Cases)(hs:b.sides.length<=32)(hc:b.cases.length<=64){x:Case}{k:Nat}(hk:k<64)(g:b.cases.getD k default=x)(hf:x.facts.length<4611686018427387904)(hr:x.reason.length<4611686018427387904)(pn ph:Int)
  (h0:¬0<k->pn= -1/\ph=0) (h1:0<k->(b.cases.getD (k - 1) default).no=pn/\(b.cases.getD (k - 1) default).hour=ph/\ -1<=pn/\0<=ph):
  (g5 b k ()=.inr ()/\(pn<x.no/\ph<=x.hour/\CaseOk b.sides x))\/(g5 b k ()=.inl ()/\¬ (pn<x.no/\ph<=x.hour/\CaseOk b.sides x)):=by
 have wi:∀ n lo hi:Int,bp n lo hi=true↔lo<=n/\n<=hi:=fun n lo hi=>by unfold bp;simp
 have prev:((decide ((k:Int) > 0))&&((decide (x.no<=(b.cases.getD (Int.toNat (i64.wrap ((k:Int) - 1))) (default:Case)).no)) ||(decide (x.hour< (b.cases.getD (Int.toNat (i64.wrap ((k:Int) - 1))) (default:Case)).hour))))=true->¬ (pn<x.no/\ph<=x.hour):=fun h=>by
  rw[Bool.and_eq_true,decide_eq_true_eq,Bool.or_eq_true,decide_eq_true_eq,decide_eq_true_eq]at h;have hk0:0<k:=by omega
  rw[mb (by omega) (by omega),show Int.toNat ((k:Int) - 1)=k - 1 by omega,(h1 hk0).1,(h1 hk0).2.1]at h;omega
 have prevn:0<=x.no->0<=x.hour->((decide ((k:Int) > 0))&&((decide (x.no<=(b.cases.getD (Int.toNat (i64.wrap ((k:Int) - 1))) (default:Case)).no)) ||(decide (x.hour< (b.cases.getD (Int.toNat (i64.wrap ((k:Int) - 1))) (default:Case)).hour))))=false->pn<x.no/\ph<=x.hour:=fun a1 a2 h=>by
  by_cases hk0:0<k
  ·rw[decide_eq_true (by omega:(k:Int) > 0),Bool.true_and,Bool.or_eq_false_iff,decide_eq_false_iff_not,decide_eq_false_iff_not,mb (by omega) (by omega),show Int.toNat ((k:Int) - 1)=k - 1 by omega,(h1 hk0).1,(h1 hk0).2.1]at h;omega
  ·have:=h0 hk0;omega
 unfold g5;rw[g];cases c1:((!(bp x.no 0 1048576)) ||(!(bp x.hour 0 4096))) ||(!(bp x.winner 0 1))with
 |true=>
  refine .inr ⟨rfl,fun h=>?_⟩;have o:=h.2.2;rw[(wi _ _ _).2 o.no,(wi _ _ _).2 o.hr,(wi _ _ _).2 (by have:=o.w;omega)]at c1;cases c1
 |false=>
  simp only[Bool.or_eq_false_iff,Bool.not_eq_false',wi]at c1;obtain⟨⟨w1,w2⟩,w3⟩:=c1;simp only[cond_false];cases c2:((decide ((k:Int) > 0))&&((decide (x.no<=(b.cases.getD (Int.toNat (i64.wrap ((k:Int) - 1))) (default:Case)).no)) ||(decide (x.hour< (b.cases.getD (Int.toNat (i64.wrap ((k:Int) - 1))) (default:Case)).hour))))with
  |true=>exact .inr ⟨rfl,fun h=>prev c2 ⟨h.1,h.2.1⟩⟩
  |false=>
   have hp:=prevn w1.1 w2.1 c2;simp only[cond_false];cases c3:(!(fP b x.facts)) ||(!(nH b x.facts x.reason x.winner))with
   |true=>
    refine .inr ⟨rfl,fun h=>?_⟩;have o:=h.2.2;rw[(qX b hs _ hf).2 o.f,(C4 b hs _ _ hr _).2 ⟨o.r,o.sub⟩]at c3;cases c3
   |false=>
    simp only[Bool.or_eq_false_iff,Bool.not_eq_false']at c3;obtain⟨r1,r2⟩:=(C4 b hs _ _ hr _).1 c3.2;exact .inl ⟨rfl,hp.1,hp.2,w1,w2,by omega,(qX b hs _ hf).1 c3.1,r1,r2⟩
theorem AG (b:Cases)(hs:b.sides.length<=32)(hc:b.cases.length<=64)(hf:∀ x∈b.cases,x.facts.length<4611686018427387904/\x.reason.length<4611686018427387904):∀ (R A:List Case) (pn ph:Int),b.cases=A++R->(¬0<A.length->pn= -1/\ph=0)->(0<A.length->(A.getD (A.length - 1) default).no=pn/\(A.getD (A.length - 1) default).hour=ph/\ -1<=pn/\0<=ph)->
  (aq (g5 b) R.length A.length ()=.inr ()/\kw b.sides pn ph R)\/(aq (g5 b) R.length A.length ()=.inl ()/\¬kw b.sides pn ph R)
 | [],A,pn,ph,_,_,_=>.inl ⟨rfl,trivial⟩
 |x::R,A,pn,ph,h,h0,h1=>by
  have g:b.cases.getD A.length default=x:=by rw[h];exact gP A x default R rfl
  have hA:A.length<64:=by have:=congrArg List.length h;simp at this;omega
  have hx:=hf x (by rw[h];simp);have gp:0<A.length->b.cases.getD (A.length - 1) default=A.getD (A.length - 1) default:=fun hp=>by
   rw[h,List.getD_eq_getElem?_getD,List.getElem?_append_left (by omega),<-List.getD_eq_getElem?_getD]
  rcases Mk b hs hc hA g hx.1 hx.2 pn ph h0 (fun hp=>by rw[gp hp];exact h1 hp)with⟨e,o⟩ | ⟨e,o⟩
  ·have ih:=AG b hs hc hf R (A++[x]) x.no x.hour (by rw[h];simp) (fun hn=>absurd (by simp) hn) (fun _=>by
    rw[List.length_append,List.length_singleton,Nat.add_sub_cancel,gP A x default [] rfl];have a:=o.2.2.no;have c:=o.2.2.hr;exact⟨rfl,rfl,by omega,by omega⟩)
   rw[List.length_append,List.length_singleton]at ih;simp only[List.length_cons,aq,e,kw];rcases ih with⟨i1,i2⟩ | ⟨i1,i2⟩
   ·exact .inl ⟨i1,o.1,o.2.1,o.2.2,i2⟩
   ·exact .inr ⟨i1,fun hh=>i2 hh.2.2.2⟩
  ·simp only[List.length_cons,aq,e,kw];exact .inr ⟨trivial,fun hh=>o ⟨hh.1,hh.2.1,hh.2.2.1⟩⟩
theorem FO (b:Cases)(hf:∀ x∈b.cases,x.facts.length<4611686018427387904/\x.reason.length<4611686018427387904):cp b=dP b:=by
 obtain⟨_,r2,_⟩:=xB b;have r3:(aH b).2=2\/(aH b).2=520\/(aH b).2=0:=by
  unfold aH;cases(decide ((b.sides.length:Int) > 32)) ||(decide ((b.cases.length:Int) > 64))with
  |true=>exact .inl rfl
  |false=>
   simp only[cond_false];cases aq (bj b) b.sides.length 0 (0,0)with
   |inl y=>exact .inr (.inl rfl)
   |inr s=>
    simp only;cases aq (cC b s) b.cases.length 0 ([],(-1),0,0)with
    |inl y=>exact .inr (.inl rfl)
    |inr t=>exact .inr (.inr rfl)
 unfold cp;unfold dP;cases hz:(decide ((b.sides.length:Int) > 32)) ||(decide ((b.cases.length:Int) > 64))with
 |true=>unfold aH;rw[hz];rfl
 |false=>
  have hz2:=hz;rw[Bool.or_eq_false_iff,decide_eq_false_iff_not,decide_eq_false_iff_not]at hz2;have hs:b.sides.length<=32:=by omega
  have hc:b.cases.length<=64:=by omega
  have no2:(aH b).2≠2:=by
   unfold aH;rw[hz];simp only[cond_false];cases aq (bj b) b.sides.length 0 (0,0)with
   |inl y=>exact(by decide:(520:Int)≠2)
   |inr s=>
    simp only;cases aq (cC b s) b.cases.length 0 ([],(-1),0,0)with
    |inl y=>exact(by decide:(520:Int)≠2)
    |inr t=>exact(by decide:(0:Int)≠2)
  simp only[cond_false];have bad:¬Rd b->(aH b).2=520:=fun h=>by
   rcases r3 with e|e|e
   ·exact absurd e no2
   ·exact e
   ·exact absurd (r2.1 e) h
  have h0:aq (pV b) b.sides.length 0 ()=bif b.sides.any (fun x=>!(bp x 0 1))then .inl ()else .inr ():=mw b.sides 0 (fun x=>!(bp x 0 1)) () fun _=>rfl;have wi:∀ n:Int,bp n 0 1=true↔n=0\/n=1:=fun n=>by unfold bp;simp;omega
  have h1:=AG b hs hc hf b.cases [] (-1) 0 rfl (fun _=>⟨rfl,rfl⟩) (fun h=>by simp at h);rw[List.length_nil]at h1;rw[h0];cases ha:b.sides.any (fun x=>!(bp x 0 1))with
  |true=>
   obtain⟨x,hx,e⟩:=List.any_eq_true.1 ha;exact bad fun hR=>by
    rw[(wi x).2 (hR.sd x hx)]at e;cases e
  |false=>
   have sd:∀ x∈b.sides,x=0\/x=1:=fun x hx=>(wi x).1 (by
    cases hh:bp x 0 1 with
    |true=>rfl
    |false=>rw[List.any_eq_true.2 ⟨x,hx,by rw[hh];rfl⟩]at ha;cases ha)
   simp only[cond_false];rcases h1 with⟨e,h1⟩ | ⟨e,h1⟩
   ·rw[e];exact r2.2 ⟨hs,hc,sd,h1⟩
   ·rw[e];exact bad fun hR=>h1 hR.cs
def SmC (l:List Case):Prop:= ∀ x∈l,x.facts.length<4611686018427387904/\x.reason.length<4611686018427387904
theorem RO {b:Cases}(hf:SmC b.cases):dP b=0↔Rd b:=by rw[<-FO b hf];exact(xB b).2.1
def zB (b:Cases)(c:Case)(k:Int):Bool:=(b.sides.getD (Int.toNat k) 0 !=c.winner)&&(!(lN c.facts k))
theorem Vh (b:Cases)(c:Case)(F:List Int):jO b c F=F.filter (zB b c):=by
 have e:aq (nI b c F) F.length 0 []=.inr (F.filter (zB b c)):=qJ F 0 (zB b c) fun _ _=>rfl;unfold jO;rw[e]
theorem O_ {b:Cases}(hR:Rd b)(c:Case){F:List Int}(hF:OfOk F b.sides.length):oA b c F:=FH F 0 (zB b c) (fun _ _=>rfl) fun k s hk hs _=>⟨Vg hF hk,fun _=>by
 have:=hF.len;have:=hR.s;simp only[List.length_append,List.length_singleton];unfold ez;omega⟩
def A7 (b:Cases)(w:Int)(k:Int):Bool:=b.sides.getD (Int.toNat k) 0==w
theorem S3 (b:Cases)(F:List Int)(w:Int):nJ b F w=F.filter (A7 b w):=by
 have e:aq (oB b F w) F.length 0 []=.inr (F.filter (A7 b w)):=qJ F 0 (A7 b w) fun _ _=>rfl;unfold nJ;rw[e]
theorem K5 {b:Cases}(hR:Rd b){F:List Int}(hF:OfOk F b.sides.length)(w:Int):mW b F w:=FH F 0 (A7 b w) (fun _ _=>rfl) fun k s hk hs _=>⟨Vg hF hk,fun _=>by
 have:=hF.len;have:=hR.s;simp only[List.length_append,List.length_singleton];unfold ez;omega⟩
theorem K6 {b:Cases}(hf:SmC b.cases){F:List Int}(hl:F.length<4611686018427387904){side:Int}(hs:side=0\/side=1):mV b F side=0↔Rd b/\OfOk F b.sides.length:=by
 unfold mV;cases h1:dP b !=0 with
 |true=>
  have:dP b≠0:=by simpa using h1
  simp only[cond_true];exact⟨fun h=>absurd h this,fun h=>absurd ((RO hf).2 h.1) this⟩
 |false=>
  have hR:=(RO hf).1 (by simpa using h1);simp only[cond_false];have hw:bp side 0 1=true:=by unfold bp;simp;omega
  rw[hw];cases h2:fP b F with
  |true=>exact⟨fun _=>⟨hR,(qX b hR.s F hl).1 h2⟩,fun _=>rfl⟩
  |false=>exact⟨(fun h=>by cases h),fun h=>by rw[(qX b hR.s F hl).2 h.2]at h2;cases h2⟩
theorem Eo {b:Cases}(hf:SmC b.cases){F:List Int}(hl:F.length<4611686018427387904){side:Int}(hs:side=0\/side=1):oi b F side:=⟨⟨Ak b,fun _=>Bi b F⟩,fun h=>by
 obtain⟨hR,hF⟩:=(K6 hf hl hs).1 (by simpa using h);exact j4 _ _ _ fun j _ _ _ _ _=>O_ hR _ hF⟩
theorem Ep {b:Cases}(hR:Rd b){F:List Int}(hF:OfOk F b.sides.length){side:Int}(hs:side=0\/side=1)(x:Case):(((x.winner==side)&&(kC x.reason F))&&(((jO b x F).length:Int) ==0))=true↔zg b.sides F side x:=by
 rw[Bool.and_eq_true,Bool.and_eq_true,beq_iff_eq,O9,Vh,beq_iff_eq];have sd:∀ k∈F,b.sides.getD k.toNat 0=0\/b.sides.getD k.toNat 0=1:=fun k hk=>by
  have:=hF.rg k hk;have hk2:k.toNat<b.sides.length:=by omega
  rw[List.getD_eq_getElem?_getD,List.getElem?_eq_getElem hk2];exact hR.sd _ (List.getElem_mem hk2)
 have key:((((F.filter (zB b x)).length:Nat):Int)=0)↔∀ k∈F,zB b x k=false:=by
  constructor
  ·intro h k hk;have h:F.filter (zB b x)=[]:=List.length_eq_zero_iff.1 (by omega);have:=List.filter_eq_nil_iff.1 h k hk;simpa using this
  ·intro h;rw[List.filter_eq_nil_iff.2 fun k hk=>by rw[h k hk];simp];rfl
 rw[key];unfold zg;constructor
 ·rintro⟨⟨h1,h2⟩,h3⟩;refine⟨h1,h2,fun k hk hn=>?_⟩;have:=h3 k hk;unfold zB at this;rw[Bool.and_eq_false_iff]at this;rcases this with this|this
  ·have:b.sides.getD k.toNat 0=x.winner:=by simpa using this
   omega
  ·exact(K3 _ _).1 (by simpa using this)
 ·rintro⟨h1,h2,h3⟩;refine⟨⟨h1,h2⟩,fun k hk=>?_⟩;unfold zB;rw[Bool.and_eq_false_iff];by_cases he:b.sides.getD k.toNat 0=x.winner
  ·left;simpa using he
  ·right;have:=sd k hk;rw[(K3 _ _).2 (h3 k hk (by omega))];rfl
theorem K7 {b:Cases}(hf:SmC b.cases){F:List Int}(hl:F.length<4611686018427387904)(hR:Rd b)(hF:OfOk F b.sides.length){side:Int}(hs:side=0\/side=1):(gA b F side).2.1=(ap b F side).2.1:=Ee (by
 rw[(uU b F hs).2.2 hR hF];unfold gA;rw[(K6 hf hl hs).2 ⟨hR,hF⟩];simp only[bne_self_eq_false,cond_false];rcases CR b.cases default (fun x=>((x.winner==side)&&(kC x.reason F))&&(((jO b x F).length:Int) ==0)) (step:=pW b F side) (fun k _=>rfl)with⟨e,h⟩ | ⟨K,x,R,h0,e,h1,_⟩
 ·rw[e];simp only[Bool.false_eq_true,false_iff];rintro⟨x,hx,hb⟩;have:=h x hx;rw[(Ep hR hF hs x).2 hb]at this;cases this
 ·rw[e];simp only[true_iff];exact⟨x,by rw[h0];simp,(Ep hR hF hs x).1 h1⟩)
theorem Ml {b:Cases}(hR:Rd b){F:List Int}(hF:¬OfOk F b.sides.length):(ap b F 0).2.2=520:=by
 have e0:=(xB b).2.1.2 hR;have hof:(ar F (b.sides.length:Int)).2=false:=by
  cases h:(ar F (b.sides.length:Int)).2 with
  |false=>rfl
  |true=>exact absurd ((rD F hR.s).1.1 h) hF
 have ea:bS b F 0=((aH b).1,0,520):=by
  unfold bS;rw[e0,hof];rfl
 unfold ap;rw[ea];rfl
theorem RP {p:Plea}{q:Int}(h:eV p=0):(fv p q).2=bif a7 q then 0 else 1:=by
 unfold fv;rw[h];cases a7 q with
 |false=>rfl
 |true=>
  simp only[bne_self_eq_false,cond_false,Bool.not_true];cases aO ((jG p).2).proved q <;>cases aO ((jG p).2).refuted q <;>rfl
theorem C5 {b:Cases}(hf:SmC b.cases){s:Suit}(hl:s.facts.length<4611686018427387904):nr b s:=by
 have B0:=Eo hf hl (side:=0) (.inl rfl);have B1:=Eo hf hl (side:=1) (.inr rfl);refine⟨Ak b,fun h1=>⟨(FN _).1,fun _ _ hml=>⟨Bi _ _,fun _ h0=>?_,fun _ h0 _=>?_,fun h=>⟨(HN _ _).1,?_⟩⟩⟩⟩
 ·have h0:=of_decide_eq_true h0;unfold aA at hml;rw[mb (by omega) (by omega)];omega
 ·have h0:=of_decide_eq_true h0;unfold aA at hml;rw[mb (by omega) (by omega)];omega
 ·have hR:=(RO hf).1 (by simpa using h1);have hF:OfOk s.facts b.sides.length:=by
   cases hh:fP b s.facts with
   |true=>exact(qX b hR.s _ hl).1 hh
   |false=>rw[hh]at h;simp at h
  have F0:=K5 hR hF 0;have F1:=K5 hR hF 1
  repeat' (first|exact B0|exact B1|exact F0|exact F1|with_reducible refine And.intro ?_ ?_|with_reducible intro _)
theorem C6 {b:Cases}(hf:SmC b.cases){s:Suit}(hl:s.facts.length<4611686018427387904):aV b s=gk b s:=by
 unfold aV gk;simp only[Fo];rw[FO b hf,(FN s.plea).2,(HN s.plea s.question).2];cases h1:dP b !=0 with
 |true=>rfl
 |false=>
  have hR:=(RO hf).1 (by simpa using h1);have hc:=hR.c;simp only[cond_false];cases h2:eV s.plea !=0 with
  |true=>rfl
  |false=>
   simp only[cond_false];rw[RP (by simpa using h2)];cases h3:a7 s.question with
   |false=>rfl
   |true=>
    simp only[cond_true,beq_self_eq_true,Bool.not_true,cond_false];by_cases hF:OfOk s.facts b.sides.length
    ·rw[(uU b s.facts (side:=0) (.inl rfl)).2.1.2 ⟨hR,hF⟩,(qX b hR.s _ hl).2 hF,<-K7 hf hl hR hF (.inl rfl),<-K7 hf hl hR hF (.inr rfl),S3,S3];have l0:aq (il b s) s.facts.length 0 []=.inr (s.facts.filter (A7 b 1)):=qJ s.facts 0 (A7 b 1) fun _ _=>rfl;have l1:aq (im b s) s.facts.length 0 []=.inr (s.facts.filter (A7 b 0)):=qJ s.facts 0 (A7 b 0) fun _ _=>rfl;have l2:aq (io b s) s.facts.length 0 []=.inr (s.facts.filter (A7 b 1)):=qJ s.facts 0 (A7 b 1) fun _ _=>rfl;have l3:aq (ip b s) s.facts.length 0 []=.inr (s.facts.filter (A7 b 0)):=qJ s.facts 0 (A7 b 0) fun _ _=>rfl;rw[l0,l1,l2,l3];have win:∀ n lo hi:Int,aI n lo hi=du n lo hi:=fun n lo hi=>by rw[Ok,Zn]
     rw[win,win];simp only[beq_self_eq_true,cond_true,Bool.not_true,Bool.false_or];generalize (gA b s.facts 0).2.1=B0;generalize (gA b s.facts 1).2.1=B1;have e1:((fv s.plea s.question).1 !=1)= !((fv s.plea s.question).1==1):=rfl;rw[e1];generalize ((fv s.plea s.question).1==1)=A;generalize du s.no 0 1048576=W1;generalize du s.hour 0 4096=W2;generalize (b.cases.getD (Int.toNat (i64.wrap ((b.cases.length:Int) - 1))) (default:Case))=L;have e2:decide (s.no > L.no)= !decide (s.no<=L.no):=by
      by_cases h:s.no > L.no
      ·rw[decide_eq_true h,decide_eq_false (by omega)];rfl
      ·rw[decide_eq_false h,decide_eq_true (by omega)];rfl
     have e3:decide (s.hour>=L.hour)= !decide (s.hour<L.hour):=by
      by_cases h:s.hour>=L.hour
      ·rw[decide_eq_true h,decide_eq_false (by omega)];rfl
      ·rw[decide_eq_false h,decide_eq_true (by omega)];rfl
     rw[e2,e3];generalize decide (s.no<=L.no)=N1;generalize decide (s.hour<L.hour)=N2;generalize decide ((b.cases.length:Int) > 0)=G;cases W1 <;>cases W2 <;>cases G <;>cases N1 <;>cases N2 <;>cases A <;>cases B0 <;>cases B1 <;>rfl
    ·have hS:fP b s.facts=false:=by
      cases hh:fP b s.facts with
      |false=>rfl
      |true=>exact absurd ((qX b hR.s _ hl).1 hh) hF
     rw[Ml hR hF,hS];rfl
theorem xp (j:List Judgement)(x:Judgement)(h:Int):((((x.of_==0)&&(decide (x.hour<=h)))&&(aI h x.since x.to))&&(!(gm j x h)))=fa j x h:=by
 unfold fa;rw[Ol,Ok];cases(x.of_==0) <;>cases decide (x.hour<=h) <;>cases decide (x.since<=h) <;>cases decide (h<=x.to) <;>rfl
theorem qY (j:List Judgement)(h:Int):∀ (R A:List Judgement) (k:Nat) (s:List Judgement),j=A++R->A.length=k->aq (dS j h) R.length k s=.inr (s++R.filter fun x=>fa j x h)
 | [],A,k,s,_,_=>by simp[aq]
 |y::R,A,k,s,hj,hk=>by
  have g:j.getD k default=y:=by rw[hj];exact gP A y default R hk.symm
  simp only[List.length_cons,aq,dS,g,xp];have hj':j=(A++[y])++R:=by rw[hj];simp
  cases hc:fa j y h with
  |true=>
   simp only[cond_true];rw[qY j h R (A++[y]) (k+1) _ hj' (by simp[hk]),List.filter_cons_of_pos (by exact hc)];simp
  |false=>
   simp only[cond_false];rw[qY j h R (A++[y]) (k+1) _ hj' (by simp[hk]),List.filter_cons_of_neg (by rw[hc];simp)]
theorem FP (j:List Judgement)(h:Int):bE j h=j.filter fun x=>fa j x h:=by
 unfold bE;rw[qY j h j [] 0 [] rfl rfl];rfl
theorem HP (j:List Judgement)(h:Int):d8 j h ((bE j h).map rY):=by
 have e:=FP j h;have key:∀ (R A:List Judgement) (k:Nat) (s:List Judgement),j=A++R->A.length=k->s=(A.filter fun x=>fa j x h)->
   okI (dS j h) (fe j h ((bE j h).map rY)) R.length k s:=fun R=>by
  induction R with
  |nil=>exact fun A k s _ _ _=>trivial
  |cons y R ih=>
   intro A k s hj hk hs;have g:j.getD k default=y:=by rw[hj];exact gP A y default R hk.symm
   have hj':j=(A++[y])++R:=by rw[hj];simp
   refine⟨?_,fun s' e'=>?_⟩
   ·unfold fe;rw[g,xp];refine⟨fun hc=>?_,fun hc=>?_⟩
    ·rw[e];have hm:(j.filter fun x=>fa j x h)=s++y::(R.filter fun x=>fa j x h):=by
      have:(j.filter fun x=>fa j x h)=((A++y::R).filter fun x=>fa j x h):=by rw[<-hj]
      rw[this,List.filter_append,List.filter_cons_of_pos (by exact hc),<-hs]
     rw[hm];simp
    ·exact hc
   ·unfold dS at e';rw[g,xp]at e';refine ih (A++[y]) (k+1) s' hj' (by simp[hk]) ?_;cases hc:fa j y h with
    |true=>
     rw[hc]at e';simp only[cond_true,Sum.inr.injEq]at e';rw[List.filter_append,List.filter_cons_of_pos (by exact hc),<-hs,<-e'];rfl
    |false=>
     rw[hc]at e';simp only[cond_false,Sum.inr.injEq]at e';rw[List.filter_append,List.filter_cons_of_neg (by rw[hc];simp),<-hs,<-e'];simp
 intro _;refine⟨key j [] 0 [] rfl rfl rfl,fun s hs=>?_⟩;rw[qY j h j [] 0 [] rfl rfl]at hs;simp only[Sum.inr.injEq]at hs;rw[<-hs,e];simp
theorem HQ (a b:List Claim):pA a b:=fun _ _ h=>j4 _ _ _ fun j _ _ hj _=>by
 have:(a.length:Int)=b.length:=by simpa using h
 omega
theorem C7 {ρ:Type}{step:Nat->Unit->ρ⊕Unit}:∀ (n i:Nat),(∀ j,i<=j->j<i+n->step j ()=.inr ())->aq step n i ()=.inr ()
 |0,_,_=>rfl
 |n+1,i,h=>by
  rw[aq,h i (Nat.le_refl _) (by omega)];exact C7 n (i+1) fun j h1 h2=>h j (by omega) (by omega)
theorem AH (a:List Claim):qz a a=true:=by
 unfold qz;rw[show((a.length:Int) !=(a.length:Int))=false by simp,C7 (ρ:=Unit) a.length 0 fun j _ _=>by unfold qR;simp];rfl
theorem Jo (d:District)(j:List Judgement):eu d j:=fun _ _ h _=>j4 _ _ _ fun k s _ hk=>by
 rw[Fo]at h;have h:=of_decide_eq_true h;have key:((k:Int) ==0)=false->(0<=(i64.wrap ((k:Int) - 1))/\(i64.wrap ((k:Int) - 1)) < (j.length:Int)):=fun hk0=>by
  have:(k:Int)≠0:=by simpa using hk0
  rw[mb (by omega) (by omega)];omega
 exact fun _=>⟨key,fun h1 _=>key h1⟩
def Jp (t:List Claim->List Claim)(a2:List Judgement)(s_0:List Claim×List Claim)(z_1:Judgement)(s_1:List Claim):Empty⊕(List Claim):=letI q0:=t (cV z_1 s_1);(bif(z_1.kind==1)then .inr q0 else(bif(z_1.kind==2)then .inr q0 else(bif(z_1.kind==3)then .inr (t (dp z_1 s_1))else(bif(z_1.kind==4)then .inr (t s_1)else .inr default))))
def C8 (t:List Claim->List Claim)(tp:List Claim->Prop)(a2:List Judgement)(s_0:List Claim×List Claim)(z_1:Judgement)(s_1:List Claim):Prop:=letI q0:=(cn z_1 s_1)/\(tp (cV z_1 s_1));(((z_1.kind==1)=true->q0)/\((z_1.kind==1)=false->(((z_1.kind==2)=true->q0)/\((z_1.kind==2)=false->(((z_1.kind==3)=true->((cG z_1 s_1)/\(tp (dp z_1 s_1))))/\((z_1.kind==3)=false->(((z_1.kind==4)=true->(tp s_1))/\((z_1.kind==4)=false->False))))))))
def Jq (t:List Claim->List Claim)(a1:List Claim)(a2:List Judgement)(k_0:Nat)(s_0:List Claim×List Claim):(List Claim)⊕(List Claim×List Claim):=letI q1:=aj s_0.1 s_0.1;letI q2:=(s_0.1.length:Int);letI q0:=Int.toNat (bif(decide (q1<0))then q2 else q1);(bif(decide (q2 > 0))then(match kf (Jp t a2 s_0) (bE a2 ((s_0.1.getD 0 default).hour)) ((s_0.1.take q0).drop 0)with| .inl x=>x.elim| .inr s_1=>.inr (((s_0.1.take (Int.toNat q2)).drop q0),(s_0.2++s_1)))else .inl s_0.2)
def C9 (t:List Claim->List Claim)(tp:List Claim->Prop)(a1:List Claim)(a2:List Judgement)(k_0:Nat)(s_0:List Claim×List Claim):Prop:=letI q1:=(s_0.1.length:Int);letI q4:=aj s_0.1 s_0.1;letI q0:=bif(decide (q4<0))then q1 else q4;letI q3:=(s_0.1.take (Int.toNat q0)).drop 0;letI q5:=(s_0.1.getD 0 default).hour;letI q2:=bE a2 q5;(s_0.1.length<=aA->((decide (q1 > 0))=true->((bq s_0.1 s_0.1)/\((0<=0/\0<=q0/\q0<=q1)/\((q3.length*40<=ez)/\((0<=0/\0<q1)/\((d8 a2 q5 (q2.map rY))/\okL (Jp t a2 s_0) (C8 t tp a2 s_0) q2 q3/\(∀ s_1,kf (Jp t a2 s_0) q2 q3=.inr s_1->(((s_0.2++s_1).length*40<=ez)/\((s_0.2++s_1).length<=aA->(0<=q0/\q0<=q1/\q1<=q1)))))))))))
def exT (t:List Claim->List Claim)(a0:District)(a1:List Claim)(a2:List Judgement):List Claim×Int:=letI q0:=fq a0 a2;letI q1:=nE a0 a1;(bif(q0 !=0)then([],q0)else(bif(q1 !=0)then([],q1)else(match aq (Jq t a1 a2) (a1.length+1) 0 (a1,[])with| .inl x_0_0=>(bif((decide ((x_0_0.length:Int) > 4096)) ||(cq x_0_0))then([],2)else(x_0_0,0)) | .inr s_0=>default)))
def Pa (t:List Claim->List Claim)(tp:List Claim->Prop)(a0:District)(a1:List Claim)(a2:List Judgement):Prop:=((eu a0 a2)/\(((fq a0 a2) !=0)=false->((kh a0 a1)/\(((nE a0 a1) !=0)=false->(okI (Jq t a1 a2) (C9 t tp a1 a2) (a1.length+1) 0 (a1,[])/\(∀ z_,aq (Jq t a1 a2) (a1.length+1) 0 (a1,[])≠ .inr z_))))))
def Pb (a b:Claim):Bool:=decide (a.rank<b.rank) ||(a.rank==b.rank&&(decide (a.right<b.right) ||(a.right==b.right&&decide (a.farm<b.farm))))
theorem RQ {a b:Claim}(h:Pb a b=true):tlt a b:=by
 unfold Pb at h;simp only[Bool.or_eq_true,Bool.and_eq_true,decide_eq_true_eq,beq_iff_eq]at h;simp only[tlt,Fj];omega
def RR (x:Claim):List Claim->List Claim
 | [] =>[x]
 |y::r=>bif Pb x y then x::y::r else y::RR x r
theorem Er (x:Claim):∀ l,(RR x l).Perm (x::l)
 | [] =>.refl _
 |y::r=>by
  unfold RR;cases Pb x y with
  |true=>exact .refl _
  |false=>exact((Er x r).cons y).trans (.swap x y r)
def Vi:List Claim->List Claim
 | [] =>[]
 |x::r=>RR x (Vi r)
theorem Es:∀ l,(Vi l).Perm l
 | [] =>.refl _
 |x::r=>(Er x _).trans ((Es r).cons x)
def pwB:List Claim->Bool
 | [] =>true
 |x::r=>r.all (Pb x)&&pwB r
theorem Pc:∀ {l:List Claim},pwB l=true->l.Pairwise tlt
 | [],_=>.nil
 |x::r,h=>by
  unfold pwB at h;rw[Bool.and_eq_true,List.all_eq_true]at h;exact List.pairwise_cons.2 ⟨fun y hy=>RQ (h.1 y hy),Pc h.2⟩
def Vj (l:List Claim):List Claim:=Vi (l.filter fun x=>!aX x)
def Et (l:List Claim):Bool:=Nat.ble l.length 1000&&pwB (Vj l)
theorem HR {l:List Claim}(h:Et l=true):cS l/\dW l=Vj l:=by
 unfold Et at h;rw[Bool.and_eq_true]at h;have:=nbl h.1;exact RE (by omega) (Es _).symm (Pc h.2)
def Jr (l:List Claim):List Claim:=bif Et l then Vj l else dW l
def Mm (l:List Claim):Prop:=Et l=true\/cS l
theorem K8:Jr=dW:=funext fun l=>by
 unfold Jr;cases h:Et l with
 |true=>exact(HR h).2.symm
 |false=>rfl
theorem RS:Mm=cS:=funext fun l=>propext ⟨fun h=>h.elim (fun h=>(HR h).1) id,.inr⟩
noncomputable instance tidP_d (l:List Claim):Decidable (Mm l):=match h:Et l with
 |true=>.isTrue (.inl h)
 |false=>Classical.propDecidable _
theorem Pd (a:District)(b:List Claim)(c:List Judgement):eT a b c=exT Jr a b c:=by rw[K8];rfl
theorem HS (a:District)(b:List Claim)(c:List Judgement):eQ a b c=Pa Jr Mm a b c:=by rw[K8,RS];rfl
instance inF_d (j:List Judgement)(h:Int):Decidable (d8 j h ((bE j h).map rY)):=.isTrue (HP j h)
instance judgement_Check_l0_p_d (a0:District)(a1:List Judgement)(k_0:Nat)(s_0:List (Int×Bool)):Decidable (gV a0 a1 k_0 s_0):=by unfold gV;repeat (first|infer_instance|refine @instDecidableAnd _ _ ?_ ?_|refine @instDecidableForall _ _ ?_ ?_)
instance judgement_Check_p_d (a0:District)(a1:List Judgement):Decidable (eu a0 a1):=by unfold eu;repeat (first|infer_instance|refine @instDecidableAnd _ _ ?_ ?_|refine @instDecidableForall _ _ ?_ ?_)
instance claims_Check_l0_p_d (a0:District)(a1:List Claim)(k_0:Nat)(s_0:Unit):Decidable (jt a0 a1 k_0 s_0):=by unfold jt;repeat (first|infer_instance|refine @instDecidableAnd _ _ ?_ ?_|refine @instDecidableForall _ _ ?_ ?_)
instance claims_Check_p_d (a0:District)(a1:List Claim):Decidable (kh a0 a1):=by unfold kh;repeat (first|infer_instance|refine @instDecidableAnd _ _ ?_ ?_|refine @instDecidableForall _ _ ?_ ?_)
instance judgement_Execute_1_p_d (y:Claim)(r_:List Claim):Decidable (gF y r_):=by unfold gF;repeat (first|infer_instance|refine @instDecidableAnd _ _ ?_ ?_|refine @instDecidableForall _ _ ?_ ?_)
instance slices_IndexFunc_api_Claim_api_Claim_e_l0_p_d (s_:List Claim)(r_:List Claim)(k_0:Nat)(s_0:Unit):Decidable (bA s_ r_ k_0 s_0):=by unfold bA;repeat (first|infer_instance|refine @instDecidableAnd _ _ ?_ ?_|refine @instDecidableForall _ _ ?_ ?_)
instance slices_IndexFunc_api_Claim_api_Claim_e_p_d (s_:List Claim)(r_:List Claim):Decidable (bq s_ r_):=by unfold bq;repeat (first|infer_instance|refine @instDecidableAnd _ _ ?_ ?_|refine @instDecidableForall _ _ ?_ ?_)
instance judgement_docket_limit_l0_p_d (x:Judgement)(l_:List Claim)(k_0:Nat)(s_0:List Claim×Int):Decidable (ev x l_ k_0 s_0):=by unfold ev;repeat (first|infer_instance|refine @instDecidableAnd _ _ ?_ ?_|refine @instDecidableForall _ _ ?_ ?_)
instance judgement_docket_limit_p_d (x:Judgement)(l_:List Claim):Decidable (cn x l_):=by unfold cn;repeat (first|infer_instance|refine @instDecidableAnd _ _ ?_ ?_|refine @instDecidableForall _ _ ?_ ?_)
instance judgement_docket_give_1_p_d (y:Claim)(x_:Judgement)(r_:List Claim)(i_:Int):Decidable (eO y x_ r_ i_):=by unfold eO;repeat (first|infer_instance|refine @instDecidableAnd _ _ ?_ ?_|refine @instDecidableForall _ _ ?_ ?_)
instance slices_IndexFunc_judgement_docket_api_Claim_g_l0_p_d (s_:List Claim)(x_:Judgement)(r_:List Claim)(i_:Int)(k_0:Nat)(s_0:Unit):Decidable (a6 s_ x_ r_ i_ k_0 s_0):=by unfold a6;repeat (first|infer_instance|refine @instDecidableAnd _ _ ?_ ?_|refine @instDecidableForall _ _ ?_ ?_)
instance slices_IndexFunc_judgement_docket_api_Claim_g_p_d (s_:List Claim)(x_:Judgement)(r_:List Claim)(i_:Int):Decidable (bo s_ x_ r_ i_):=by unfold bo;repeat (first|infer_instance|refine @instDecidableAnd _ _ ?_ ?_|refine @instDecidableForall _ _ ?_ ?_)
instance judgement_docket_give_l0_p_d (x:Judgement)(l_:List Claim)(k_0:Nat)(s_0:Int×List Claim×Int):Decidable (eD x l_ k_0 s_0):=by unfold eD;repeat (first|infer_instance|refine @instDecidableAnd _ _ ?_ ?_|refine @instDecidableForall _ _ ?_ ?_)
instance judgement_docket_give_p_d (x:Judgement)(l_:List Claim):Decidable (cG x l_):=by unfold cG;repeat (first|infer_instance|refine @instDecidableAnd _ _ ?_ ?_|refine @instDecidableForall _ _ ?_ ?_)
noncomputable instance exT1_d (a2:List Judgement)(s_0:List Claim×List Claim)(z_1:Judgement)(s_1:List Claim):Decidable (C8 Jr Mm a2 s_0 z_1 s_1):=by unfold C8;repeat (first|infer_instance|refine @instDecidableAnd _ _ ?_ ?_|refine @instDecidableForall _ _ ?_ ?_)
noncomputable instance exT0_d (a1:List Claim)(a2:List Judgement)(k_0:Nat)(s_0:List Claim×List Claim):Decidable (C9 Jr Mm a1 a2 k_0 s_0):=by unfold C9;repeat (first|infer_instance|refine @instDecidableAnd _ _ ?_ ?_|refine @instDecidableForall _ _ ?_ ?_)
noncomputable instance exTp_d (a0:District)(a1:List Claim)(a2:List Judgement):Decidable (Pa Jr Mm a0 a1 a2):=by unfold Pa;repeat (first|infer_instance|refine @instDecidableAnd _ _ ?_ ?_|refine @instDecidableForall _ _ ?_ ?_)
theorem j13:eQ b7 iA fh/\eT b7 iA fh=(mX,0):=by
 rw[Pd,HS];exact⟨of_decide_eq_true kr,by kernel_rfl⟩
theorem j21:eQ b7 iA kD/\eT b7 iA kD=(mY,0):=by
 rw[Pd,HS];exact⟨of_decide_eq_true kr,by kernel_rfl⟩
instance judgement_Fines_l0_p_d (a1:List Judgement)(a2:Int)(k_0:Nat)(s_0:List Int):Decidable (gW a1 a2 k_0 s_0):=by unfold gW;repeat (first|infer_instance|refine @instDecidableAnd _ _ ?_ ?_|refine @instDecidableForall _ _ ?_ ?_)
instance judgement_Fines_p_d (a0:District)(a1:List Judgement)(a2:Int):Decidable (eR a0 a1 a2):=by unfold eR;repeat (first|infer_instance|refine @instDecidableAnd _ _ ?_ ?_|refine @instDecidableForall _ _ ?_ ?_)
theorem Vk:eR b7 fh 4:=of_decide_eq_true kr
theorem Vl:eR b7 [] 9:=of_decide_eq_true kr
theorem j16:ft b7 fh 4=([0,9,-9],0):=by kernel_rfl
theorem j9:ft b7 [] 9=([],1):=by kernel_rfl
theorem j22:mZ=530:=by kernel_rfl
theorem j17:ni=(({ sides:=[0,1],cases:=[{ no:=4,hour:=0,winner:=0,facts:=[0,1],reason:=[0]},{ no:=5,hour:=0,winner:=0,facts:=[0],reason:=[0]}]}:Cases),0):=by kernel_rfl
theorem Z0:gz ({ sides:=[0,1],cases:=[]}:Cases) na:=of_decide_eq_true kr
theorem RT:qS:=fun _=>⟨nbl rfl,fun s e=>by
 cases e;exact⟨nbl rfl,fun s e=>by
  cases e;exact⟨nbl rfl,fun _ _=>trivial⟩⟩⟩
theorem Vm:qI=true:=by
 unfold qI jP ol oj nf m_ iX iW d5 iY kE nh gj g6;rw[j13.2,j21.2,j16,j9,j22,AH,AH,j17];unfold eI jS lQ lP ga jR jQ;rw[j17];rfl
theorem Pe:p5:=by
 unfold p5 jP;refine⟨RT,j13.1,j21.1,Vk,Vl,fun _=>Jo _ _,fun _=>⟨HQ _ _,fun _=>⟨HQ _ _,fun _ _=>?_⟩⟩⟩;unfold d5 gj g6 eI jS lP ga jR jQ;rw[j16,j17];exact⟨fun _=>by decide,fun _=>by decide,fun _=>by decide,fun _=>⟨Z0,fun _=>by decide,fun _=>⟨by decide,fun _=>by decide,fun _=>by decide,fun _=>by decide,fun _=>by decide⟩⟩⟩
end Go.Sx
end
section
namespace Go.Sx
open Go.RowKit
open IntKind (i64)
def fzR (t:List (Nat×SV))(h:List Ob)(i c:Nat)(l:List SV)(j:Nat):Ob->St
 | .row k r=>⟨t,aW (aW h i (.cells (l.set c (.rs k r)))) j .dead⟩
 |_=>⟨t,h⟩
def fzV (t:List (Nat×SV))(h:List Ob)(i c:Nat)(l:List SV):Option SV->St
 |some (.os j) =>bif Nat.beq i j then ⟨t,h⟩else fzR t h i c l j (al h j)
 |_=>⟨t,h⟩
def fzO (t:List (Nat×SV))(h:List Ob)(i c:Nat):Ob->St
 | .cells l=>fzV t h i c l (nth l c)
 |_=>⟨t,h⟩
def fzS (i c:Nat)(st:St):St:=fzO st.t st.h i c (al st.h i)
section
variable {t:List (Nat×SV)}{h:List Ob}{i c j:Nat}{l:List SV}
@[go_sem] theorem Vn:fzS i c ⟨t,h⟩=fzO t h i c (al h i):=(rfl)
@[go_sem] theorem Mn:fzO t h i c (.cells l)=fzV t h i c l (nth l c):=(rfl)
@[go_sem] theorem Vo:fzV t h i c l (some (.os j))=bif Nat.beq i j then ⟨t,h⟩else fzR t h i c l j (al h j):=(rfl)
@[go_sem] theorem RU {k:Tag}{r:List k.T}:fzR t h i c l j (.row k r)=⟨t,aW (aW h i (.cells (l.set c (.rs k r)))) j .dead⟩:=(rfl)
end
section
variable {P:Program}{F:Nat->Prop}{w0:Bs}{N:Nat}
theorem Vp {own:Own}{st:St}{a:Act}{w:World}(hr:StRel F w0 N own st a w){i c j:Nat}{k:Tag}{r:List k.T}{l:List SV}(hij:i≠j)(hc:al st.h i=.cells l)(hl:l[c]? =some (.os j))(hj:al st.h j=.row k r):
  ∃ own',StRel F w0 N own' ⟨st.t,aW (aW st.h i (.cells (l.set c (.rs k r)))) j .dead⟩ a w:=by
 have hlt:∀ id,co (al st.h id)=false->id<st.h.length:=fun id hd=>by
  rcases Nat.lt_or_ge id st.h.length with h|h
  ·exact h
  ·rw[pe h]at hd;cases hd
 have hi':=hlt i (by rw[hc];rfl);have hj':=hlt j (by rw[hj];rfl);let own':Own:=fun id=>if id=j then(own j).map (fun hd=>{ hd with bs:=[]})else own id
 have sub:∀ id hd,own' id=some hd->∃ hd0,own id=some hd0/\hd0.like hd/\∀ b∈hd.bs,id≠j/\hd=hd0:=fun id hd e=>by
  by_cases hh:id=j
  ·subst hh;simp only[own',if_pos,Option.map_eq_some_iff]at e;obtain⟨hd0,e1,rfl⟩:=e;exact⟨hd0,e1,⟨rfl,rfl,rfl⟩,fun b hb=>by cases hb⟩
  ·simp only[own',if_neg hh]at e;exact⟨hd,e,.refl _,fun b _=>⟨hh,rfl⟩⟩
 have nown:∀ b,¬bM F own b->¬bM F own' b:=by
  rintro b hb (hf| ⟨id,hd,e,hm⟩)
  ·exact hb (.inl hf)
  ·obtain⟨hd0,e1,_,e3⟩:=sub id hd e;obtain⟨_,rfl⟩:=e3 b hm;exact hb (.inr ⟨id,hd,e1,hm⟩)
 have like:∀ id hd,own id=some hd->∃ hd',own' id=some hd'/\hd.like hd':=fun id hd e=>by
  by_cases hh:id=j
  ·subst hh;exact⟨{ hd with bs:=[]},by simp only[own',if_pos];rw[e];rfl,⟨rfl,rfl,rfl⟩⟩
  ·exact⟨hd,by simp only[own',if_neg hh];exact e,.refl _⟩
 have g:Goes F own w own' w:=⟨like,fun b _ hb=>⟨nown b hb,rfl⟩,Nat.le_refl _⟩;have hp:=hr.hp;have olen:(aW (aW st.h i (.cells (l.set c (.rs k r)))) j .dead).length=st.h.length:=by
  rw[bC,bC,if_pos hi',if_pos hj']
 refine⟨own',hr.size,hr.defers,hp.upd g (fun id=>id=i\/id=j) (Nat.le_of_eq olen.symm) (fun id hu=>⟨?_,?_,fun _ _ _ _=>rfl⟩) (fun id hd hu e=>⟨?_,fun b hb=>?_⟩) (fun id hu hd=>?_),⟨fun id hd e=>?_,fun id hd b e hb=>?_,hr.fr.os,hr.fr.tape,hr.fr.output,hr.fr.size,hr.fr.block⟩,fun u=>(hr.slots u).mono g⟩
 ·simp only[own',if_neg (fun e=>hu (.inr e))]
 ·show al (aW (aW st.h i _) j _) id=_;rw[b4,if_neg (fun e=>hu (.inr e.symm)),b4,if_neg (fun e=>hu (.inl e.symm))]
 ·show id< (aW (aW st.h i _) j _).length;rw[olen];rcases hu with rfl|rfl
  ·exact hi'
  ·exact hj'
 ·obtain⟨hd0,e1,_,e3⟩:=sub id hd e;obtain⟨_,rfl⟩:=e3 b hb;refine⟨hp.lt id hd b e1 hb,hp.apart id hd b e1 hb,fun j2 hj2 hne e4 hm=>?_⟩;obtain⟨hd2,f1,_,f3⟩:=sub j2 hj2 e4;obtain⟨_,rfl⟩:=f3 b hm;exact hne (hp.inj j2 id hj2 hd b f1 e1 hm hb)
 ·change co (al (aW (aW st.h i _) j _) id)=false at hd;show ∃ hd,own' id=some hd/\ObRel F own' w hd (al (aW (aW st.h i _) j _) id);rw[b4]at hd |-;rcases hu with rfl|rfl
  ·rw[if_neg (fun e=>hij e.symm),b4,if_pos rfl];obtain⟨hd0,q1,b,cs,ty,h1,h2,h3,h4,h5⟩:=hp.at hc rfl;refine⟨hd0,by simp only[own',if_neg hij];exact q1,b,cs,ty,h1,h2,h3,by rw[List.length_set];exact h4,fun m s hm=>?_⟩;rw[List.getElem?_set]at hm;split at hm
   ·rename_i hcm;subst hcm;split at hm
    ·cases hm;have hv:=h5 c (.os j) hl;obtain⟨hdj,e1,e2,_⟩:=iq hv;rw[e2];obtain⟨hd',e0,e⟩:=hp.at hj rfl;rw[e1]at e0;cases e0;have hnb:∀ b∈hdj.bs,¬bM F own' b:=by
      rintro b hb (hf| ⟨i2,hi2,f1,f2⟩)
      ·exact hp.apart j hdj b e1 hb hf
      ·obtain⟨hd2,g1,_,g3⟩:=sub i2 hi2 f1;obtain⟨g4,rfl⟩:=g3 b f2;exact g4 (hp.inj i2 j hi2 hdj b g1 e1 f2 hb)
     rcases e with⟨ad,e1,rfl,_⟩ | ⟨b,o,cap,cs,ty,e1,e2,h3,h4,h5,h6,h7⟩
     ·rw[e1];exact .rs0
     ·rw[e1];refine .rs (fun i j=>cs.getD (o+i*ae k+j) undef) h5 h6 (fun i x hi j s hj=>?_) (fun i x hi j s hj=>?_)
      ·obtain⟨u,k1,k2⟩:=h7 i x hi j s hj;refine⟨hnb b (by simp[e2]),?_⟩;rw[dq h3,k1];simp[Array.getD_eq_getD_getElem?,k1]
      ·obtain⟨u,k1,k2⟩:=h7 i x hi j s hj;have:cs.getD (o+i*ae k+j) undef=u:=by simp[Array.getD_eq_getD_getElem?,k1]
       rw[this];exact k2.mono g
    ·cases hm
   ·exact(h5 m s hm).mono g
  ·rw[if_pos rfl]at hd;cases hd
 ·obtain⟨hd1,e1,l1⟩:=hr.fr.ids id hd e;obtain⟨hd2,e2,l2⟩:=like id hd1 e1;exact⟨hd2,e2,l1.trans l2⟩
 ·obtain⟨hd0,e1,_,e3⟩:=sub id hd e;obtain⟨_,rfl⟩:=e3 b hb;exact hr.fr.base id hd b e1 hb
theorem RV (i c:Nat){own:Own}{st:St}{a:Act}{w:World}(hr:StRel F w0 N own st a w):∃ own',StRel F w0 N own' (fzS i c st) a w:=by
 obtain⟨t,h⟩:=st;rw[Vn];cases hc:al h i with
 |cells l=>
  rw[Mn];cases hl:nth l c with
  |none=>exact⟨own,hr⟩
  |some s=>
   cases s with
   |os j=>
    rw[Vo];cases hij:Nat.beq i j with
    |true=>exact⟨own,hr⟩
    |false=>
     simp only[cond_false];have hij:i≠j:=fun e=>by subst e;rw[Nat.beq_refl]at hij;cases hij
     cases hj:al h j with
     |row k r=>rw[RU];exact Vp hr hij hc (by rw[<-fU];exact hl) hj
     |_=>exact⟨own,hr⟩
   |_=>exact⟨own,hr⟩
 |_=>exact⟨own,hr⟩
end
def fzE (i c:Nat):Ex->St->St
 | .normal,st=>fzS i c st
 |_,st=>st
theorem RW {F:Nat->Prop}{w0:Bs}{N:Nat}{Q:Ex->St->Prop}(i c:Nat):∀ e a w,y5 F w0 N (fun e st=>Q e (fzE i c e st)) e a w->y5 F w0 N Q e a w:=by
 intro e a w hq;cases e with
 |normal=>
  obtain⟨F1,own,st,h0,h1,h2⟩:=hq;obtain⟨own',h3⟩:=RV i c h1;exact⟨F1,own',_,h0,h3,h2⟩
 |exit j=>exact hq
 |ret=>exact hq
 |panic ch=>exact hq
 |_=>exact hq.elim
section
variable {P:Program}{F:Nat->Prop}{own own2:Own}{w:World}{w0:Bs}{ro:Option Nat}{nd:Nat}{ts:Tis}{G:Cons}{L:tP}{N:Nat}
theorem Js (fi fc:Nat)(hm:P.follows .mixedOrders=true)(hts:ts.ok P)(hG:ConsOk P G){id:Nat}{c:Code}(hc:bQ N c=true){σ:Type}(D:σ->St)(I:σ->Prop)(m:σ->Nat)(n0:Nat)(hn:∀ id hd,w0.own id=some hd->id<n0)(Q:Ex->St->Prop)
  (hround:∀ x,I x->∃ L Qx,ak P ro N L c/\(∀ e st',Qx e st'->sR D I m n0 x id Q e (fzE fi fc e st'))/\exec ts G L c (D x) Qx):
  ∀ x,I x->∀ own a w,StRel F w0 N own (D x) a w->(Code.block id (.loop c)).wpIn (rd ro) nd P (y5 F w0 N Q) a w:=by
 intro x hx own a w hr;refine wpIn_block (wpIn_loop_ghost (fun n a w=>∃ x F1 own,I x/\m x=n/\(∀ b,F b->F1 b)/\StRel F1 w0 N own (D x) a w) (m x) ⟨x,F,own,hx,rfl,fun _ h=>h,hr⟩ ?_);rintro n a w ⟨x,F2,own,hx,rfl,hF2,hr⟩;obtain⟨L,Qx,hl,hQx,hex⟩:=hround x hx;refine wpIn_mono (wpIn_mono (wpIn_mono (ma hm hts hG c hc hl F2 (D x) _ hex own a w hr) (sK (fun e st' q=>hQx e st' q))) (RW fi fc)) ?_;intro e a' w' hq;cases e with
 |normal=>
  obtain⟨F1,own',st',h0,h1,y,js,h2,h3,h5,h4⟩:=hq;exact⟨m y,h3,y,F1,_,h2,rfl,fun b hb=>h0 b (hF2 b hb),h1.sub h4 hn h5⟩
 |exit j=>
  obtain⟨F1,own',st',h0,h1,h2⟩:=hq;have h2':(bif Nat.beq j id then Q .normal st' else Q (.exit j) st'):=h2;show if j=id then _ else _;by_cases hj:j=id
  ·subst hj;rw[if_pos rfl];simp only[Nat.beq_refl,cond_true]at h2';exact⟨F1,own',st',fun b hb=>h0 b (hF2 b hb),h1,h2'⟩
  ·rw[if_neg hj];have:Nat.beq j id=false:=by cases hb:Nat.beq j id with
    |false=>rfl
    |true=>exact absurd (Nat.eq_of_beq_eq_true hb) hj
   rw[this]at h2';exact⟨F1,own',st',fun b hb=>h0 b (hF2 b hb),h1,h2'⟩
 |ret=>
  obtain⟨F1,own',st',h0,h1,h2⟩:=hq;exact⟨F1,own',st',fun b hb=>h0 b (hF2 b hb),h1,h2⟩
 |panic ch=>
  obtain⟨x,F1,own',st',h0,h1,h2,h3⟩:=hq;exact⟨x,F1,own',st',fun b hb=>h0 b (hF2 b hb),h1,h2,h3⟩
 |_=>exact hq.elim
end
theorem Mo (fi fc:Nat){P:Program}{ts:Tis}{G:Cons}{ro:Option Nat}{N:Nat}(hm:P.follows .mixedOrders=true)(hts:ts.ok P)(hG:ConsOk P G){id:Nat}{c:Code}(hc:bQ N c=true){C:St->Option LCon}
  (h:∀ st lc,C st=some lc->lc.pre->∃ (σ:Type) (D:σ->St) (I:σ->Prop) (m:σ->Nat) (x0:σ) (stN:St) (js:List Nat),I x0/\NilS st stN/\st.h.length<=(D x0).h.length/\Sub js st.h.length stN (D x0)/\
   ∀ x,I x->∃ L Qx,ak P ro N L c/\(∀ e st',Qx e st'->sR D I m st.h.length x id (fun e st'=>∃ r js,lc.post r/\lc.ex r=e/\st.h.length<=(lc.out r).h.length/\Sub js st.h.length st' (lc.out r)) e (fzE fi fc e st'))/\exec ts G L c (D x) Qx):kc P ro N id (.loop c) C:=by
 intro nd F w0 st lc hC hpre own a w hr;obtain⟨σ,D,I,m,x0,stN,js,h1,hN,h2,h3,h4⟩:=h st lc hC hpre;obtain⟨ownN,hrN⟩:=hN.rel hr;refine wpIn_mono (Js fi fc hm hts hG hc D I m st.h.length hr.base_lt _ h4 x0 h1 _ a w (hrN.sub h3 hr.base_lt h2)) ?_;intro e a' w' hq;have key:∀ ex F1 own' st',StRel F1 w0 N own' st' a' w'->(∃ r js,lc.post r/\lc.ex r=ex/\st.h.length<=(lc.out r).h.length/\Sub js st.h.length st' (lc.out r))->∃ own2 st2,StRel F1 w0 N own2 st2 a' w'/\∃ r,lc.post r/\ex=lc.ex r/\st2=lc.out r:=by
  rintro ex F1 own' st' hst ⟨r,js,q1,q2,q3,q4⟩;exact⟨_,_,hst.sub q4 hr.base_lt q3,r,q1,q2.symm,rfl⟩
 cases e with
 |normal=>obtain⟨F1,own',st',h0,k1,k2⟩:=hq;obtain⟨own2,st2,q1,q2⟩:=key _ F1 own' st' k1 k2;exact⟨F1,own2,st2,h0,q1,q2⟩
 |exit j=>obtain⟨F1,own',st',h0,k1,k2⟩:=hq;obtain⟨own2,st2,q1,q2⟩:=key _ F1 own' st' k1 k2;exact⟨F1,own2,st2,h0,q1,q2⟩
 |ret=>obtain⟨F1,own',st',h0,k1,k2⟩:=hq;obtain⟨own2,st2,q1,q2⟩:=key _ F1 own' st' k1 k2;exact⟨F1,own2,st2,h0,q1,q2⟩
 |panic ch=>
  obtain⟨x,F1,own',st',h0,k1,k2,k3⟩:=hq;obtain⟨own2,st2,q1,q2⟩:=key _ F1 own' st' k1 k2;exact⟨x,F1,own2,st2,h0,q1,q2,k3⟩
 |_=>exact hq.elim
section
variable {ρ σ:Type}{step:Nat->σ->ρ⊕σ}{exE:ρ->Ex}{outE:ρ->St}{D:Nat->σ->St}{i c m id k j:Nat}{s:σ}{st:St}{x:Value}{e e':Ex}
def cF (i c:Nat)(step:Nat->σ->ρ⊕σ)(exE:ρ->Ex)(outE:ρ->St)(D:Nat->σ->St)(m id k:Nat)(s:σ)(e:Ex)(st:St):Prop:=cR step exE outE D m id k s e (fzE i c e st)
@[go_sem] theorem XA:cF i c step exE outE D m id k s .normal st=cR step exE outE D m id k s .normal (fzS i c st):=(rfl)
@[go_sem] theorem abH:cF i c step exE outE D m id k s (.exit j) st=cR step exE outE D m id k s (.exit j) st:=(rfl)
@[go_sem] theorem acG:cF i c step exE outE D m id k s .ret st=cR step exE outE D m id k s .ret st:=(rfl)
@[go_sem] theorem acH:cF i c step exE outE D m id k s (.pan x) st=cR step exE outE D m id k s (.pan x) st:=(rfl)
@[congr] theorem Z1 {st':St}(h:st=st')(he:e=e'):cF i c step exE outE D m id k s e st=cF i c step exE outE D m id k s e' st':=by rw[h,he]
end
section
variable {P:Program}{ρ σ τ:Type}{ts:Tis}{G:Cons}{ro:Option Nat}{N:Nat}{id:Nat}{c:Code}{C:St->Option LCon}{m:Nat}{ns:List NLoc}{js:List Nat}{step:Nat->σ->ρ⊕σ}{p:Nat->σ->Prop}{n:Nat}{s0:σ}{exE:ρ->Ex}{outE:ρ->St}{D:Nat->σ->St}
theorem C_ (fi fc:Nat){B:Prop}(hm:P.follows .mixedOrders=true)(hts:ts.ok P)(hG:ConsOk P G)(hc:bQ N c=true)(hC:∀ st,C st=some (LCR m ns js D step p n s0 B exE outE st))
  (h:B->∀ k s,k<n->p k s->∃ L Q,ak P ro N L c/\(∀ e st',Q e st'->cR step exE outE D m id k s e (fzE fi fc e st'))/\exec ts G L c (D k s) Q)
  (h2:B->∀ s,∃ Q,(∀ e st',Q e st'->cZ (D n s) m id e st')/\exec ts G L0 c (D n s) Q):kc P ro N id (.loop c) C:=by
 refine Mo fi fc hm hts hG hc fun st lc hC' hp=>?_;rw[hC st]at hC';cases hC';obtain⟨⟨hlen,hok,hle,hsub⟩,hB,h1⟩:=hp;refine⟨Nat×σ,fun x=>D x.1 x.2,fun x=>x.1<=n/\okI step p (n - x.1) x.1 x.2/\aq step (n - x.1) x.1 x.2=aq step n 0 s0,fun x=>n - x.1,(0,s0),mkN ns st,js,⟨Nat.zero_le _,by simpa using h1,by simp⟩,wK ns st st (.refl _) hok,by rw[hlen];exact hle,by rw[hlen];exact hsub,?_⟩;rintro⟨k,s⟩ ⟨hk,hJ,hrun⟩;simp only at hk hJ hrun;rcases Nat.lt_or_ge k n with hlt|hge
 ·rw[show n - k=(n - k - 1)+1 by omega]at hrun hJ;obtain⟨L,Q,hl,hQ,hex⟩:=h hB k s hlt hJ.1;have hI:∀ s',step k s=.inr s'->okI step p (n - (k+1)) (k+1) s'/\aq step (n - (k+1)) (k+1) s'=aq step n 0 s0:=fun s' hs=>by
   have:=hJ.2 s' hs;rw[show n - k - 1=n - (k+1) by omega]at this hrun;simp only[aq,hs]at hrun;exact⟨this,hrun⟩
  have hx:∀ x,step k s=.inl x->aq step n 0 s0=.inl x:=fun x hs=>by
   simp only[aq,hs]at hrun;exact hrun.symm
  exact⟨L,Q,hl,fun e st' q=>IY hlen hlt (fun s' hs=>⟨⟨hlt,hI s' hs⟩,by simp only;omega⟩) hx e _ (hQ e st' q),hex⟩
 ·have hkn:k=n:=by omega
  subst hkn;obtain⟨Q,hQ,hex⟩:=h2 hB s;refine⟨L0,Q,ag c,fun e st' q=>?_,hex⟩;have hq:=hQ e st' q;simp only[Nat.sub_self,aq]at hrun;cases e with
  |exit j=>
   change bif Nat.beq j id then jq (D k s) m st' else False at hq;show bif Nat.beq j id then _ else _;cases hb:Nat.beq j id with
   |true=>
    rw[hb]at hq;obtain⟨js,q3,q4⟩:=hq;exact⟨.inr s,js,hrun,rfl,by rw[hlen];exact q3,by rw[hlen];exact q4⟩
   |false=>rw[hb]at hq;exact hq.elim
  |_=>exact hq.elim
theorem Mq (fi fc:Nat)(E:Prop)(hm:P.follows .mixedOrders=true)(hts:ts.ok P)(hG:ConsOk P G)(hc:bQ N c=true)(hC:∀ st,C st=some (LCR m ns js D step p n s0 True exE outE st))(M:Int)(hn:n=M.toNat)(hE:E->M<9223372036854775808)
  (h:E->∀ k s,k<n->p k s->i64.wrap ((k:Int)+1)=((k+1:Nat):Int)->decide ((k:Int) <M)=true->∃ L,ak P ro N L c/\exec ts G L c (D k s) (cF fi fc step exE outE D m id k s))
  (h2:E->∀ s,decide ((n:Int) <M)=false->exec ts G L0 c (D n s) (cZ (D n s) m id)) (h3:¬E->∀ k s,exec ts G L0 c (D k s) fun _ _=>False):kc P ro N id (.loop c) C:=by
 by_cases hb:E
 ·refine C_ fi fc hm hts hG hc hC (fun b k s hlt hp=>?_) fun b s=>⟨_,fun _ _ q=>q,h2 hb s ?_⟩
  ·obtain⟨L,h1,h4⟩:=h hb k s hlt hp (J7 (hn▸hlt) (hE hb)) (decide_eq_true (by omega));exact⟨L,_,h1,fun _ _ q=>q,h4⟩
  ·rw[decide_eq_false_iff_not];omega
 ·exact C_ fi fc hm hts hG hc hC (fun _ k s _ _=>⟨L0,_,ag c,fun _ _ q=>q.elim,h3 hb k s⟩) fun _ s=>⟨_,fun _ _ q=>q.elim,h3 hb n s⟩
end
end Go.Sx
end
section
namespace Go.Sx
open Go.Proofs
@[go_sem] def gS (sides:List Int)(l_:List Suit)(k_0:Nat)(s_0:List Case):Int⊕(List Case):=letI q0:=gk ({ sides:=sides,cases:=s_0}:Cases) (l_.getD k_0 default);letI q1:=(([])++s_0)++([(q0.1)]);(bif(q0.2 !=0)then .inl (q0.2)else(bif(decide ((q1.length:Int) > 64))then .inl 2 else .inr q1))
def nt (sides:List Int)(l_:List Suit)(k_0:Nat)(s_0:List Case):Prop:=letI q0:=({ sides:=sides,cases:=s_0}:Cases);letI q1:=l_.getD k_0 default;letI q2:=([])++s_0;letI q3:=gk q0 q1;(l_.length<=aA->((nr q0 q1)/\((q3.2 !=0)=false->((q2.length*72<=ez)/\(q2.length<=aA->((q2++([(q3.1)])).length*72<=ez))))))
def o_ (a0:Cases)(l_:List Suit):Cases×Int:=(bif((dP a0) !=0)then(({ sides:=[],cases:=[]}:Cases),(dP a0))else(match aq (gS a0.sides l_) l_.length 0 a0.cases with| .inl x_0_0=>(({ sides:=[],cases:=[]}:Cases),x_0_0) | .inr s_0=>(({ sides:=a0.sides,cases:=s_0}:Cases),0)))
def uh (a0:Cases)(l_:List Suit):Prop:=((lO a0)/\(((dP a0) !=0)=false->okI (gS a0.sides l_) (nt a0.sides l_) l_.length 0 a0.cases))
@[go_sem] def xq:List SV->Option Con:=(pD .cases fun a0=>(pR .suit fun l_=>(pE (.det (uh a0 l_) (.tup [.agg (cellsOf .cases ((o_ a0 l_).1)),.v (.int .i64 ((o_ a0 l_).2))])))))
theorem Z2 {l0:List Nat}(a0:JL l0){p:Prop}(h:JL l0->p:=by intro ja;simp only[go_sem,Nat.reduceBEq,Nat.reduceLeDiff,Nat.reduceLT,decide_true,Nat.reduceAdd,Nat.reduceSub,Nat.reduceMul,Int.reduceLE,Int.reduceLT,Int.reduceToNat,Int.reduceNeg,reduceCtorEq,hc,hw,hb0];all_goals exact jr ja):p:=h a0
theorem Z3 {l0:List Nat}(a0:JL l0){p:Prop}(h:JL l0->p:=by intro ja;simp only[go_sem,Nat.reduceBEq,Nat.reduceLeDiff,Nat.reduceLT,decide_true,Nat.reduceAdd,Nat.reduceSub,Nat.reduceMul,Int.reduceLE,Int.reduceLT,Int.reduceToNat,Int.reduceNeg,reduceCtorEq,hc,hb0];all_goals exact jr ja):p:=h a0
theorem FQ:FnOk Tryz.prog 22 xq:=by
 have hG:ConsOk Tryz.prog (mkG [(25,fun l=>tC (aP [.st .cases,.st .suit] l)),(66,fun l=>qV (aP [.st .cases] l))] []):=am (cgc (v_.norm [.st .cases,.st .suit]) (cgc (tv.norm [.st .cases]) cg0)) cg0;refine av [.st .cases,.o] mixed ai hG (fn:=Tryz.f22) (c:=aa Tryz.f22) kr kr kr kr (aF fun a0=>(a_ fun l_=>(ah (fun hp=>?_))));dsimp only[an]at hp;unfold uh at hp;refine⟨nbl rfl,(fun id st=>bif Nat.beq id 0 then some (LCR (ρ:=Int) (σ:=(List Case)) 2 [] [0,1] (fun k_0 s_0=>⟨[(1,.rs .suit l_),(2,.ptr 0 0),(4,.ptr 1 0),(7,.v (.int .i64 (k_0:Int)))],[.cells [.rs .int a0.sides,.rs .case s_0],.cells [.v (.slice none 0 0),.v (.slice none 0 0)]]⟩) (gS a0.sides l_) (nt a0.sides l_) l_.length a0.cases (True) (fun _=>.ret) (fun x_0_0=>⟨[(4,.ptr 1 0),(5,.v (.int .i64 x_0_0))],[.dead,.cells [.v (.slice none 0 0),.v (.slice none 0 0)]]⟩) st)else none),?_,?_⟩
 ·unfold aa Tryz.f22;simp only[ak,true_and,and_true]
  ·refine Mq 0 1 (l_.length<=aA) mixed ai hG kr (fun _=>rfl) (l_.length:Int) rfl dV (fun hb0 k_0 s_0 hlt0 hq0 hw hc=>⟨L0,ag _,?_⟩) (fun hb0 s_0 hc=>?_) fun hb0 k_0 s_0=>?_
   ·unfold nt at hq0;try simp only[hw,Int.toNat_natCast]at hq0
    exact Z2 (jl [0,1])
   ·exact Z3 (jl [0,1])
   ·exact zq7
 ·unfold aa Tryz.f22;try unfold o_
  exact zq1
def eM (a0:Cases)(a1:List Suit):Bool:=letI q0:=a1.getD 0 default;letI q1:=aV a0 q0;letI q2:=d7 a0 a1;letI q3:=gk a0 q0;(bif(!qI)then false else(bif(!(iZ a0 a1))then true else(bif((!(jm (q2.1) ((o_ a0 a1).1))) ||((q2.2) !=((o_ a0 a1).2)))then false else(bif((a1.length:Int) ==0)then true else((kH (q1.1) (q3.1))&&(q1.2==q3.2))))))
def fm (a0:Cases)(a1:List Suit):Prop:=letI q0:=a1.getD 0 default;letI q1:=d7 a0 a1;letI q2:=o_ a0 a1;letI q3:=(a1.length:Int);((p5)/\((!qI)=false->((!(iZ a0 a1))=false->((gz a0 a1)/\((uh a0 a1)/\((mu (q1.1) (q2.1))/\(((!(jm (q1.1) (q2.1))) ||((q1.2) !=(q2.2)))=false->(a1.length<=aA->((q3==0)=false->((0<=0/\0<q3)/\((gL a0 q0)/\((0<=0/\0<q3)/\((nr a0 q0)/\(kI ((aV a0 q0).1) ((gk a0 q0).1)))))))))))))))
@[go_sem] def jU:List SV->Option Con:=(pD .cases fun a0=>(pR .suit fun a1=>(pE (.det (fm a0 a1) (.v (.bool (eM a0 a1)))))))
theorem Z4 {p:Prop}(h:p:=by simp only[go_sem,Nat.reduceBEq,Nat.reduceLeDiff,Nat.reduceLT,decide_true,Nat.reduceAdd,Nat.reduceSub,Nat.reduceMul,Int.reduceLE,Int.reduceLT,Int.reduceToNat,Int.reduceNeg,reduceCtorEq,oz,xq];all_goals exact cl):p:=h
theorem tJ:FnOk Tryz.prog 4 jU:=by
 have hG:ConsOk Tryz.prog (mkG [(10,zo),(20,fun l=>u5 (aP [.st .cases,.sl .suit] l)),(21,fun l=>oz (aP [.st .cases,.sl .suit] l)),(22,fun l=>xq (aP [.st .cases,.sl .suit] l)),(23,fun l=>ug (aP [.st .cases,.st .cases] l)),(24,fun l=>oQ (aP [.st .cases,.st .suit] l)),(25,fun l=>tC (aP [.st .cases,.st .suit] l)),(26,fun l=>qM (aP [.st .case,.st .case] l))] []):=am (cgc Dy (cgc (zz.norm [.st .cases,.sl .suit]) (cgc (u0.norm [.st .cases,.sl .suit]) (cgc (FQ.norm [.st .cases,.sl .suit]) (cgc (yC.norm [.st .cases,.st .cases]) (cgc (sr.norm [.st .cases,.st .suit]) (cgc (v_.norm [.st .cases,.st .suit]) (cgc (uf.norm [.st .case,.st .case]) cg0)))))))) cg0;refine av [.o] mixed ai hG (fn:=Tryz.f4) (c:=aa Tryz.f4) kr kr kr kr (aF fun a0=>(a_ fun a1=>(ah (fun hp=>?_))));dsimp only[an]at hp;unfold fm at hp;refine⟨nbl rfl,L0,ag _,?_⟩
 ·unfold aa Tryz.f4;try unfold eM
  exact Z4
end Go.Sx
end
