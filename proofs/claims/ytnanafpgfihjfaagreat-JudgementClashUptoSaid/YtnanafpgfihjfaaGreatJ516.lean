/- Part of the proof that the law JudgementClash returns true and leaves its arguments as they were, for all arguments of bulk at most 1048576 (the Upto form). -/
import Derived.Test.YtnanafpgfihjfaaGreatJ509
import Derived.Test.YtnanafpgfihjfaaGreatJ508
import Derived.Test.YtnanafpgfihjfaaGreatJ513
import Derived.Test.YtnanafpgfihjfaaGreatJ511
import Derived.Test.YtnanafpgfihjfaaGreatJ515
import Derived.Test.YtnanafpgfihjfaaGreatJ507
import Derived.Deep.Slices
import Derived.OpenShut
import Derived.ChangeSame
import Derived.WideKeyArgs
import Derived.Below
import Derived.Test.YtnanafpgfihjfaaGreatRows
set_option linter.all false
set_option maxHeartbeats 4000000
set_option maxRecDepth 100000
section
namespace Go.Sx
open Go.Proofs
open IntKind (i64)
def D6 (q:Int):Bool:=(((decide (q>=(-32)))&&(decide (q<=32)))&&(q !=0))
@[go_sem] def Bz (l_:List Int)(k_0:Nat)(s_0:Unit):Unit⊕Unit:=(bif((!(D6 (l_.getD k_0 0))) ||((decide ((k_0:Int) > 0))&&(decide ((l_.getD k_0 0)<=(l_.getD (Int.toNat (i64.wrap ((k_0:Int) - 1))) 0)))))then .inl ()else .inr ())
def Sm (l_:List Int):Bool:=(match an (Bz l_) l_.length 0 ()with| .inl x_0_0=>false| .inr s_0=>true)
@[go_sem] def zW (l_:List Int)(n:Int)(k_0:Nat)(s_0:Unit):Unit⊕Unit:=(bif((l_.getD k_0 0) ==n)then .inl ()else .inr ())
def vh (l_:List Int)(n:Int):Bool:=(match an (zW l_ n) l_.length 0 ()with| .inl x_0_0=>true| .inr s_0=>false)
@[go_sem] def xo:List SV->Option Con:=(pR .int fun l_=>(pI fun n=>(pE (.det True (.v (.bool (vh l_ n)))))))
theorem zX:FnOk Tryz.prog 123 xo:=by
 have hG:ConsOk Tryz.prog (mkG [] []):=ar cg0 cg0;refine ay [.o] mixed ak hG (fn:=Tryz.f123) (c:=ae Tryz.f123) kr kr kr kr (bC fun l_=>(cI fun n=>(ai (fun hp=>?_))));dsimp only[ax]at hp;refine⟨nbl rfl,(fun id st=>bif Nat.beq id 0 then some (LCR (ρ:=Unit) (σ:=Unit) 0 [] [] (fun k_0 s_0=>⟨[(0,.rs .int l_),(1,.v (.int .i64 n)),(5,.v (.int .i64 (k_0:Int)))],[]⟩) (zW l_ n) pT l_.length () (True) (fun _=>.ret) (fun x_0_0=>⟨[(4,.v (.bool true))],[]⟩) st)else none),?_,?_⟩
 ·unfold ae Tryz.f123;simp only[am,true_and,and_true]
  ·refine kw (l_.length<=aD) mixed ak hG kr (fun _=>rfl) (l_.length:Int) rfl gA (fun hb0 k_0 s_0 hlt0 _ hw hc=>⟨L0,ag _,?_⟩) (fun hb0 s_0 hc=>?_) fun hb0 k_0 s_0=>?_
   ·exact bi (jl [])
   ·exact ba (jl [])
   ·exact zq7
 ·unfold ae Tryz.f123;try unfold vh
  exact zq1
@[go_sem] def zY (l_:List Int)(of_:List Int)(k_0:Nat)(s_0:Unit):Unit⊕Unit:=(bif(!(vh l_ (of_.getD k_0 0)))then .inl ()else .inr ())
def xJ (l_:List Int)(of_:List Int):Bool:=(match an (zY l_ of_) of_.length 0 ()with| .inl x_0_0=>false| .inr s_0=>true)
@[go_sem] def Bc:List SV->Option Con:=(pR .int fun l_=>(pR .int fun of_=>(pE (.det True (.v (.bool (xJ l_ of_)))))))
theorem Gv:FnOk Tryz.prog 160 Bc:=by
 have hG:ConsOk Tryz.prog (mkG [(123,fun l=>xo (bp [.sl .int,.o] l))] []):=ar (cgc (zX.norm [.sl .int,.o]) cg0) cg0;refine ay [.o] mixed ak hG (fn:=Tryz.f160) (c:=ae Tryz.f160) kr kr kr kr (bC fun l_=>(bC fun of_=>(ai (fun hp=>?_))));dsimp only[ax]at hp;refine⟨nbl rfl,(fun id st=>bif Nat.beq id 0 then some (LCR (ρ:=Unit) (σ:=Unit) 0 [] [] (fun k_0 s_0=>⟨[(0,.rs .int l_),(1,.rs .int of_),(5,.v (.int .i64 (k_0:Int)))],[]⟩) (zY l_ of_) pT of_.length () (True) (fun _=>.ret) (fun x_0_0=>⟨[(4,.v (.bool false))],[]⟩) st)else none),?_,?_⟩
 ·unfold ae Tryz.f160;simp only[am,true_and,and_true]
  ·refine kw (of_.length<=aD) mixed ak hG kr (fun _=>rfl) (of_.length:Int) rfl gA (fun hb0 k_0 s_0 hlt0 _ hw hc=>⟨L0,ag _,?_⟩) (fun hb0 s_0 hc=>?_) fun hb0 k_0 s_0=>?_
   ·exact bi (jl [])
   ·exact ba (jl [])
   ·exact zq7
 ·unfold ae Tryz.f160;try unfold xJ
  exact zq1
@[go_sem] def rZ (p:Plea)(k_1:Nat)(s_1:List Int×Bool):Empty⊕(List Int×Bool):=letI q0:=p.clauses.getD k_1 default;(bif((q0.strict&&(!(vh s_1.1 (q0.then_))))&&(xJ s_1.1 (q0.if_)))then .inr ((s_1.1++([q0.then_])),true)else .inr (s_1.1,s_1.2))
def qa (p:Plea)(k_1:Nat)(s_1:List Int×Bool):Prop:=letI q0:=p.clauses.getD k_1 default;(p.clauses.length<=aD->(((q0.strict&&(!(vh s_1.1 (q0.then_))))&&(xJ s_1.1 (q0.if_)))=true->((s_1.1++([q0.then_])).length*8<=c6)))
@[go_sem] def r4 (p:Plea)(k_0:Nat)(s_0:List Int×Bool):(List Int)⊕(List Int×Bool):=(bif s_0.2 then(match an (rZ p) p.clauses.length 0 (s_0.1,false)with| .inl x=>x.elim| .inr s_1=>.inr (s_1.1,s_1.2))else .inl s_0.1)
def qb (p:Plea)(k_0:Nat)(s_0:List Int×Bool):Prop:=(s_0.2=true->okI (rZ p) (qa p) p.clauses.length 0 (s_0.1,false))
def zZ (p:Plea):List Int:=(match an (r4 p) (p.clauses.length+2) 0 ((([])++p.facts),true)with| .inl x_0_0=>x_0_0| .inr s_0=>default)
def xp (p:Plea):Prop:=letI q0:=([])++p.facts;letI q1:=p.clauses.length+2;letI q2:=r4 p;((q0.length*8<=c6)/\(q0.length<=aD->(okI q2 (qb p) q1 0 (q0,true)/\(∀ z_,an q2 q1 0 (q0,true)≠ .inr z_))))
@[go_sem] def DE:List SV->Option Con:=(pD .plea fun p=>(pE (.det (xp p) (.nw .int (zZ p)))))
theorem MY:FnOk Tryz.prog 122 DE:=by
 have hG:ConsOk Tryz.prog (mkG [(123,fun l=>xo (bp [.sl .int,.o] l)),(160,fun l=>Bc (bp [.sl .int,.sl .int] l))] []):=ar (cgc (zX.norm [.sl .int,.o]) (cgc (Gv.norm [.sl .int,.sl .int]) cg0)) cg0;refine FT true mixed ak hG (fn:=Tryz.f122) (c:=ae Tryz.f122) kr kr kr kr (bk fun p=>(ai (fun hp=>?_)));dsimp only[ax]at hp;unfold xp at hp;refine⟨nbl rfl,(fun id st=>bif Nat.beq id 0 then some (LCV (ρ:=(List Int)) (σ:=(List Int×Bool)) 2 [] [0,1,1] (fun k_0 s_0=>⟨[(1,.ptr 0 0),(3,.os 2),(4,.v (.bool s_0.2))],[.cells (cellsOf .plea p),.dead,.row .int s_0.1]⟩) (r4 p) (qb p) (p.clauses.length+2) ((([])++p.facts),true) (fun _=>.normal) (fun x_0_0=>⟨[(3,.os 2)],[.dead,.dead,.row .int x_0_0]⟩) st)else none),?_,?_⟩
 ·unfold ae Tryz.f122;simp only[am,true_and,and_true]
  ·refine rq mixed ak hG kr (fun _=>rfl) fun k_0 s_0 hq0=>⟨(fun id st=>bif Nat.beq id 2 then some (LCR (ρ:=Empty) (σ:=(List Int×Bool)) 3 [] [0,1,2,2] (fun k_1 s_1=>⟨[(1,.ptr 0 0),(3,.os 3),(4,.v (.bool s_1.2)),(5,.v (.int .i64 (k_1:Int)))],[.cells (cellsOf .plea p),.dead,.dead,.row .int s_1.1]⟩) (rZ p) (qa p) p.clauses.length (s_0.1,false) (True) ((·.elim)) ((·.elim)) st)else none),?_,?_⟩
   ·simp only[am,true_and,and_true]
    ·refine kw (p.clauses.length<=aD) mixed ak hG kr (fun _=>rfl) (p.clauses.length:Int) rfl gA (fun hb1 k_1 s_1 hlt1 hq1 hw hc=>⟨L0,ag _,?_⟩) (fun hb1 s_1 hc=>?_) fun hb1 k_1 s_1=>?_
     ·unfold qa at hq1;try simp only[hw,Int.toNat_natCast]at hq1
      exact ov (jl [0,1,2,6]) (jl [0,1,2,3])
     ·exact mP (jl [0,1,2,6]) (jl [0,1,2,3])
     ·exact To
   ·unfold qb at hq0;exact Dn (jl [0,1,3]) (jl [0,1,2])
 ·unfold ae Tryz.f122;try unfold zZ
  exact zq1
@[go_sem] def z6 (p:Plea)(k_0:Nat)(s_0:Unit):Unit⊕Unit:=(bif(((decide ((((p.clauses.getD k_0 default).if_).length:Int) > 4))&&(decide ((((p.clauses.getD k_0 default).if_).length:Int)<=8))) ||(decide ((((p.clauses.getD k_0 default).if_).length:Int) > 100)))then .inl ()else .inr ())
def AO (p:Plea):Bool:=letI q0:=(p.clauses.length:Int);letI q1:=(p.facts.length:Int);(bif(((((decide (q1 > 20))&&(decide (q1<=64))) ||(decide (q1 > 100))) ||((decide (q0 > 12))&&(decide (q0<=64)))) ||(decide (q0 > 100)))then false else(match an (z6 p) p.clauses.length 0 ()with| .inl x_0_0=>false| .inr s_0=>true))
@[go_sem] def Bd:List SV->Option Con:=(pD .plea fun p=>(pE (.det True (.v (.bool (AO p))))))
theorem Gw:FnOk Tryz.prog 63 Bd:=by
 have hG:ConsOk Tryz.prog (mkG [] []):=ar cg0 cg0;refine ay [.o] mixed ak hG (fn:=Tryz.f63) (c:=ae Tryz.f63) kr kr kr kr (bk fun p=>(ai (fun hp=>?_)));dsimp only[ax]at hp;refine⟨nbl rfl,(fun id st=>bif Nat.beq id 0 then some (LCR (ρ:=Unit) (σ:=Unit) 1 [] [0] (fun k_0 s_0=>⟨[(1,.ptr 0 0),(3,.v (.int .i64 (k_0:Int)))],[.cells (cellsOf .plea p)]⟩) (z6 p) pT p.clauses.length () (True) (fun _=>.ret) (fun x_0_0=>⟨[(2,.v (.bool false))],[.dead]⟩) st)else none),?_,?_⟩
 ·unfold ae Tryz.f63;simp only[am,true_and,and_true]
  ·refine kw (p.clauses.length<=aD) mixed ak hG kr (fun _=>rfl) (p.clauses.length:Int) rfl gA (fun hb0 k_0 s_0 hlt0 _ hw hc=>⟨L0,ag _,?_⟩) (fun hb0 s_0 hc=>?_) fun hb0 k_0 s_0=>?_
   ·exact bi (jl [0])
   ·exact ba (jl [0])
   ·exact zq7
 ·unfold ae Tryz.f63;try unfold AO
  exact zq1
def DF (a:Case)(b:Case):Bool:=(((((a.no==b.no)&&(a.hour==b.hour))&&(a.winner==b.winner))&&(yH a.facts b.facts))&&(yH a.reason b.reason))
@[go_sem] def yR (a:Cases)(b:Cases)(k_0:Nat)(s_0:Unit):Unit⊕Unit:=(bif(!(DF (a.cases.getD k_0 default) (b.cases.getD k_0 default)))then .inl ()else .inr ())
def MZ (a:Cases)(b:Cases):Bool:=(bif(((a.cases.length:Int) !=(b.cases.length:Int)) ||(!(yH a.sides b.sides)))then false else(match an (yR a b) a.cases.length 0 ()with| .inl x_0_0=>false| .inr s_0=>true))
@[go_sem] def ud (l_:List Suit)(k_0:Nat)(s_0:Unit):Unit⊕Unit:=(bif((!(AO ((l_.getD k_0 default).plea))) ||(decide ((((l_.getD k_0 default).facts).length:Int) > 100)))then .inl ()else .inr ())
def kQ (b:Cases)(l_:List Suit):Bool:=(bif((!(xH b)) ||(decide ((l_.length:Int) > 6)))then false else(match an (ud l_) l_.length 0 ()with| .inl x_0_0=>false| .inr s_0=>true))
@[go_sem] def vj:List SV->Option Con:=(pD .cases fun b=>(pR .suit fun l_=>(pE (.det True (.v (.bool (kQ b l_)))))))
theorem z7:FnOk Tryz.prog 20 vj:=by
 have hG:ConsOk Tryz.prog (mkG [(62,fun l=>A9 (bp [.st .cases] l)),(63,fun l=>Bd (bp [.st .plea] l))] []):=ar (cgc (Gl.norm [.st .cases]) (cgc (Gw.norm [.st .plea]) cg0)) cg0;refine ay [.o] mixed ak hG (fn:=Tryz.f20) (c:=ae Tryz.f20) kr kr kr kr (bk fun b=>(bC fun l_=>(ai (fun hp=>?_))));dsimp only[ax]at hp;refine⟨nbl rfl,(fun id st=>bif Nat.beq id 0 then some (LCR (ρ:=Unit) (σ:=Unit) 1 [] [0] (fun k_0 s_0=>⟨[(1,.rs .suit l_),(5,.v (.int .i64 (k_0:Int)))],[.dead]⟩) (ud l_) pT l_.length () (True) (fun _=>.ret) (fun x_0_0=>⟨[(4,.v (.bool false))],[.dead]⟩) st)else none),?_,?_⟩
 ·unfold ae Tryz.f20;simp only[am,true_and,and_true]
  ·refine kw (l_.length<=aD) mixed ak hG kr (fun _=>rfl) (l_.length:Int) rfl gA (fun hb0 k_0 s_0 hlt0 _ hw hc=>⟨L0,ag _,?_⟩) (fun hb0 s_0 hc=>?_) fun hb0 k_0 s_0=>?_
   ·exact bi (jl [0])
   ·exact ba (jl [0])
   ·exact zq7
 ·unfold ae Tryz.f20;try unfold kQ
  exact zq1
@[go_sem] def fe (a0:Cases)(a1:List Suit)(k_0:Nat)(s_0:Unit):Unit⊕Unit:=letI q2:=a1.getD k_0 default;letI q5:=Int.toNat (i64.wrap ((a0.cases.length:Int)+(k_0:Int)));letI q6:=(dF a0 a1).1;letI q0:=({ sides:=q6.sides,cases:=(((q6.cases).take q5).drop 0)}:Cases);letI q1:=(q6.cases).getD q5 default;letI q3:=aj q0 (q2.facts) 0;letI q4:=aj q0 (q2.facts) 1;letI q7:=bM (q2.plea) (q2.question);(bif((((q3.2.2 !=0) ||(q4.2.2 !=0)) ||(q7.2 !=0)) ||(q3.2.1&&q4.2.1))then .inl ()else(bif(((q3.2.1&&(q1.winner !=0)) ||(q4.2.1&&(q1.winner !=1))) ||(((!q3.2.1)&&(!q4.2.1))&&((q1.winner==0) !=(q7.1==1))))then .inl ()else .inr ()))
def fC (a0:Cases)(a1:List Suit)(k_0:Nat)(s_0:Unit):Prop:=letI q1:=i64.wrap ((a0.cases.length:Int)+(k_0:Int));letI q2:=a1.getD k_0 default;letI q3:=(dF a0 a1).1;letI q0:=({ sides:=q3.sides,cases:=(((q3.cases).take (Int.toNat q1)).drop 0)}:Cases);letI q4:=q2.facts;letI q5:=aj q0 q4 0;letI q6:=aj q0 q4 1;letI q7:=((q3.cases).length:Int);((0<=0/\0<=q1/\q1<=q7)/\((cT q0 q4 0)/\((cT q0 q4 1)/\((iz (q2.plea) (q2.question))/\(((((q5.2.2 !=0) ||(q6.2.2 !=0)) ||((bM (q2.plea) (q2.question)).2 !=0)) ||(q5.2.1&&q6.2.1))=false->(0<=q1/\q1<q7))))))
def gq (a0:Cases)(a1:List Suit):Bool:=letI q0:=dF a0 a1;letI q1:=(((q0.1).cases).length:Int);letI q2:=bo (q0.1);letI q3:=bo a0;(bif(!qI)then false else(bif(!(kQ a0 a1))then true else(bif(((q3.2.2.2 !=0) ||((q0.2) !=0)) ||q3.2.2.1)then(((q0.2) ==0) ||(q1==0))else(bif(((q2.2.2.2 !=0) ||q2.2.2.1) ||(q1 !=(i64.wrap ((a0.cases.length:Int)+(a1.length:Int)))))then false else(match an (fe a0 a1) a1.length 0 ()with| .inl x_0_0=>false| .inr s_0=>true)))))
def fw (a0:Cases)(a1:List Suit):Prop:=letI q0:=dF a0 a1;letI q1:=bo (q0.1);letI q2:=bo a0;((p9)/\((!qI)=false->((!(kQ a0 a1))=false->((jh a0)/\((g8 a0 a1)/\((((q2.2.2.2 !=0) ||((q0.2) !=0)) ||q2.2.2.1)=false->((jh (q0.1))/\(a0.cases.length<=aD->((((q1.2.2.2 !=0) ||q1.2.2.1) ||((((q0.1).cases).length:Int) !=(i64.wrap ((a0.cases.length:Int)+(a1.length:Int)))))=false->(a1.length<=aD->okI (fe a0 a1) (fC a0 a1) a1.length 0 ()))))))))))
@[go_sem] def lE:List SV->Option Con:=(pD .cases fun a0=>(pR .suit fun a1=>(pE (.det (fw a0 a1) (.v (.bool (gq a0 a1)))))))
theorem Z7 {p:Prop}(h:p:=by simp only[go_sem,Nat.reduceBEq,Nat.reduceLeDiff,Nat.reduceLT,decide_true,Nat.reduceAdd,Nat.reduceSub,Nat.reduceMul,Int.reduceLE,Int.reduceLT,Int.reduceToNat,Int.reduceNeg,reduceCtorEq,oL];all_goals exact cl):p:=h
theorem vn:FnOk Tryz.prog 8 lE:=by
 have hG:ConsOk Tryz.prog (mkG [(10,zL),(20,fun l=>vj (bp [.st .cases,.sl .suit] l)),(21,fun l=>oL (bp [.st .cases,.sl .suit] l)),(33,fun l=>s4 (bp [.st .cases] l)),(34,fun l=>lj (bp [.st .cases,.sl .int,.o] l)),(35,fun l=>p6 (bp [.st .plea,.o] l))] []):=ar (cgc D4 (cgc (z7.norm [.st .cases,.sl .suit]) (cgc (ve.norm [.st .cases,.sl .suit]) (cgc (xO.norm [.st .cases]) (cgc (oh.norm [.st .cases,.sl .int,.o]) (cgc (rX.norm [.st .plea,.o]) cg0)))))) cg0;refine ay [.o] mixed ak hG (fn:=Tryz.f8) (c:=ae Tryz.f8) kr kr kr kr (bk fun a0=>(bC fun a1=>(ai (fun hp=>?_))));dsimp only[ax]at hp;unfold fw at hp;refine⟨nbl rfl,(fun id st=>bif Nat.beq id 0 then some (LCR (ρ:=Unit) (σ:=Unit) 2 [] [0,1] (fun k_0 s_0=>⟨[(9,.ptr 1 0),(15,.v (.int .i64 (a0.cases.length:Int))),(89,.rs .suit a1),(90,.v (.int .i64 (a1.length:Int))),(91,.v (.int .i64 (k_0:Int)))],[.dead,.cells (cellsOf .cases ((dF a0 a1).1))]⟩) (fe a0 a1) (fC a0 a1) a1.length () (a1.length<=aD) (fun _=>.ret) (fun x_0_0=>⟨[(4,.v (.bool false))],[.dead,.dead]⟩) st)else none),?_,?_⟩
 ·unfold ae Tryz.f8;simp only[am,true_and,and_true]
  ·refine a_ mixed ak hG kr (fun _=>rfl) (a1.length:Int) rfl gA (fun hb0 k_0 s_0 hlt0 hq0 hw hc=>⟨L0,ag _,?_⟩) (fun hb0 s_0 hc=>?_)
   ·unfold fC at hq0;try simp only[hw,Int.toNat_natCast]at hq0
    exact bi (jl [0,1])
   ·exact ba (jl [0,1])
 ·unfold ae Tryz.f8;try unfold gq
  exact Z7
theorem Be (b:Cases)(l:List Suit):fw b l/\gq b l=true:=by
 unfold fw gq;rw[Vw];cases hf:kQ b l with
 |false=>exact⟨⟨zV,fun _ h=>by cases h⟩,rfl⟩
 |true=>
  obtain⟨c1,c2,c3⟩:=If b;obtain⟨s1,s2⟩:=Vt b l;have hl:l.length<=6:=by
   unfold kQ at hf;cases h:(!(xH b)) ||(decide ((l.length:Int) > 6))with
   |true=>rw[h]at hf;cases hf
   |false=>
    rw[Bool.or_eq_false_iff,decide_eq_false_iff_not]at h;omega
  rcases s2 with⟨n1,n2⟩ | ⟨cs,e,I⟩
  ·have hne:((dF b l).2 !=0)=true:=by simpa using n1
   refine⟨⟨zV,fun _ _=>⟨c1,s1,fun h=>?_⟩⟩,?_⟩
   ·rw[hne]at h;simp at h
   ·rw[hne,n2];simp
  ·rw[e];simp only[bne_self_eq_false,Bool.or_false];cases hb:((bo b).2.2.2 !=0) ||(bo b).2.2.1 with
   |true=>
    refine⟨⟨zV,fun _ _=>⟨c1,s1,fun h=>by cases h⟩⟩,?_⟩;simp
   |false=>
    rw[Bool.or_eq_false_iff]at hb;have hR:Rd b:=c2.1 (by simpa using hb.1);have hN:ub b.cases:=(c3 hR).1 hb.2;obtain⟨k1,k2,k3⟩:=If { sides:=b.sides,cases:=cs};have hNc:=I.nc hN;have hc64:cs.length<=64:=I.rd.c;have hlen:=I.len;have hw:i64.wrap ((b.cases.length:Int)+(l.length:Int))=(cs.length:Int):=by rw[fE (by omega) (by omega)];omega
    have hcond:((((bo { sides:=b.sides,cases:=cs}).2.2.2 !=0) ||(bo { sides:=b.sides,cases:=cs}).2.2.1) ||((cs.length:Int) !=(i64.wrap ((b.cases.length:Int)+(l.length:Int)))))=false:=by
     rw[k2.2 I.rd,(k3 I.rd).2 hNc,hw];simp
    have hwk:∀ k,k<l.length->i64.wrap ((b.cases.length:Int)+(k:Int))=((b.cases.length+k:Nat):Int):=fun k hk=>by rw[fE (by omega) (by omega)];omega
    have step:∀ k,k<l.length->fC b l k ()/\fe b l k ()=.inr ():=fun k hk=>by
     obtain⟨D,w⟩:=I.dec k hk;have g:l.getD k default=l[k]:=by rw[List.getD_eq_getElem?_getD,List.getElem?_eq_getElem hk];rfl
     have B0:=u6 { sides:=b.sides,cases:=cs.take (b.cases.length+k)} l[k].facts (side:=0) (.inl rfl);have B1:=u6 { sides:=b.sides,cases:=cs.take (b.cases.length+k)} l[k].facts (side:=1) (.inr rfl);have e0:=B0.2.1.2 ⟨D.rd,D.f⟩;have e1:=B1.2.1.2 ⟨D.rd,D.f⟩;have i0:=B0.2.2 D.rd D.f;have i1:=B1.2.2 D.rd D.f;have nb:=Ih D.rd (hNc.sublist (List.take_sublist _ _)) (F:=l[k].facts);have hT:(cs.take (Int.toNat ((b.cases.length+k:Nat):Int))).drop 0=cs.take (b.cases.length+k):=by rw[Int.toNat_natCast];rfl
     refine⟨?_,?_⟩
     ·unfold fC;rw[e,g,hwk k hk];simp only[hT];exact⟨⟨by omega,by omega,by omega⟩,B0.1,B1.1,Ie _ _,fun _=>⟨by omega,by omega⟩⟩
     ·unfold fe;rw[e,g,hwk k hk];simp only[hT];rw[Int.toNat_natCast,w,e0,e1,D.a];have hwin:(zM { sides:=b.sides,cases:=cs.take (b.cases.length+k)} l[k]).winner=bif(!(aj { sides:=b.sides,cases:=cs.take (b.cases.length+k)} l[k].facts 0).2.1)&&((aj { sides:=b.sides,cases:=cs.take (b.cases.length+k)} l[k].facts 1).2.1||((bM l[k].plea l[k].question).1 !=1))then 1 else 0:=rfl;rw[hwin];cases h0:(aj { sides:=b.sides,cases:=cs.take (b.cases.length+k)} l[k].facts 0).2.1 with
      |true=>
       cases h1:(aj { sides:=b.sides,cases:=cs.take (b.cases.length+k)} l[k].facts 1).2.1 with
       |true=>exact absurd ⟨i0.1 h0,i1.1 h1⟩ nb
       |false=>simp
      |false=>
       cases h1:(aj { sides:=b.sides,cases:=cs.take (b.cases.length+k)} l[k].facts 1).2.1 with
       |true=>simp
       |false=>
        by_cases ha:(bM l[k].plea l[k].question).1=1
        ·rw[ha];simp
        ·have:((bM l[k].plea l[k].question).1==1)=false:=by simpa using ha
         have h2:((bM l[k].plea l[k].question).1 !=1)=true:=by simpa using ha
         rw[this,h2];simp
    refine⟨⟨zV,fun _ _=>⟨c1,s1,fun _=>⟨k1,fun _ _ _=>j7 _ _ _ fun j _ _ hj=>(step j (by omega)).1⟩⟩⟩,?_⟩;simp only[Bool.not_true,cond_false];rw[hcond];simp only[cond_false];rw[DC (ρ:=Unit) (step:=fe b l) l.length 0 fun j _ hj=>(step j (by omega)).2]
theorem MT (b:Cases)(l:List Suit):fw b l:=(Be b l).1
theorem MU (b:Cases)(l:List Suit):gq b l=true:=(Be b l).2
end Go.Sx
end
section
namespace Go.Sx
open Go.Deep Go.RowKit
section
variable {F:Nat->Prop}{own:Own}{w:World}
def RC (F:Nat->Prop)(own:Own)(w:World)(ks:List Kd)(cs:List Value):Prop:=
 ∃ l:List SV,uC ks l=true/\l.length=cs.length/\∀ (j:Nat) (s:SV) (v:Value),l[j]? =some s->cs[j]? =some v->Rel F own w s v
theorem Iw:∀ {a b:List Kd} {l m:List SV},uC a l=true->uC b m=true->uC (a++b) (l++m)=true
 | [],b,l,m,h1,h2=>by rw[uL h1];exact h2
 |k::a,b,l,m,h1,h2=>by
  obtain⟨x,r,rfl,e1,e2⟩:=qp h1;simp only[List.cons_append,uC,e1,Iw e2 h2,Bool.and_self]
theorem RC.nil:RC F own w [] []:=⟨[],rfl,rfl,fun j s v h=>by cases h⟩
theorem RC.app {a b:List Kd}{c d:List Value}(h1:RC F own w a c)(h2:RC F own w b d):RC F own w (a++b) (c++d):=by
 obtain⟨l,f1,n1,r1⟩:=h1;obtain⟨m,f2,n2,r2⟩:=h2;refine⟨l++m,Iw f1 f2,by simp[n1,n2],fun j s v hs hv=>?_⟩;by_cases hj:j<l.length
 ·rw[List.getElem?_append_left hj]at hs;rw[List.getElem?_append_left (by omega)]at hv;exact r1 j s v hs hv
 ·rw[List.getElem?_append_right (by omega)]at hs;rw[List.getElem?_append_right (by omega),<-n1]at hv;exact r2 _ s v hs hv
theorem RC.one {k:Kd}{s:SV}{v:Value}(h1:fit k s=true)(h2:Rel F own w s v):RC F own w [k] [v]:=
 ⟨[s],by simp[uC,h1],rfl,fun j s' v' hs hv=>by
  cases j with
  |zero=>simp only[List.getElem?_cons_zero,Option.some.injEq]at hs hv;subst hs;subst hv;exact h2
  |succ j=>simp at hs⟩
end
def Vx:Kd->Kd->Bool
 | .s,.s=>true
 | .b,.b=>true
 | .n a,.n b=>decide (a=b)
 | .r a,.r b=>decide (a=b)
 | .m a c,.m b d=>decide (a=b)&&decide (c=d)
 |_,_=>false
theorem Sn:∀ {a b:Kd},Vx a b=true->a=b:=by
 intro a b h;cases a <;>cases b <;>simp_all [Vx]
def PT:List Kd->List Kd->Bool
 | [],[] =>true
 |a::l,b::m=>Vx a b&&PT l m
 |_,_=>false
theorem Lz:∀ {a b:List Kd},PT a b=true->a=b
 | [],[],_=>rfl
 |a::l,b::m,h=>by
  simp only[PT,Bool.and_eq_true]at h;rw[Sn h.1,Lz h.2]
def DG (P:Program)(g:TypeId->Option (List Kd)):List Field->Nat->Nat->Option (List Kd)
 | [],off,tot=>bif Nat.beq off tot then some []else none
 |f::r,off,tot=>match g f.type with
  |some a=>bif Nat.beq f.offset off&&Nat.beq a.length (P.cellsOf f.type)then(DG P g r (off+a.length) tot).map (a++ ·)else none
  |none=>none
def J3 (a:List Kd):Nat->List Kd
 |0=>[]
 |n+1=>a++J3 a n
def DH (P:Program):Nat->TypeId->Option (List Kd)
 |0,_=>none
 |n+1,t=>match P.underlying t with
  |some .bool=>some [.b]
  |some (.int k) =>some [.n k]
  |some .string=>some [.s]
  |some (.slice e) =>match GF P e,DH P n e with
   |some k,some ks=>bif PT ks (eH k)&&Nat.beq (P.cellsOf e) (aa k)&&Nat.ble 1 (aa k)then some [.r k]else none
   |_,_=>none
  |some (.struct fs) =>DG P (DH P n) fs.toList 0 (P.cellsOf t)
  |some (.array m e) =>match DH P n e with
   |some a=>bif Nat.beq a.length (P.cellsOf e)&&Nat.beq (P.cellsOf t) (m*a.length)then some (J3 a m)else none
   |none=>none
  |_=>none
section
variable {H:Type}{enc:TypeId×Value->H}{P:Program}{F:Nat->Prop}{own:Own}{w:World}{base:Nat}{spare:Nat->Bool}{held:Bool}{S:DataW H->Prop}
theorem LA {g:TypeId->Option (List Kd)}(hg:∀ t ks,g t=some ks->∀ (fuel:Nat) (cs:List Value) (x:DataW H×List MemPlace),DataW.trod enc P w base spare held fuel t cs=some x->S x.1->RC F own w ks cs)
  (fuel:Nat) (cs:List Value):∀ (fs:List Field) (off:Nat) (ks:List Kd),DG P g fs off cs.length=some ks->(∀ f∈fs,∃ x,DataW.trod enc P w base spare held fuel f.type ((cs.drop f.offset).take (P.cellsOf f.type))=some x/\S x.1)->RC F own w ks (cs.drop off)
 | [],off,ks,h,_=>by
  unfold DG at h;cases hb:Nat.beq off cs.length with
  |false=>rw[hb]at h;cases h
  |true=>
   rw[hb]at h;have:off=cs.length:=Nat.eq_of_beq_eq_true hb;subst this;cases h;rw[List.drop_length];exact RC.nil
 |f::r,off,ks,h,hx=>by
  unfold DG at h;cases ha:g f.type with
  |none=>rw[ha]at h;cases h
  |some a=>
   rw[ha]at h;dsimp only at h;cases hb:Nat.beq f.offset off&&Nat.beq a.length (P.cellsOf f.type)with
   |false=>rw[hb]at h;cases h
   |true=>
    rw[hb]at h;simp only[cond_true,Option.map_eq_some_iff]at h;obtain⟨ks2,h2,rfl⟩:=h;rw[Bool.and_eq_true]at hb;have e1:f.offset=off:=Nat.eq_of_beq_eq_true hb.1;have e2:a.length=P.cellsOf f.type:=Nat.eq_of_beq_eq_true hb.2;obtain⟨x,hx1,hs1⟩:=hx f (by simp);have h3:=hg _ _ ha _ _ _ hx1 hs1;have h4:=LA hg fuel cs r (off+a.length) ks2 h2 fun f hf=>hx f (by simp[hf]);have:=h3.app h4;rw[e1,<-e2]at this
    rwa[<-List.drop_drop,List.take_append_drop]at this
theorem LB {e:TypeId}{a:List Kd}(ha:∀ (fuel:Nat) (cs:List Value) (x:DataW H×List MemPlace),DataW.trod enc P w base spare held fuel e cs=some x->S x.1->RC F own w a cs)
  (fuel:Nat):∀ (m:Nat) (cs:List Value),cs.length=m*a.length->(∀ i,i<m->∃ x,DataW.trod enc P w base spare held fuel e ((cs.drop (i*a.length)).take a.length)=some x/\S x.1)->RC F own w (J3 a m) cs
 |0,cs,h,_=>by
  have:cs=[]:=by simpa using h
  subst this;exact RC.nil
 |m+1,cs,h,hx=>by
  obtain⟨x,hx1,hs1⟩:=hx 0 (by omega);rw[Nat.zero_mul,List.drop_zero]at hx1;have h3:=ha _ _ _ hx1 hs1;have h4:=LB ha fuel m (cs.drop a.length) (by rw[List.length_drop,h,Nat.succ_mul];omega) fun i hi=>by
   obtain⟨x,hx2,hs2⟩:=hx (i+1) (by omega);refine⟨x,?_,hs2⟩;rw[List.drop_drop]
   rwa[Nat.succ_mul,Nat.add_comm]at hx2
  have:=h3.app h4
  rwa[List.take_append_drop]at this
structure Small (S:DataW H->Prop):Prop where
 agg:∀ l,S (.agg l)->∀ d∈l,S d
 slice:∀ l m,S (.slice l m)->l.length<=aD/\∀ d∈l,S d
theorem tz (hS:Small S)(hown:∀ b,¬bZ F own b):∀ (n:Nat) (t:TypeId) (ks:List Kd),DH P n t=some ks->∀ (fuel:Nat) (cs:List Value) (x:DataW H×List MemPlace),DataW.trod enc P w base spare held fuel t cs=some x->S x.1->RC F own w ks cs
 |0,_,_,h,_,_,_,_,_=>by cases h
 |n+1,t,ks,h,fuel,cs,x,hx,hs=>by
  unfold DH at h;split at h
  ·rename_i ht;cases h;obtain⟨b,rfl,rfl⟩:=DataW.trod_bool ht hx;exact RC.one (s:=.v (.bool b)) rfl (.v _)
  ·rename_i k ht;cases h;obtain⟨m,rfl,rfl,_⟩:=DataW.trod_int ht hx;exact RC.one (s:=.v (.int k m)) (by simp[fit]) (.v _)
  ·rename_i ht;cases h;obtain⟨b,rfl,rfl,_⟩:=DataW.trod_string ht hx;exact RC.one (s:=.v (.string b)) rfl (.v _)
  ·rename_i e ht;split at h
   ·rename_i k ks2 hk hks;cases hb:PT ks2 (eH k)&&Nat.beq (P.cellsOf e) (aa k)&&Nat.ble 1 (aa k)with
    |false=>rw[hb]at h;cases h
    |true=>
     rw[hb]at h;cases h;simp only[Bool.and_eq_true]at hb;have e1:=Lz hb.1.1;have e2:P.cellsOf e=aa k:=Nat.eq_of_beq_eq_true hb.1.2;have e3:1<=aa k:=nbl hb.2;subst e1;rcases open_slice ht hx with⟨rfl,rfl⟩ | ⟨a,len,cap,m,f2,D,Pl,rfl,hb1,hl,hm,hmm,rfl,hel⟩
     ·exact RC.one (s:=.rs k []) (by simp[fit]) .rs0
     ·have hlm:len<=m:=by subst hmm;split <;>omega
      obtain⟨hs1,hs2⟩:=hS.slice _ _ hs;simp only[List.length_map,List.length_range]at hs1;have helt:∀ i,i<len->∃ cs',cs'.length=aa k/\(∀ j v,cs'[j]? =some v->w.cell? ((a.add (i*aa k)).add j)=some v)/\RC F own w (eH k) cs':=fun i hi=>by
       obtain⟨cs',h1,h2⟩:=hel i (by omega);have h3:=tz hS hown n e (eH k) hks f2 cs' _ h2 (hs2 _ (List.mem_map_of_mem (List.mem_range.2 hi)));unfold World.cells? at h1;split at h1
       ·refine⟨cs',by rw[mapM_some_length h1,List.length_range,e2],fun j v hj=>?_,h3⟩;have hlt:j<P.cellsOf e:=by
         have:=(List.getElem?_eq_some_iff.1 hj).1
         rwa[mapM_some_length h1,List.length_range]at this
        have:=mapM_some_get h1 j j (by simp[hlt]);rw[e2]at this;rw[this,hj]
       ·cases h1
      by_cases h0:len=0
      ·subst h0;exact RC.one (s:=.rs k []) (by simp[fit]) .rs0
      ·have hsp:a.spot=none:=by
        obtain⟨cs',h1,h2,_⟩:=helt 0 (by omega);have:=h2 0 (cs'[0]'(by omega)) (by rw[List.getElem?_eq_getElem]);rw[Nat.zero_mul]at this;simp only[Addr.add,if_true]at this;unfold World.cell? at this;split at this
        ·cases hsp:a.spot with
         |none=>rfl
         |some q=>rw[hsp]at this;simp at this
        ·cases this
       obtain⟨ab,ao,asp⟩:=a;dsimp only at hsp;subst hsp
       haveI:Inhabited k.T:=⟨gw k⟩
       obtain⟨X,hX⟩:=choose_lt (p:=fun i (x:k.T) =>∀ (j:Nat) (s:SV),(cellsOf k x)[j]? =some s->∃ v,w.cell? ⟨ab,ao+i*aa k+j,none⟩=some v/\Rel F own w s v) (n:=len) fun i hi=>by
        obtain⟨cs',h1,h2,l,h3,h4,h5⟩:=helt i hi;refine⟨mkE k l,fun j s hj=>?_⟩;rw[re (k:=k) (l:=l) (x:=mkE k l) (by unfold uD;rw[h3];rfl)]at hj;have hlt:j<cs'.length:=by
         have:=(List.getElem?_eq_some_iff.1 hj).1;omega
        refine⟨cs'[j],?_,h5 j s _ hj (List.getElem?_eq_getElem hlt)⟩;have:=h2 j cs'[j] (List.getElem?_eq_getElem hlt);have hadd:∀ p q,((⟨ab,ao,none⟩:Addr).add p).add q=⟨ab,ao+p+q,none⟩:=fun p q=>by
         unfold Addr.add;by_cases hp:p=0 <;>by_cases hq:q=0 <;>simp[hp,hq]
        rwa[hadd]at this
       have hL:((List.range len).map X).length=len:=by simp
       refine RC.one (s:=.rs k ((List.range len).map X)) (by simp[fit]) ?_;have hget:∀ (i:Nat) (x:k.T),((List.range len).map X)[i]? =some x->i<len/\x=X i:=fun i x hi=>by
        obtain⟨h1,h2⟩:=List.getElem?_eq_some_iff.1 hi;rw[hL]at h1;simp only[List.getElem_map,List.getElem_range]at h2;subst h2;exact⟨h1,rfl⟩
       have:=Rel.rs (F:=F) (own:=own) (w:=w) (k:=k) (l:=(List.range len).map X) (b:=ab) (o:=ao) (cap:=cap) (fun i j=>(w.cell? ⟨ab,ao+i*aa k+j,none⟩).getD undef) (by rw[hL];exact hl) (by rw[hL];exact hs1)
        (fun i x hi j s hj=>by
         obtain⟨h1,rfl⟩:=hget i x hi;obtain⟨v,h2,_⟩:=hX i h1 j s hj;exact⟨hown _,by rw[h2];rfl⟩)
        (fun i x hi j s hj=>by
         obtain⟨h1,rfl⟩:=hget i x hi;obtain⟨v,h2,h3⟩:=hX i h1 j s hj;rw[h2];exact h3)
       rwa[hL]at this
   ·cases h
  ·rename_i fs ht;obtain⟨xs,m,rfl,rfl,hl,hlen,hf⟩:=DataW.trod_struct ht hx;rw[<-hl]at h;have:=LA (tz hS hown n) m cs fs.toList 0 ks h fun f hfm=>by
    obtain⟨i,hi,rfl⟩:=List.getElem_of_mem hfm;have hi':i<fs.size:=by simpa using hi
    have h1:=hf i fs[i] (by simp[hi']);rw[List.getElem?_eq_getElem (by omega)]at h1;refine⟨_,by simpa using h1,hS.agg _ hs _ (List.mem_map_of_mem (List.getElem_mem _))⟩
   simpa using this
  ·rename_i m e ht;split at h
   ·rename_i a ha;cases hb:Nat.beq a.length (P.cellsOf e)&&Nat.beq (P.cellsOf t) (m*a.length)with
    |false=>rw[hb]at h;cases h
    |true=>
     rw[hb]at h;cases h;rw[Bool.and_eq_true]at hb;have e1:a.length=P.cellsOf e:=Nat.eq_of_beq_eq_true hb.1;have e2:P.cellsOf t=m*a.length:=Nat.eq_of_beq_eq_true hb.2;obtain⟨xs,f2,rfl,rfl,hl,hlen,hf⟩:=DataW.trod_array ht hx;refine LB (tz hS hown n e a ha) f2 m cs (by rw[hl,e2]) fun i hi=>?_;have h1:=hf i hi;rw[List.getElem?_eq_getElem (by omega),<-e1]at h1;exact⟨_,h1,hS.agg _ hs _ (List.mem_map_of_mem (List.getElem_mem _))⟩
   ·cases h
  ·cases h
end
end Go.Sx
end
section
namespace Go.Sx
open Go.Proofs
section
variable {F:Nat->Prop}{own:Own}{w:World}
theorem So {k:Tag}{cs:Array Value}(h:RC F own w (eH k) cs.toList):∃ x:k.T,Rel F own w (.agg (cellsOf k x)) (.agg cs):=by
 obtain⟨l,h3,h4,h5⟩:=h;refine⟨mkE k l,?_⟩;rw[re (k:=k) (l:=l) (x:=mkE k l) (by unfold uD;rw[h3];rfl)];refine .agg (by simpa using h4.symm) fun j s hj=>?_;have hlt:j<cs.size:=by
  have:=(List.getElem?_eq_some_iff.1 hj).1;simpa[h4]using this
 exact h5 j s _ hj (by simp[Array.getD,hlt])
theorem Vy {k:Tag}{v:Value}(h:RC F own w [.r k] [v]):∃ l:List k.T,Rel F own w (.rs k l) v:=by
 obtain⟨l,h3,h4,h5⟩:=h;obtain⟨x,r,rfl,h6,h7⟩:=qp h3;have h8:=h5 0 x v rfl rfl;cases x with
 |rs k' l'=>
  have:k=k':=by
   simp only[fit]at h6;exact uJ h6
  subst this;exact⟨l',h8⟩
 |_=>simp[fit]at h6
end
end Go.Sx
end
section
namespace Go.Sx
open Go.ChangeShapes Go.RowKit Go.WideShapes
section
variable {H:Type}{enc:TypeId×Value->H}{P:Program}
def Sp (P:Program):List TypeId->Bool
 | [] =>true
 |t::r=>P.readableRec t&&Nat.blt t P.types.size&&Sp P r
theorem E6 (hl:laidOutB P=true){W W':World}(hg:Below W.heap.size W W'):∀ {ts:List TypeId} {vs:List Value} {ds:List (DataW H)} {ps:List MemPlace},Sp P ts=true->
  DataW.TrodAll enc P W 0 (fun _=>true) true ts vs ds ps->(∀ x∈ps,x.block<W.heap.size)->DataW.TrodAll enc P W' 0 (fun b=>decide (b<W.heap.size)) true ts vs ds ps
 | [],vs,ds,ps,_,h,_=>by
  obtain⟨rfl,rfl,rfl⟩:=trodAll_nil h;exact trodAll_mk0
 |t::ts,vs,ds,ps,hk,h,hlt=>by
  unfold Sp at hk;rw[Bool.and_eq_true,Bool.and_eq_true]at hk;obtain⟨v,vs',d,ds',p,q,rfl,rfl,rfl,h1,h2⟩:=trodAll_cons h;refine trodAll_cons_mk (WideElems.Trod_stays hl hk.1.1 (by simpa[Nat.blt_eq]using hk.1.2) h1 (fun x hx=>hg.same (hlt x (List.mem_append_left _ hx))) (fun x hx=>by simpa using hlt x (List.mem_append_left _ hx))) ?_;exact E6 hl hg hk.2 h2 fun x hx=>hlt x (List.mem_append_right _ hx)
theorem PU (hl:laidOutB P=true){f:Func}{s:ChangeSpec}{W W':World}{args:Array Value}{ds gs:List (DataW H)}{before:List MemPlace}{t:TypeId}
  (hk:Sp P f.params.toList=true) (hW:DataW.Whole enc P f.params.toList s.vars false W args.toList ds gs before)
  (hr:f.resultTypes= #[t]) (ht:P.underlying t=some .bool) (hv:s.vars=[]) (h1:(s.fn H (ds++gs)).results=[.lit (.bool true)]) (h2:(s.fn H (ds++gs)).args=ds) (h3:(s.fn H (ds++gs)).vars=[])
  (hg:Below W.heap.size W W'):s.post enc P f false true false false W args (.bool true) W':=by
 have hlt:=hW.lt;have hW0:=hW;obtain⟨p,q,hA,hV,rfl,_,_⟩:=hW;rw[hv]at hV;obtain⟨rfl,rfl⟩:=trodVars_none hV;refine⟨ds,[],p++[],[],p,[],hW0,?_,?_,?_,?_,fun h=>by cases h⟩
 ·rw[h1,hr];exact trodAll_cons_mk (shut_bool ht _) trodAll_mk0
 ·rw[h2];exact E6 hl hg hk hA fun x hx=>hlt x (by simpa using hx)
 ·rw[h3,hv];rfl
 ·exact World.keptBut_mono (fun x hx=>⟨hx,.inr (.inl (by simpa using hx))⟩) (hg.frame (· ∈p++[]))
end
end Go.Sx
end
section
namespace Go.Proofs.YtnanafpgfihjfaaGreat.bulks
theorem one_le {H:Type}(d:DataW H):1<=Rows.uptoBulk d:=by
 cases d with
 |lit l=>cases l <;>simp[Rows.uptoBulk]
 |nil=>simp[Rows.uptoBulk]
 |ptr d=>simp[Rows.uptoBulk]
 |slice r7 spare=>simp[Rows.uptoBulk]
 |agg parts=>simp[Rows.uptoBulk]
 |iface t d=>simp[Rows.uptoBulk]
 |map entries=>simp[Rows.uptoBulk]
 |held h=>simp[Rows.uptoBulk]
theorem part_le {H:Type}{d:DataW H}{l:List (DataW H)}(h:d∈l):Rows.uptoBulk d<=Rows.uptoBulkAll l:=by
 induction l with
 |nil=>cases h
 |cons x r ih=>
  simp only[Rows.uptoBulkAll];cases List.mem_cons.1 h with
  |inl e=>subst e;omega
  |inr e=>have:=ih e;omega
theorem append {H:Type}(l r:List (DataW H)):Rows.uptoBulkAll (l++r)=Rows.uptoBulkAll l+Rows.uptoBulkAll r:=by
 induction l with
 |nil=>simp[Rows.uptoBulkAll]
 |cons x l ih=>simp only[List.cons_append,Rows.uptoBulkAll,ih];omega
theorem length_le {H:Type}(l:List (DataW H)):l.length<=Rows.uptoBulkAll l:=by
 induction l with
 |nil=>simp[Rows.uptoBulkAll]
 |cons x r ih=>have:=one_le x;simp only[Rows.uptoBulkAll,List.length_cons];omega
theorem slice_le {H:Type}(r7 spare:List (DataW H)):r7.length+spare.length+1<=Rows.uptoBulk (.slice r7 spare):=by
 have h1:=length_le r7;have h2:=length_le spare;simp only[Rows.uptoBulk];omega
theorem slice_elems {H:Type}(r7 spare:List (DataW H)):Rows.uptoBulkAll r7+1<=Rows.uptoBulk (.slice r7 spare):=by
 simp only[Rows.uptoBulk];omega
theorem bound {H:Type}{l:List (DataW H)}(hk:Rows.uptoSmall H l=true):Rows.uptoBulkAll l<=1048576:=by
 simpa[Rows.uptoSmall]using hk
theorem room {n b:Nat}(hn:n<=2097152)(hb:b<=4096):(n+n / 4+192)*b<=281474976710656:=by
 have h:(n+n / 4+192)*b<=2621632*4096:=Nat.mul_le_mul (by omega) hb;omega
end Go.Proofs.YtnanafpgfihjfaaGreat.bulks
end
