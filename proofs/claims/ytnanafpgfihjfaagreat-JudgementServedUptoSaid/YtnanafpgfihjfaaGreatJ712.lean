/- Part of the proof that the law JudgementServed returns true and leaves its arguments as they were, for all arguments of bulk at most 1048576 (the Upto form). -/
import Derived.Test.YtnanafpgfihjfaaGreatJ711
import Derived.Test.YtnanafpgfihjfaaGreatJ708
import Derived.Test.YtnanafpgfihjfaaGreatJ707
import Derived.Test.YtnanafpgfihjfaaGreatJ710
import Derived.Test.YtnanafpgfihjfaaGreatJ709
import Derived.Test.YtnanafpgfihjfaaGreatJ706
set_option linter.all false
set_option maxHeartbeats 4000000
set_option maxRecDepth 100000
section
namespace Go.Sx
open Go.Proofs
open IntKind (i64)
@[go_sem] def pP (p:Plea)(k_0:Nat)(s_0:List (Int×Bool)):Empty⊕(List (Int×Bool)):=.inr (fN .int .bool s_0 (p.facts.getD k_0 0) true)
@[go_sem] def yf (p:Plea)(s_1:List (Int×Bool))(k_2:Nat)(s_2:Unit):(List (Int×Bool))⊕Unit:=letI q0:=p.clauses.getD k_2 default;(bif((q0.strict&&(!(aZ .int .bool s_1 (q0.then_))))&&(!(iR (q0.if_) s_1)))then .inl (fN .int .bool s_1 (q0.then_) true)else .inr ())
@[go_sem] def tE (p:Plea)(k_1:Nat)(s_1:List (Int×Bool)):(List (Int×Bool))⊕(List (Int×Bool)):=(match aq (yf p s_1) p.clauses.length 0 ()with| .inl x_2_0=>.inr x_2_0| .inr s_2=>.inl s_1)
def gk (p:Plea):List (Int×Bool):=(match aq (pP p) p.facts.length 0 ([])with| .inl x=>x.elim| .inr s_0=>(match aq (tE p) (p.clauses.length+1) 0 s_0 with| .inl x_1_0=>x_1_0| .inr s_1=>default))
def jN (p:Plea):Prop:=(p.facts.length<=aI->(∀ s_0,aq (pP p) p.facts.length 0 ([])=.inr s_0->(∀ z_,aq (tE p) (p.clauses.length+1) 0 s_0≠ .inr z_)))
@[go_sem] def uY:List SV->Option Con:=(pD .plea fun p=>(pE (.det (jN p) (.nm .int .bool (gk p)))))
theorem ae7 {p:Prop}(h:p:=by simp only[go_sem,Nat.reduceBEq,Nat.reduceLeDiff,Nat.reduceLT,decide_true,Nat.reduceAdd,Nat.reduceSub,Nat.reduceMul,Int.reduceLE,Int.reduceLT,Int.reduceToNat,Int.reduceNeg,reduceCtorEq,iD];all_goals exact cl):p:=h
theorem yg:FnOk Tryz.prog 118 uY:=by
 have hG:ConsOk Tryz.prog (mkG [(157,fun l=>iD (bD [.sl .int,.o] l))] []):=av (cgc (rD.norm [.sl .int,.o]) cg0) cg0;refine Jt true mixed am hG (fn:=Tryz.f118) (c:=aa Tryz.f118) kr kr kr kr (a7 fun p=>(aj (fun hp=>?_)));dsimp only[aw]at hp;unfold jN at hp;refine⟨nbl rfl,(fun id st=>bif Nat.beq id 0 then some (LCR (ρ:=Empty) (σ:=(List (Int×Bool))) 3 [] [0,1,2] (fun k_0 s_0=>⟨[(1,.ptr 0 0),(3,.ptr 2 0),(11,.rs .int p.facts),(12,.v (.int .i64 (p.facts.length:Int))),(13,.v (.int .i64 (k_0:Int)))],[.cells (cellsOf .plea p),.mp .int .bool s_0 none,.cells [.os 1]]⟩) (pP p) pT p.facts.length ([]) (p.facts.length<=aI) ((·.elim)) ((·.elim)) st)else bif Nat.beq id 2 then some (LCV (ρ:=(List (Int×Bool))) (σ:=(List (Int×Bool))) 3 [] [0,1,2] (fun k_1 s_1=>⟨[(1,.ptr 0 0),(3,.ptr 2 0)],[.cells (cellsOf .plea p),.mp .int .bool s_1 none,.cells [.os 1]]⟩) (tE p) pT (p.clauses.length+1) (cy (aq (pP p) p.facts.length 0 ([]))) (fun _=>.ret) (fun x_1_0=>⟨[(2,.os 3)],[.dead,.dead,.dead,.mp .int .bool x_1_0 none]⟩) st)else none),?_,?_⟩;unfold aa Tryz.f118;simp only[ap,true_and,and_true];refine⟨?_,?_⟩;refine a8 mixed am hG kr (fun _=>rfl) (p.facts.length:Int) rfl iB (fun hb0 k_0 s_0 hlt0 _ hw hc=>⟨L0,ag _,?_⟩) (fun hb0 s_0 hc=>?_);exact bT (jl [0,1,2]);exact bN (jl [0,1,2]);refine uB mixed am hG kr (fun _=>rfl) fun k_1 s_1 _=>⟨(fun id st=>bif Nat.beq id 4 then some (LCR (ρ:=(List (Int×Bool))) (σ:=Unit) 3 [] [0,1,2] (fun k_2 s_2=>⟨[(1,.ptr 0 0),(3,.ptr 2 0),(21,.rs .clause p.clauses),(22,.v (.int .i64 (p.clauses.length:Int))),(23,.v (.int .i64 (k_2:Int)))],[.cells (cellsOf .plea p),.mp .int .bool s_1 none,.cells [.os 1]]⟩) (yf p s_1) pT p.clauses.length () (p.clauses.length<=aI) (fun _=>.exit 3) (fun x_2_0=>⟨[(1,.ptr 0 0),(3,.ptr 2 0)],[.cells (cellsOf .plea p),.mp .int .bool x_2_0 none,.cells [.os 1]]⟩) st)else none),?_,?_⟩;simp only[ap,true_and,and_true];refine a8 mixed am hG kr (fun _=>rfl) (p.clauses.length:Int) rfl iB (fun hb2 k_2 s_2 hlt2 _ hw hc=>⟨L0,ag _,?_⟩) (fun hb2 s_2 hc=>?_);exact bT (jl [0,1,2]);exact bN (jl [0,1,2]);exact Lz (jl [0,1,2]) (jl [0,1,2,1]);unfold aa Tryz.f118;try unfold gk
 exact ae7
@[go_sem] def gW (s_:List Clause)(k_0:Nat)(s_0:Unit):Int⊕Unit:=(bif(wr (s_.getD k_0 default))then .inl (k_0:Int)else .inr ())
def ff (s_:List Clause):Int:=(match aq (gW s_) s_.length 0 ()with| .inl x_0_0=>x_0_0| .inr s_0=>(-1))
@[go_sem] def hU:List SV->Option Con:=(pR .clause fun s_=>(pFn 115 (pE ((pE (.det True (.v (.int .i64 (ff s_)))))))))
theorem lO:FnOk Tryz.prog 156 hU:=by
 have hG:ConsOk Tryz.prog (mkG [(115,fun l=>ye (bD [.st .clause] l))] []):=av (cgc (C_.norm [.st .clause]) cg0) cg0;refine ax [.o] mixed am hG (fn:=Tryz.f156) (c:=aa Tryz.f156) kr kr kr kr (bB fun s_=>(bI (aj ((aj (fun hp=>?_))))));dsimp only[aw]at hp;refine⟨nbl rfl,(fun id st=>bif Nat.beq id 0 then some (LCR (ρ:=Int) (σ:=Unit) 0 [] [] (fun k_0 s_0=>⟨[(0,.rs .clause s_),(1,.fn 115 [] []),(7,.v (.int .i64 (s_.length:Int))),(8,.v (.int .i64 (k_0:Int)))],[]⟩) (gW s_) pT s_.length () (s_.length<=aI) (fun _=>.ret) (fun x_0_0=>⟨[(4,.v (.int .i64 x_0_0))],[]⟩) st)else none),?_,?_⟩;unfold aa Tryz.f156;simp only[ap,true_and,and_true];refine a8 mixed am hG kr (fun _=>rfl) (s_.length:Int) rfl iB (fun hb0 k_0 s_0 hlt0 _ hw hc=>⟨L0,ag _,?_⟩) (fun hb0 s_0 hc=>?_);exact bT (jl []);exact bN (jl []);unfold aa Tryz.f156;try unfold ff
 exact zq1
@[go_sem] noncomputable def eM:List SV->Option Con:=fun l=>(orC (bQ l) (orC (cN l) (orC (cO l) (orC (cP l) (orC (cS l) (orC (eF l) (orC (eH l) (hU l))))))))
theorem mq:FnOk Tryz.prog 156 eM:=(FnOk.or cG (FnOk.or d9 (FnOk.or d_ (FnOk.or eb (FnOk.or ed (FnOk.or gT (FnOk.or gV lO)))))))
def cH (s_:List Clause):Bool:=(decide ((ff s_)>=0))
@[go_sem] def gq:List SV->Option Con:=(pR .clause fun s_=>(pFn 115 (pE ((pE (.det True (.v (.bool (cH s_)))))))))
theorem ae8 {p:Prop}(h:p:=by simp only[go_sem,Nat.reduceBEq,Nat.reduceLeDiff,Nat.reduceLT,decide_true,Nat.reduceAdd,Nat.reduceSub,Nat.reduceMul,Int.reduceLE,Int.reduceLT,Int.reduceToNat,Int.reduceNeg,reduceCtorEq,eM];all_goals exact cl):p:=h
theorem kI:FnOk Tryz.prog 116 gq:=by
 have hG:ConsOk Tryz.prog (mkG [(156,fun l=>eM (bD [.sl .clause,.o] l))] []):=av (cgc (mq.norm [.sl .clause,.o]) cg0) cg0;refine ax [.o] mixed am hG (fn:=Tryz.f116) (c:=aa Tryz.f116) kr kr kr kr (bB fun s_=>(bI (aj ((aj (fun hp=>?_))))));dsimp only[aw]at hp;refine⟨nbl rfl,L0,ag _,?_⟩;unfold aa Tryz.f116;try unfold cH
 exact ae8
@[go_sem] noncomputable def bK:List SV->Option Con:=fun l=>(orC (co l) (orC (cp l) (orC (cq l) (orC (cr l) (orC (dO l) (orC (dP l) (gq l)))))))
theorem kT:FnOk Tryz.prog 116 bK:=(FnOk.or dH (FnOk.or dI (FnOk.or dJ (FnOk.or dL (FnOk.or gb (FnOk.or gc kI))))))
@[go_sem] def uZ (a0:Plea)(k_0:Nat)(s_0:Bool×Int):Empty⊕(Bool×Int):=letI q0:=a0.clauses.getD k_0 default;.inr (((((((s_0.1&&(decide (q0.no > s_0.2)))&&(decide (q0.no<=1048576)))&&(jC (q0.then_)))&&(decide (q0.rank>=0)))&&(decide (q0.rank<=1048576)))&&(oT (q0.if_))),q0.no)
def lD (a0:Plea)(k_0:Nat)(s_0:Bool×Int):Prop:=letI q0:=a0.clauses.getD k_0 default;((((((s_0.1&&(decide (q0.no > s_0.2)))&&(decide (q0.no<=1048576)))&&(jC (q0.then_)))&&(decide (q0.rank>=0)))&&(decide (q0.rank<=1048576)))=true->(lv (q0.if_)))
@[go_sem] def rj (a0:Plea)(z_1:Int)(s_1:Unit):Unit⊕Unit:=(bif((aZ .int .bool (gk a0) z_1)&&(aZ .int .bool (gk a0) (i64.wrap (0 - z_1))))then .inl ()else .inr ())
def Da (a0:Plea)(z_1:Int)(s_1:Unit):Prop:=True
def kB (a0:Plea):Int:=(bif(((decide ((a0.facts.length:Int) > 64)) ||(decide ((a0.clauses.length:Int) > 64))) ||(cH a0.clauses))then 2 else(match aq (uZ a0) a0.clauses.length 0 ((oT a0.facts),(-1))with| .inl x=>x.elim| .inr s_0=>(bif(!s_0.1)then 510 else(match dR (rj a0) a6 ()with| .inl x_1_0=>510| .inr s_1=>0))))
def kJ (a0:Plea):Prop:=letI q0:=((oT a0.facts),(-1));letI q1:=uZ a0;(a0.facts.length<=aI->((((decide ((a0.facts.length:Int) > 64)) ||(decide ((a0.clauses.length:Int) > 64))) ||(cH a0.clauses))=false->((lv a0.facts)/\(a0.clauses.length<=aI->(okI q1 (lD a0) a0.clauses.length 0 q0/\(∀ s_0,aq q1 a0.clauses.length 0 q0=.inr s_0->((!s_0.1)=false->((jN a0)/\(fE ((a6).map Gp))))))))))
@[go_sem] def sF:List SV->Option Con:=(pD .plea fun a0=>(pE (.det (kJ a0) (.v (.int .i64 (kB a0))))))
theorem ae9 {l0:List Nat}(a0:JL l0){p:Prop}(h:JL l0->p:=by intro ja;simp only[go_sem,Nat.reduceBEq,Nat.reduceLeDiff,Nat.reduceLT,decide_true,Nat.reduceAdd,Nat.reduceSub,Nat.reduceMul,Int.reduceLE,Int.reduceLT,Int.reduceToNat,Int.reduceNeg,reduceCtorEq,bK,rj,psT,Gp,aiF,aiC];all_goals exact ke ja):p:=h a0
theorem YL {l0:List Nat}(a0:JL l0){p:Prop}(h:JL l0->p:=by intro ja;simp only[go_sem,Nat.reduceBEq,Nat.reduceLeDiff,Nat.reduceLT,decide_true,Nat.reduceAdd,Nat.reduceSub,Nat.reduceMul,Int.reduceLE,Int.reduceLT,Int.reduceToNat,Int.reduceNeg,reduceCtorEq,bK];all_goals exact ke ja):p:=h a0
theorem ae_ {p:Prop}(h:p:=by simp only[go_sem,Nat.reduceBEq,Nat.reduceLeDiff,Nat.reduceLT,decide_true,Nat.reduceAdd,Nat.reduceSub,Nat.reduceMul,Int.reduceLE,Int.reduceLT,Int.reduceToNat,Int.reduceNeg,reduceCtorEq,bK];all_goals exact cl):p:=h
theorem u4:FnOk Tryz.prog 67 sF:=by
 have hG:ConsOk Tryz.prog (mkG [(83,pO),(116,fun l=>bK (bD [.sl .clause,.o] l)),(117,fun l=>zm (bD [.sl .int] l)),(118,fun l=>uY (bD [.st .plea] l)),(119,fun l=>sf (bD [] l))] []):=av (cgc sd (cgc (kT.norm [.sl .clause,.o]) (cgc (D4.norm [.sl .int]) (cgc (yg.norm [.st .plea]) (cgc (vZ.norm []) cg0))))) cg0;refine ax [.o] mixed am hG (fn:=Tryz.f67) (c:=aa Tryz.f67) kr kr kr kr (a7 fun a0=>(aj (fun hp=>?_)));dsimp only[aw]at hp;unfold kJ at hp;refine⟨nbl rfl,(fun id st=>bif Nat.beq id 0 then some (LCR (ρ:=Empty) (σ:=(Bool×Int)) 2 [] [0,1] (fun k_0 s_0=>⟨[(1,.ptr 0 0),(2,.ptr 1 0),(4,.v (.bool s_0.1)),(5,.v (.int .i64 s_0.2)),(30,.rs .clause a0.clauses),(31,.v (.int .i64 (a0.clauses.length:Int))),(32,.v (.int .i64 (k_0:Int)))],[.cells (cellsOf .plea a0),.cells [.v (.int .i64 0)]]⟩) (uZ a0) (lD a0) a0.clauses.length ((oT a0.facts),(-1)) (a0.clauses.length<=aI) ((·.elim)) ((·.elim)) st)else bif Nat.beq id 2 then some (LC (ρ:=Unit) (σ:=Unit) (lk 2 st.t=.ptr 1 0/\lk 8 st.t=.ptr 3 0/\lk 75 st.t=.fn 159 [] []/\st.h=[.cells (cellsOf .plea a0),.cells [.v (.int .i64 0)],.mp .int .bool (gk a0) none,.cells [.os 2]]/\fE ((a6).map Gp)) (dR (rj a0) a6 ()) (fun _=>.ret) (fun x_1_0=>⟨[(2,.ptr 1 0),(8,.ptr 3 0)],[.dead,.cells [.v (.int .i64 510)],.mp .int .bool (gk a0) none,.cells [.os 2]]⟩) (fun s_1=>⟨[(2,.ptr 1 0),(8,.ptr 3 0)],[.dead,.cells [.v (.int .i64 0)],.mp .int .bool (gk a0) none,.cells [.os 2]]⟩))else none),?_,?_⟩
 ·unfold aa Tryz.f67;simp only[ap,true_and,and_true];refine⟨?_,?_⟩;refine a8 mixed am hG kr (fun _=>rfl) (a0.clauses.length:Int) rfl iB (fun hb0 k_0 s_0 hlt0 hq0 hw hc=>⟨L0,ag _,?_⟩) (fun hb0 s_0 hc=>?_);unfold lD at hq0;try simp only[hw,air]at hq0
  exact bT (jl [0,1]);exact bN (jl [0,1])
  ·refine ud mixed am hG (by decide) (by decide) kr kr fun st lc hC hp=>?_;simp only[go_sem,Nat.reduceBEq,aip]at hC;subst hC;obtain⟨t,h⟩:=st;dsimp only[LC]at hp;obtain⟨e1_0,e1_1,e1_2,rfl,hb1⟩:=hp;refine⟨159,[],Int,_,_,a6,Gp,(rj a0),(Da a0),_,(),_,_,_,[(2,.ptr 1 0),(8,.ptr 3 0)],(fun s_1=>[.dead,.cells [.v (.int .i64 0)],.mp .int .bool (gk a0) none,.cells [.os 2]]),(fun x_1_0=>[.dead,.cells [.v (.int .i64 510)],.mp .int .bool (gk a0) none,.cells [.os 2]]),[0,1,2,3],?_,rfl,Eg _ _ fun _ _ _=>trivial,nbl rfl,?_,tQ _ hb1,fun z_1 s_1 hq1=>⟨rfl,L0,fun l=>?_,fun l=>?_,?_⟩,fun s_1=>?_,fun y=>?_⟩;simp only[go_sem,e1_0,e1_1,e1_2]
   ·simp only[go_sem,Nat.reduceBEq,Nat.reduceLeDiff,Nat.reduceLT,decide_true,Nat.reduceAdd,Nat.reduceSub,Nat.reduceMul,Int.reduceLE,Int.reduceLT,Int.reduceToNat,Int.reduceNeg,reduceCtorEq,wU,mQ,ai5,ajN,aiC,aiQ,ajy,e1_0,e1_1,e1_2];all_goals (first|done|decide|(repeat' (first|refine And.intro ?_ ?_|rfl|decide)))
   simp only[ap,and_self,true_and,and_true];simp only[ap,and_self,true_and,and_true]
   skip
   exact ae9 (jl [0,1,2,3]);exact YL (jl [0,1,2,3]);exact YL (jl [0,1,2,3])
 unfold aa Tryz.f67;try unfold kB
 exact ae_
def lE (k1:PleasCourt)(q1:Int):Bool:=(mT k1 q1)
@[go_sem] def oZ:List SV->Option Con:=(pFn 170 (pXX .pleasCourt fun k1=>(pX .int fun q1=>(pE ((pE (.det True (.v (.bool (lE k1 q1))))))))))
theorem u5:FnOk Tryz.prog 177 oZ:=by
 have hG:ConsOk Tryz.prog (mkG [(170,qu)] []):=av (cgc wu cg0) cg0;refine ax [.o] mixed am hG (fn:=Tryz.f177) (c:=aa Tryz.f177) kr kr kr kr (bI (bW fun k1=>(aP fun q1=>(aj ((aj (fun hp=>?_)))))));dsimp only[aw]at hp;refine⟨nbl rfl,L0,ag _,?_⟩;unfold aa Tryz.f177;try unfold lE
 exact zq1
def lF (k2:PleasCourt)(q2:Int):Bool:=(mU k2 q2)
@[go_sem] def o4:List SV->Option Con:=(pFn 171 (pXX .pleasCourt fun k2=>(pX .int fun q2=>(pE ((pE (.det True (.v (.bool (lF k2 q2))))))))))
theorem u6:FnOk Tryz.prog 177 o4:=by
 have hG:ConsOk Tryz.prog (mkG [(171,qv)] []):=av (cgc wv cg0) cg0;refine ax [.o] mixed am hG (fn:=Tryz.f177) (c:=aa Tryz.f177) kr kr kr kr (bI (bW fun k2=>(aP fun q2=>(aj ((aj (fun hp=>?_)))))));dsimp only[aw]at hp;refine⟨nbl rfl,L0,ag _,?_⟩;unfold aa Tryz.f177;try unfold lF
 exact zq1
def lG (k3:PleasCourt)(q3:Int):Bool:=(mV k3 q3)
@[go_sem] def o5:List SV->Option Con:=(pFn 173 (pXX .pleasCourt fun k3=>(pX .int fun q3=>(pE ((pE (.det True (.v (.bool (lG k3 q3))))))))))
theorem u7:FnOk Tryz.prog 177 o5:=by
 have hG:ConsOk Tryz.prog (mkG [(173,qw)] []):=av (cgc ww cg0) cg0;refine ax [.o] mixed am hG (fn:=Tryz.f177) (c:=aa Tryz.f177) kr kr kr kr (bI (bW fun k3=>(aP fun q3=>(aj ((aj (fun hp=>?_)))))));dsimp only[aw]at hp;refine⟨nbl rfl,L0,ag _,?_⟩;unfold aa Tryz.f177;try unfold lG
 exact zq1
@[go_sem] noncomputable def iG:List SV->Option Con:=fun l=>(orC (oZ l) (orC (o4 l) (o5 l)))
theorem vp:FnOk Tryz.prog 177 iG:=(FnOk.or u5 (FnOk.or u6 u7))
@[go_sem] def dh (k1:PleasCourt)(q1:Int)(k2:PleasCourt)(q2:Int)(k3:PleasCourt)(q3:Int)(k_0:Nat)(s_0:Unit):Int⊕Unit:=(bif(Nat.beq k_0 0)then(bif(lE k1 q1)then .inl 0 else .inr ())else(bif(Nat.beq k_0 1)then(bif(lF k2 q2)then .inl 1 else .inr ())else(bif(lG k3 q3)then .inl 2 else .inr ())))
def ik (k1:PleasCourt)(q1:Int)(k2:PleasCourt)(q2:Int)(k3:PleasCourt)(q3:Int)(k_0:Nat)(s_0:Unit):Prop:=True
def fR (k1:PleasCourt)(q1:Int)(k2:PleasCourt)(q2:Int)(k3:PleasCourt)(q3:Int):Int:=(match aq (dh k1 q1 k2 q2 k3 q3) 3 0 ()with| .inl x_0_0=>x_0_0| .inr s_0=>(-1))
@[go_sem] def iS:List SV->Option Con:=(pLS (pFn 170 (pXX .pleasCourt fun k1=>(pX .int fun q1=>(pE ((pFn 171 (pXX .pleasCourt fun k2=>(pX .int fun q2=>(pE ((pFn 173 (pXX .pleasCourt fun k3=>(pX .int fun q3=>(pE ((pE ((pFn 177 (pE ((pE (.det True (.v (.int .i64 (fR k1 q1 k2 q2 k3 q3))))))))))))))))))))))))))
theorem afa {p:Prop}(h:p:=by simp only[go_sem,Nat.reduceBEq,Nat.reduceLeDiff,Nat.reduceLT,decide_true,Nat.reduceAdd,Nat.reduceSub,Nat.reduceMul,Int.reduceLE,Int.reduceLT,Int.reduceToNat,Int.reduceNeg,reduceCtorEq,iG];all_goals exact cl):p:=h
theorem nI:FnOk Tryz.prog 210 iS:=by
 have hG:ConsOk Tryz.prog (mkG [(177,iG)] []):=av (cgc vp cg0) cg0;refine ax [.o] mixed am hG (fn:=Tryz.f210) (c:=aa Tryz.f210) kr kr kr kr (O7 (bI (bW fun k1=>(aP fun q1=>(aj ((bI (bW fun k2=>(aP fun q2=>(aj ((bI (bW fun k3=>(aP fun q3=>(aj ((aj ((bI (aj ((aj (fun hp=>?_)))))))))))))))))))))));dsimp only[aw]at hp;refine⟨nbl rfl,(fun id st=>bif Nat.beq id 0 then some (LC (ρ:=Int) (σ:=Unit) (lk 0 st.t=.ls [.fn 170 [] [.ep [.ep (cellsOf .pleasCourt k1) 0] 0,.ep [.v (.int .i64 q1)] 0],.fn 171 [] [.ep [.ep (cellsOf .pleasCourt k2) 0] 0,.ep [.v (.int .i64 q2)] 0],.fn 173 [] [.ep [.ep (cellsOf .pleasCourt k3) 0] 0,.ep [.v (.int .i64 q3)] 0]]/\lk 1 st.t=.fn 177 [] []/\lk 7 st.t=.v (.int .i64 3)/\lk 8 st.t=.v (.int .i64 0)/\st.h=[]) (aq (dh k1 q1 k2 q2 k3 q3) 3 0 ()) (fun _=>.ret) (fun x_0_0=>⟨[(4,.v (.int .i64 x_0_0))],[]⟩) (fun s_0=>⟨[],[]⟩))else none),?_,?_⟩
 ·unfold aa Tryz.f210;simp only[ap,true_and,and_true]
  ·refine QP mixed am hG kr fun st lc hC hp=>?_;simp only[go_sem,Nat.reduceBEq,aip]at hC;subst hC;obtain⟨t,h⟩:=st;dsimp only[LC]at hp;obtain⟨e0_0,e0_1,e0_2,e0_3,rfl⟩:=hp;refine⟨_,_,_,(dh k1 q1 k2 q2 k3 q3),(ik k1 q1 k2 q2 k3 q3),3,(),_,_,_,(fun k_0 s_0=>⟨[(0,.ls [.fn 170 [] [.ep [.ep (cellsOf .pleasCourt k1) 0] 0,.ep [.v (.int .i64 q1)] 0],.fn 171 [] [.ep [.ep (cellsOf .pleasCourt k2) 0] 0,.ep [.v (.int .i64 q2)] 0],.fn 173 [] [.ep [.ep (cellsOf .pleasCourt k3) 0] 0,.ep [.v (.int .i64 q3)] 0]]),(1,.fn 177 [] []),(7,.v (.int .i64 3)),(8,.v (.int .i64 (k_0:Int)))],[]⟩),⟨t,[]⟩,[],rfl,kU _ _ _ fun _ _ _ _=>trivial,NilS.refl _,nbl rfl,?_,fun k_0 s_0 hk0 hp0=>?_⟩
   ·simp only[go_sem,Nat.reduceBEq,Nat.reduceLeDiff,Nat.reduceLT,decide_true,Nat.reduceAdd,Nat.reduceSub,Nat.reduceMul,Int.reduceLE,Int.reduceLT,Int.reduceToNat,Int.reduceNeg,reduceCtorEq,e0_0,e0_1,e0_2,e0_3];all_goals (first|done|decide|(repeat' (first|refine And.intro ?_ ?_|rfl|decide)))
   refine⟨L0,?_,?_⟩;simp only[ap,and_self,true_and,and_true]
   ·have hkk:k_0=0\/k_0=1\/k_0=2\/k_0=3:=by omega
    have hw0_0:i64.wrap ((0:Int)+1)=((0+1:Nat):Int):=by decide
    have hw0_1:i64.wrap ((1:Int)+1)=((1+1:Nat):Int):=by decide
    have hw0_2:i64.wrap ((2:Int)+1)=((2+1:Nat):Int):=by decide
    rcases hkk with rfl|rfl|rfl|rfl;all_goals try (have hq0:=hp0 (by decide))
    all_goals try unfold ik at hq0
    all_goals try simp only[go_sem,Nat.reduceBEq,Nat.reduceEqDiff,cond_true,cond_false,true_imp_iff,false_imp_iff,ait,true_and,and_true,reduceCtorEq]at hq0
    all_goals simp only[go_sem,Nat.reduceBEq,Nat.reduceLeDiff,Nat.reduceLT,decide_true,Nat.reduceAdd,Nat.reduceSub,Nat.reduceMul,Int.reduceLE,Int.reduceLT,Int.reduceToNat,Int.reduceNeg,reduceCtorEq,iG,dh,ak3,Nat.reduceLT,Nat.reduceEqDiff]
    all_goals exact ke (jl [])
 unfold aa Tryz.f210;try unfold fR
 exact afa
def ft (k1:PleasCourt)(q1:Int)(k2:PleasCourt)(q2:Int)(k3:PleasCourt)(q3:Int):Bool:=(decide ((fR k1 q1 k2 q2 k3 q3)>=0))
@[go_sem] def il:List SV->Option Con:=(pLS (pFn 170 (pXX .pleasCourt fun k1=>(pX .int fun q1=>(pE ((pFn 171 (pXX .pleasCourt fun k2=>(pX .int fun q2=>(pE ((pFn 173 (pXX .pleasCourt fun k3=>(pX .int fun q3=>(pE ((pE ((pFn 177 (pE ((pE (.det True (.v (.bool (ft k1 q1 k2 q2 k3 q3))))))))))))))))))))))))))
theorem mr:FnOk Tryz.prog 176 il:=by
 have hG:ConsOk Tryz.prog (mkG [(210,iS)] []):=av (cgc nI cg0) cg0;refine ax [.o] mixed am hG (fn:=Tryz.f176) (c:=aa Tryz.f176) kr kr kr kr (O7 (bI (bW fun k1=>(aP fun q1=>(aj ((bI (bW fun k2=>(aP fun q2=>(aj ((bI (bW fun k3=>(aP fun q3=>(aj ((aj ((bI (aj ((aj (fun hp=>?_)))))))))))))))))))))));dsimp only[aw]at hp;refine⟨nbl rfl,L0,ag _,?_⟩;unfold aa Tryz.f176;try unfold ft
 exact zq1
def kW (k_:PleasCourt)(q:Int):Bool:=((!(aZ .int .bool k_.strict q))&&(ft k_ q k_ q k_ q))
@[go_sem] def rM:List SV->Option Con:=(pX .pleasCourt fun k_=>(pI fun q=>(pE (.det True (.v (.bool (kW k_ q)))))))
theorem xV:FnOk Tryz.prog 134 rM:=by
 have hG:ConsOk Tryz.prog (mkG [(176,il)] []):=av (cgc mr cg0) cg0;refine ax [.o] mixed am hG (fn:=Tryz.f134) (c:=aa Tryz.f134) kr kr kr kr (aP fun k_=>(bY fun q=>(aj (fun hp=>?_))));dsimp only[aw]at hp;refine⟨nbl rfl,L0,ag _,?_⟩;unfold aa Tryz.f134;try unfold kW
 exact zq1
def aaL (k:Option HCon):List Ob->Option HCon
 | [] =>k|_=>none
@[go_sem] theorem afb {k:Option HCon}:aaL k []=k:=(rfl)
theorem Um {k:Option HCon}{h:List Ob}{c:HCon}(e:aaL k h=some c):h=[]/\k=some c:=by
 cases h with
 |nil=>exact⟨rfl,e⟩|cons=>cases e
@[go_sem] def aaM (p:Plea)(st:List (Int×Bool))(kn:List (Int×Int)):List Ob:=[.cells [.rs .int p.facts,.rs .clause p.clauses,.os 1,.os 2],.mp .int .bool st none,.mp .int .int kn none]
@[go_sem] noncomputable def sg:List SV->List Ob->Option HCon:=fun l h=>aaL (pD .plea (fun p=>pE (jF (jN p) (.ptr 0 0) (aaM p (gk p) []))) l) h
theorem Cg:FnOkO Tryz.prog 84 sg:=by
 have hG:ConsOk Tryz.prog (mkG [(118,fun l=>uY (bD [.st .plea] l))] []):=av (cgc (yg.norm [.st .plea]) cg0) cg0;refine qI mixed am hG (fn:=Tryz.f84) (c:=aa Tryz.f84) kr kr kr kr fun l o con h=>?_;unfold sg at h;obtain⟨rfl,h⟩:=Um h;obtain⟨p,r1,rfl,h1⟩:=Ju h;obtain⟨rfl,rfl⟩:=CJ h1;clear h h1;refine⟨_,_,_,rfl,fun hp=>?_⟩;refine⟨nbl rfl,L0,ag _,?_⟩;unfold aa Tryz.f84;simp only[go_sem,Nat.reduceBEq,Nat.reduceLeDiff,Nat.reduceLT,decide_true,Nat.reduceAdd,Nat.reduceSub,Nat.reduceMul,Int.reduceLE,Int.reduceLT,Int.reduceToNat,Int.reduceNeg,reduceCtorEq];refine⟨hp,rfl,?_⟩;exact fk (jl [3,1,2])
def kC (x:Reason)(facts:List Int)(clauses:List Clause)(strict_:List (Int×Bool))(known_:List (Int×Int)):List (Int×Int):=(bif x.proved then(fN .int .int (fN .int .int known_ x.literal 2) x.literal 1)else(fN .int .int known_ x.literal 2))
noncomputable def pg:List SV->List Ob->Option HCon:=r7 (fun x_:Reason×(List Int)×(List Clause)×(List (Int×Bool))×(List (Int×Int)) =>[.ptr 0 0,.agg (cellsOf .reason x_.1)]) (fun x_=>[.cells [.rs .int x_.2.1,.rs .clause x_.2.2.1,.os 1,.os 2],.mp .int .bool x_.2.2.2.1 none,.mp .int .int x_.2.2.2.2 none]) (fun x_=>jF True (.tup []) [.cells [.rs .int x_.2.1,.rs .clause x_.2.2.1,.os 1,.os 2],.mp .int .bool x_.2.2.2.1 none,.mp .int .int (kC x_.1 x_.2.1 x_.2.2.1 x_.2.2.2.1 x_.2.2.2.2) none])
@[go_sem] theorem JU (x:Reason)(facts:List Int)(clauses:List Clause)(strict_:List (Int×Bool))(known_:List (Int×Int)){p1_:Option (Nat×Option Tag.int.T)}(hp1_:p1_=none){p2_:Option (Nat×Option Tag.int.T)}(hp2_:p2_=none):pg ([.ptr 0 0,.agg [.v (.int .i64 x.literal),.v (.int .i64 x.clause),.v (.bool x.proved)]]) ([.cells [.rs .int facts,.rs .clause clauses,.os 1,.os 2],.mp .int .bool strict_ p1_,.mp .int .int known_ p2_])=some (jF True (.tup []) [.cells [.rs .int facts,.rs .clause clauses,.os 1,.os 2],.mp .int .bool strict_ none,.mp .int .int (kC x facts clauses strict_ known_) none]):=by
 subst hp1_;subst hp2_;exact oS (A:=fun x_:Reason×(List Int)×(List Clause)×(List (Int×Bool))×(List (Int×Int)) =>[.ptr 0 0,.agg (cellsOf .reason x_.1)]) (H:=fun x_=>[.cells [.rs .int x_.2.1,.rs .clause x_.2.2.1,.os 1,.os 2],.mp .int .bool x_.2.2.2.1 none,.mp .int .int x_.2.2.2.2 none]) (K:=fun x_=>jF True (.tup []) [.cells [.rs .int x_.2.1,.rs .clause x_.2.2.1,.os 1,.os 2],.mp .int .bool x_.2.2.2.1 none,.mp .int .int (kC x_.1 x_.2.1 x_.2.2.1 x_.2.2.2.1 x_.2.2.2.2) none]) (x:=(x,facts,clauses,strict_,known_))
theorem zo:FnOkO Tryz.prog 135 (pg):=by
 have hG:ConsOk Tryz.prog (mkG [] []):=av cg0 cg0;refine qI mixed am hG (fn:=Tryz.f135) (c:=aa Tryz.f135) kr kr kr kr fun l o con h=>?_;obtain⟨⟨x,facts,clauses,strict_,known_⟩,rfl,rfl,rfl⟩:=mb h;clear h;try dsimp only
 refine⟨_,_,_,rfl,fun hp=>?_⟩;refine⟨nbl rfl,L0,?_,?_⟩;unfold aa Tryz.f135;simp only[ap,and_self,true_and,and_true];unfold aa Tryz.f135;try unfold kC
 exact nS (jl [0,1,2])
end Go.Sx
end
section
namespace Go.Sx
open Go.RowKit
section
variable {P:Program}{ts:Tis}{G:Cons}{N:Nat}
theorem NG (hm:P.follows .mixedOrders=true)(hts:ts.ok P)(hG:ConsOk P G){id:Nat}{g:Operand}{ps:Array Tmp}{assign body:Code}{C:St->Option LCon}
  (hpn:ps.toList.Nodup) (hpN:∀ p∈ps.toList,p<N) (hca:cD N assign=true) (hcb:cD N body=true)
  (h:∀ st0 lc,C st0=some lc->lc.pre->∃ st,NilS st0 st/\∃ (f:FuncId) (caps:List SV) (τ ρ σ:Type) (l:List τ) (mk:τ->List SV) (step:τ->σ->ρ⊕σ) (p:τ->σ->Prop) (pre:Prop) (s0:σ) (exE:ρ->Ex) (outE:ρ->St) (outN:σ->St) (T:List (Nat×SV)) (H:σ->List Ob) (Hy:ρ->List Ob) (js:List Nat),
   raw st.t g=.fn f [] caps/\lc=LC pre (dR step l s0) exE outE outN/\okL step p l s0/\st.h.length<=(H s0).length/\Sub js st.h.length ⟨st.t,wU (mQ st caps) st.h⟩ ⟨T,H s0⟩/\
   FG P f (fun y=>y::caps.map (ren (Nh (mQ st caps)) 3)) (Lc (mQ st caps) st.h) (l.map mk)/\
   (∀ x s,p x s->(mk x).length=ps.size/\∃ L,(∀ l,ap P (some l) N L assign)/\(∀ l,ap P (some l) N L body)/\exec ts G L assign ⟨psT ps.toList (mk x)++T,H s⟩ (fun e st1=>e=.normal/\exec ts G L body st1 (rgQ step exE T H Hy st.h.length id x s)))/\
   (∀ s,ka (outN s) st.h.length ⟨T,H s⟩)/\∀ y,ka (outE y) st.h.length ⟨T,Hy y⟩):mP P none N id (.rangeFunc g ps assign body) C:=by
 intro nd F w0 st0 lc hC hpre own a w hr;obtain⟨st,hN,hrest⟩:=h st0 lc hC hpre;obtain⟨own',hr'⟩:=hN.rel hr;refine ud hm hts hG hpn hpN hca hcb (C:=fun s=>@ite _ (s=st) (Classical.propDecidable _) (some lc) none) (fun s l e _=>?_) nd F w0 st lc (if_pos rfl) hpre own' a w hr';split at e
 rename_i e1;subst e1;cases e;exact hrest;cases e
end
end Go.Sx
end
section
namespace Go.Sx
open Go.Proofs
open IntKind (i64)
theorem Uo {l0 l1:List Nat}(a0:JL l0)(a1:JL l1){p:Prop}(h:JL l0->JL l1->p:=by intro ja jb;(first|done|(repeat' (first|with_reducible refine And.intro ?_ ?_|((with_reducible show _≠_);first|assumption|omega|(simp_all [cy,fK];done) |grind) |with_reducible intro _)) <;>(first|done|with_reducible exact Empty.elim ‹Empty› |with_reducible assumption|rfl|omega|assumption|decide|exact fk ja|exact fk jb|exact czl|(simp only[*,cond_true,cond_false,aiP,aiY,go_sem,Nat.reduceBEq,Nat.reduceLeDiff,Nat.reduceLT,decide_true,Nat.reduceAdd,Nat.reduceSub,Nat.reduceMul,Int.reduceLE,Int.reduceLT,Int.reduceToNat,Int.reduceNeg,reduceCtorEq];(repeat' (first|with_reducible refine And.intro ?_ ?_|((with_reducible show _≠_);first|assumption|omega|(simp_all [cy,fK];done) |grind) |with_reducible intro _)) <;>(first|done|assumption|rfl|omega|decide|exact fk ja|exact fk jb|(simp_all [cy,fK];done))) |(simp_all [okI,cy,fK];done) |(simp_all [cy,fK];(first|done|exact fk2 ja|exact fk2 jb)) |exact fk2 ja|exact fk2 jb|(simp_all only[cy,fK,cond_true,cond_false];(first|done|exact fk ja|exact fk jb|exact fk2 ja|exact fk2 jb|(simp only[go_sem,Nat.reduceBEq,Nat.reduceLeDiff,Nat.reduceLT,decide_true,Nat.reduceAdd,Nat.reduceSub,Nat.reduceMul,Int.reduceLE,Int.reduceLT,Int.reduceToNat,Int.reduceNeg,reduceCtorEq];((repeat' (first|with_reducible refine And.intro ?_ ?_|((with_reducible show _≠_);first|assumption|omega|(simp_all [cy,fK];done) |grind) |with_reducible intro _)) <;>(first|done|rfl|exact fk ja|exact fk jb|exact fk2 ja|exact fk2 jb)))))))):p:=h a0 a1
theorem LR {l0 l1 l2:List Nat}(a0:JL l0)(a1:JL l1)(a2:JL l2){p:Prop}(h:JL l0->JL l1->JL l2->p:=by intro ja jb jc;(first|done|(repeat' (first|with_reducible refine And.intro ?_ ?_|((with_reducible show _≠_);first|assumption|omega|(simp_all [cy,fK];done) |grind) |with_reducible intro _)) <;>(first|done|with_reducible exact Empty.elim ‹Empty› |with_reducible assumption|rfl|omega|assumption|decide|exact fk ja|exact fk jb|exact fk jc|exact czl|(simp only[*,cond_true,cond_false,aiP,aiY,go_sem,Nat.reduceBEq,Nat.reduceLeDiff,Nat.reduceLT,decide_true,Nat.reduceAdd,Nat.reduceSub,Nat.reduceMul,Int.reduceLE,Int.reduceLT,Int.reduceToNat,Int.reduceNeg,reduceCtorEq];(repeat' (first|with_reducible refine And.intro ?_ ?_|((with_reducible show _≠_);first|assumption|omega|(simp_all [cy,fK];done) |grind) |with_reducible intro _)) <;>(first|done|assumption|rfl|omega|decide|exact fk ja|exact fk jb|exact fk jc|(simp_all [cy,fK];done))) |(simp_all [okI,cy,fK];done) |(simp_all [cy,fK];(first|done|exact fk2 ja|exact fk2 jb|exact fk2 jc)) |exact fk2 ja|exact fk2 jb|exact fk2 jc|(simp_all only[cy,fK,cond_true,cond_false];(first|done|exact fk ja|exact fk jb|exact fk jc|exact fk2 ja|exact fk2 jb|exact fk2 jc|(simp only[go_sem,Nat.reduceBEq,Nat.reduceLeDiff,Nat.reduceLT,decide_true,Nat.reduceAdd,Nat.reduceSub,Nat.reduceMul,Int.reduceLE,Int.reduceLT,Int.reduceToNat,Int.reduceNeg,reduceCtorEq];((repeat' (first|with_reducible refine And.intro ?_ ?_|((with_reducible show _≠_);first|assumption|omega|(simp_all [cy,fK];done) |grind) |with_reducible intro _)) <;>(first|done|rfl|exact fk ja|exact fk jb|exact fk jc|exact fk2 ja|exact fk2 jb|exact fk2 jc)))))))):p:=h a0 a1 a2
theorem Gq {l0:List Nat}(a0:JL l0){p:Prop}(h:JL l0->p:=by intro ja;(first|done|(repeat' (first|with_reducible refine And.intro ?_ ?_|((with_reducible show _≠_);first|assumption|omega|(simp_all [cy,fK];done) |grind) |with_reducible intro _)) <;>(first|done|with_reducible exact Empty.elim ‹Empty› |with_reducible assumption|rfl|omega|assumption|decide|exact fk ja|exact czl|(simp only[*,cond_true,cond_false,aiP,aiY,go_sem,Nat.reduceBEq,Nat.reduceLeDiff,Nat.reduceLT,decide_true,Nat.reduceAdd,Nat.reduceSub,Nat.reduceMul,Int.reduceLE,Int.reduceLT,Int.reduceToNat,Int.reduceNeg,reduceCtorEq];(repeat' (first|with_reducible refine And.intro ?_ ?_|((with_reducible show _≠_);first|assumption|omega|(simp_all [cy,fK];done) |grind) |with_reducible intro _)) <;>(first|done|assumption|rfl|omega|decide|exact fk ja|(simp_all [cy,fK];done))) |(simp_all [okI,cy,fK];done) |(simp_all [cy,fK];(first|done|exact fk2 ja)) |exact fk2 ja|(simp_all only[cy,fK,cond_true,cond_false];(first|done|exact fk ja|exact fk2 ja|(simp only[go_sem,Nat.reduceBEq,Nat.reduceLeDiff,Nat.reduceLT,decide_true,Nat.reduceAdd,Nat.reduceSub,Nat.reduceMul,Int.reduceLE,Int.reduceLT,Int.reduceToNat,Int.reduceNeg,reduceCtorEq];((repeat' (first|with_reducible refine And.intro ?_ ?_|((with_reducible show _≠_);first|assumption|omega|(simp_all [cy,fK];done) |grind) |with_reducible intro _)) <;>(first|done|rfl|exact fk ja|exact fk2 ja)))))))):p:=h a0
theorem Uq {l0 l1:List Nat}(a0:JL l0)(a1:JL l1){p:Prop}(h:JL l0->JL l1->p:=by intro ja jb;simp only[go_sem,Nat.reduceBEq,Nat.reduceLeDiff,Nat.reduceLT,decide_true,Nat.reduceAdd,Nat.reduceSub,Nat.reduceMul,Int.reduceLE,Int.reduceLT,Int.reduceToNat,Int.reduceNeg,reduceCtorEq];all_goals exact Uo ja jb):p:=h a0 a1
theorem Ur {l0:List Nat}(a0:JL l0){p:Prop}(h:JL l0->p:=by intro ja;simp only[go_sem,Nat.reduceBEq,Nat.reduceLeDiff,Nat.reduceLT,decide_true,Nat.reduceAdd,Nat.reduceSub,Nat.reduceMul,Int.reduceLE,Int.reduceLT,Int.reduceToNat,Int.reduceNeg,reduceCtorEq,hc,hw];all_goals exact Gq ja):p:=h a0
theorem Us {l0:List Nat}(a0:JL l0){p:Prop}(h:JL l0->p:=by intro ja;simp only[go_sem,Nat.reduceBEq,Nat.reduceLeDiff,Nat.reduceLT,decide_true,Nat.reduceAdd,Nat.reduceSub,Nat.reduceMul,Int.reduceLE,Int.reduceLT,Int.reduceToNat,Int.reduceNeg,reduceCtorEq,hc];all_goals exact Gq ja):p:=h a0
@[go_sem] def bL (facts:List Int)(clauses:List Clause)(strict_:List (Int×Bool))(s_0:List (Int×Int)×List Reason)(z_1:Int)(s_1:List Reason):Empty⊕(List Reason):=letI q0:=({ plea:=({ facts:=facts,clauses:=clauses}:Plea),strict:=strict_,known:=s_0.1}:PleasCourt);(bif((aZ .int .int s_0.1 z_1) !=0)then .inr s_1 else(bif(aZ .int .bool strict_ z_1)then .inr (s_1++([({ literal:=z_1,clause:=0,proved:=true}:Reason)]))else(bif(mo q0 z_1)then .inr (s_1++([({ literal:=z_1,clause:=(mg q0 z_1),proved:=true}:Reason)]))else(bif(kW q0 z_1)then .inr (s_1++([({ literal:=z_1,clause:=0,proved:=false}:Reason)]))else .inr s_1))))
def fu (facts:List Int)(clauses:List Clause)(strict_:List (Int×Bool))(s_0:List (Int×Int)×List Reason)(z_1:Int)(s_1:List Reason):Prop:=letI q0:=({ plea:=({ facts:=facts,clauses:=clauses}:Plea),strict:=strict_,known:=s_0.1}:PleasCourt);letI q1:=aZ .int .bool strict_ z_1;letI q2:=mo q0 z_1;(((aZ .int .int s_0.1 z_1) !=0)=false->((q1=true->((s_1++([({ literal:=z_1,clause:=0,proved:=true}:Reason)])).length*24<=di))/\(q1=false->((q2=true->((s_1++([({ literal:=z_1,clause:=(mg q0 z_1),proved:=true}:Reason)])).length*24<=di))/\(q2=false->((kW q0 z_1)=true->((s_1++([({ literal:=z_1,clause:=0,proved:=false}:Reason)])).length*24<=di)))))))
@[go_sem] def mX (facts:List Int)(clauses:List Clause)(strict_:List (Int×Bool))(s_1:List Reason)(k_2:Nat)(s_2:List (Int×Int)):Empty⊕(List (Int×Int)):=.inr (kC (s_1.getD k_2 default) facts clauses strict_ s_2)
@[go_sem] def jU (facts:List Int)(clauses:List Clause)(strict_:List (Int×Bool))(k_0:Nat)(s_0:List (Int×Int)×List Reason):(List (Int×Int)×List Reason)⊕(List (Int×Int)×List Reason):=(match dR (bL facts clauses strict_ s_0) a6 ([])with| .inl x=>x.elim| .inr s_1=>(bif((s_1.length:Int) ==0)then .inl (s_0.1,s_0.2)else(match aq (mX facts clauses strict_ s_1) s_1.length 0 s_0.1 with| .inl x=>x.elim| .inr s_2=>.inr (s_2,(s_0.2++s_1)))))
def gD (facts:List Int)(clauses:List Clause)(strict_:List (Int×Bool))(k_0:Nat)(s_0:List (Int×Int)×List Reason):Prop:=letI q0:=bL facts clauses strict_ s_0;((fE ((a6).map Gp))/\okL q0 (fu facts clauses strict_ s_0) a6 ([])/\(∀ s_1,dR q0 a6 ([])=.inr s_1->(s_1.length<=aI->(((s_1.length:Int) ==0)=false->(s_1.length<=aI->(∀ s_2,aq (mX facts clauses strict_ s_1) s_1.length 0 s_0.1=.inr s_2->((s_0.2++s_1).length*24<=di)))))))
def fF (facts:List Int)(clauses:List Clause)(strict_:List (Int×Bool))(known_:List (Int×Int)):(List (Int×Int))×(List Reason):=(match aq (jU facts clauses strict_) 130 0 (known_,[])with| .inl x_0_0=>(x_0_0.1,x_0_0.2) | .inr s_0=>default)
def fG (facts:List Int)(clauses:List Clause)(strict_:List (Int×Bool))(known_:List (Int×Int)):Prop:=(okI (jU facts clauses strict_) (gD facts clauses strict_) 130 0 (known_,[])/\(∀ z_,aq (jU facts clauses strict_) 130 0 (known_,[])≠ .inr z_))
noncomputable def ow:List SV->List Ob->Option HCon:=r7 (fun x_:(List Int)×(List Clause)×(List (Int×Bool))×(List (Int×Int)) =>[.ptr 0 0]) (fun x_=>[.cells [.rs .int x_.1,.rs .clause x_.2.1,.os 1,.os 2],.mp .int .bool x_.2.2.1 none,.mp .int .int x_.2.2.2 none]) (fun x_=>jF (fG x_.1 x_.2.1 x_.2.2.1 x_.2.2.2) (.os 3) [.cells [.rs .int x_.1,.rs .clause x_.2.1,.os 1,.os 2],.mp .int .bool x_.2.2.1 none,.mp .int .int ((fF x_.1 x_.2.1 x_.2.2.1 x_.2.2.2).1) none,.row .reason ((fF x_.1 x_.2.1 x_.2.2.1 x_.2.2.2).2)])
@[go_sem] theorem In (facts:List Int)(clauses:List Clause)(strict_:List (Int×Bool))(known_:List (Int×Int)){p1_:Option (Nat×Option Tag.int.T)}(hp1_:p1_=none){p2_:Option (Nat×Option Tag.int.T)}(hp2_:p2_=none):ow ([.ptr 0 0]) ([.cells [.rs .int facts,.rs .clause clauses,.os 1,.os 2],.mp .int .bool strict_ p1_,.mp .int .int known_ p2_])=some (jF (fG facts clauses strict_ known_) (.os 3) [.cells [.rs .int facts,.rs .clause clauses,.os 1,.os 2],.mp .int .bool strict_ none,.mp .int .int ((fF facts clauses strict_ known_).1) none,.row .reason ((fF facts clauses strict_ known_).2)]):=by
 subst hp1_;subst hp2_;exact oS (A:=fun x_:(List Int)×(List Clause)×(List (Int×Bool))×(List (Int×Int)) =>[.ptr 0 0]) (H:=fun x_=>[.cells [.rs .int x_.1,.rs .clause x_.2.1,.os 1,.os 2],.mp .int .bool x_.2.2.1 none,.mp .int .int x_.2.2.2 none]) (K:=fun x_=>jF (fG x_.1 x_.2.1 x_.2.2.1 x_.2.2.2) (.os 3) [.cells [.rs .int x_.1,.rs .clause x_.2.1,.os 1,.os 2],.mp .int .bool x_.2.2.1 none,.mp .int .int ((fF x_.1 x_.2.1 x_.2.2.1 x_.2.2.2).1) none,.row .reason ((fF x_.1 x_.2.1 x_.2.2.1 x_.2.2.2).2)]) (x:=(facts,clauses,strict_,known_))
theorem afc {l0 l1 l2:List Nat}(a0:JL l0)(a1:JL l1)(a2:JL l2){p:Prop}(h:JL l0->JL l1->JL l2->p:=by intro ja jb jc;simp only[go_sem,Nat.reduceBEq,Nat.reduceLeDiff,Nat.reduceLT,decide_true,Nat.reduceAdd,Nat.reduceSub,Nat.reduceMul,Int.reduceLE,Int.reduceLT,Int.reduceToNat,Int.reduceNeg,reduceCtorEq,bL,psT,Gp,aiF,aiC];all_goals exact LR ja jb jc):p:=h a0 a1 a2
theorem YM {l0 l1 l2:List Nat}(a0:JL l0)(a1:JL l1)(a2:JL l2){p:Prop}(h:JL l0->JL l1->JL l2->p:=by intro ja jb jc;simp only[go_sem,Nat.reduceBEq,Nat.reduceLeDiff,Nat.reduceLT,decide_true,Nat.reduceAdd,Nat.reduceSub,Nat.reduceMul,Int.reduceLE,Int.reduceLT,Int.reduceToNat,Int.reduceNeg,reduceCtorEq];all_goals exact LR ja jb jc):p:=h a0 a1 a2
theorem afd {l0:List Nat}(a0:JL l0){p:Prop}(h:JL l0->p:=by intro ja;simp only[go_sem,Nat.reduceBEq,Nat.reduceLeDiff,Nat.reduceLT,decide_true,Nat.reduceAdd,Nat.reduceSub,Nat.reduceMul,Int.reduceLE,Int.reduceLT,Int.reduceToNat,Int.reduceNeg,reduceCtorEq];all_goals exact Gq ja):p:=h a0
theorem yq:FnOkO Tryz.prog 85 (ow):=by
 have hG:ConsOk Tryz.prog (mkG [(119,fun l=>sf (bD [] l)),(132,s7),(133,sZ),(134,rM)] [(135,pg)]):=av (cgc (vZ.norm []) (cgc yp (cgc ym (cgc xV cg0)))) (cgc zo cg0);refine qI mixed am hG (fn:=Tryz.f85) (c:=aa Tryz.f85) kr kr kr kr fun l o con h=>?_;obtain⟨⟨facts,clauses,strict_,known_⟩,rfl,rfl,rfl⟩:=mb h;clear h;try dsimp only
 refine⟨_,_,_,rfl,fun hp=>?_⟩;unfold fG at hp;refine⟨nbl rfl,(fun id st=>bif Nat.beq id 0 then some (LCV (ρ:=(List (Int×Int)×List Reason)) (σ:=(List (Int×Int)×List Reason)) 4 [.slot 2 (.row .reason ([]))] [0,1,2,3,4] (fun k_0 s_0=>⟨[(1,.ptr 3 0),(2,.os 4)],[.cells [.rs .int facts,.rs .clause clauses,.os 1,.os 2],.mp .int .bool strict_ none,.mp .int .int s_0.1 none,.cells [.ptr 0 0],.row .reason s_0.2]⟩) (jU facts clauses strict_) (gD facts clauses strict_) 130 (known_,[]) (fun _=>.ret) (fun x_0_0=>⟨[(2,.os 4)],[.cells [.rs .int facts,.rs .clause clauses,.os 1,.os 2],.mp .int .bool strict_ none,.mp .int .int x_0_0.1 none,.dead,.row .reason x_0_0.2]⟩) st)else none),?_,?_⟩
 ·unfold aa Tryz.f85;simp only[ap,true_and,and_true,and_assoc]
  ·refine uB mixed am hG kr (fun _=>rfl) fun k_0 s_0 hq0=>⟨(fun id st=>bif Nat.beq id 2 then some (LC (ρ:=Empty) (σ:=List Reason) (lk 1 st.t=.ptr 3 0/\lk 2 st.t=.os 4/\lk 3 st.t=.ptr 5 0/\lk 7 st.t=.fn 159 [] []/\st.h=[.cells [.rs .int facts,.rs .clause clauses,.os 1,.os 2],.mp .int .bool strict_ none,.mp .int .int s_0.1 none,.cells [.ptr 0 0],.row .reason s_0.2,.cells [.v (.slice none 0 0)]]/\fE ((a6).map Gp)/\okL (bL facts clauses strict_ s_0) (fu facts clauses strict_ s_0) a6 ([])) (dR (bL facts clauses strict_ s_0) a6 ([])) (fun x=>x.elim) (fun x=>x.elim) (fun s_1=>⟨[(1,.ptr 3 0),(2,.os 4),(3,.ptr 5 0)],[.cells [.rs .int facts,.rs .clause clauses,.os 1,.os 2],.mp .int .bool strict_ none,.mp .int .int s_0.1 none,.cells [.ptr 0 0],.row .reason s_0.2,.cells [.os 7],.dead,.row .reason s_1]⟩))else bif Nat.beq id 5 then some (LCR (ρ:=Empty) (σ:=(List (Int×Int))) 8 [] [0,1,2,3,4,5,6,7] (fun k_2 s_2=>⟨[(1,.ptr 3 0),(2,.os 4),(3,.ptr 5 0),(54,.os 7),(55,.v (.int .i64 ((cy (dR (bL facts clauses strict_ s_0) a6 ([]))).length:Int))),(56,.v (.int .i64 (k_2:Int)))],[.cells [.rs .int facts,.rs .clause clauses,.os 1,.os 2],.mp .int .bool strict_ none,.mp .int .int s_2 none,.cells [.ptr 0 0],.row .reason s_0.2,.cells [.os 7],.dead,.row .reason (cy (dR (bL facts clauses strict_ s_0) a6 ([])))]⟩) (mX facts clauses strict_ (cy (dR (bL facts clauses strict_ s_0) a6 ([])))) pT ((cy (dR (bL facts clauses strict_ s_0) a6 ([]))).length) s_0.1 ((cy (dR (bL facts clauses strict_ s_0) a6 ([]))).length<=aI) ((·.elim)) ((·.elim)) st)else none),?_,?_⟩
   ·simp only[ap,true_and,and_true];refine⟨?_,?_⟩
    ·refine NG mixed am hG (by decide) (by decide) kr kr fun st lc hC hp=>?_;simp only[go_sem,Nat.reduceBEq,aip]at hC;subst hC;obtain⟨t,h⟩:=st;dsimp only[LC]at hp;obtain⟨e1_0,e1_1,e1_2,e1_3,rfl,hb1,hok1⟩:=hp;refine⟨⟨t,[.cells [.rs .int facts,.rs .clause clauses,.os 1,.os 2],.mp .int .bool strict_ none,.mp .int .int s_0.1 none,.cells [.ptr 0 0],.row .reason s_0.2,.cells [.os 6],.row .reason ([])]⟩,NilS.cell (h:=[.cells [.rs .int facts,.rs .clause clauses,.os 1,.os 2],.mp .int .bool strict_ none,.mp .int .int s_0.1 none,.cells [.ptr 0 0],.row .reason s_0.2,.cells [.v (.slice none 0 0)]]) (i:=5) (j:=0) (.row .reason ([])) (NilS.refl _) rfl rfl (.inl ⟨_,rfl⟩),159,[],Int,_,_,a6,Gp,(bL facts clauses strict_ s_0),(fu facts clauses strict_ s_0),_,([]),_,_,_,[(1,.ptr 3 0),(2,.os 4),(3,.ptr 5 0)],(fun s_1=>[.cells [.rs .int facts,.rs .clause clauses,.os 1,.os 2],.mp .int .bool strict_ none,.mp .int .int s_0.1 none,.cells [.ptr 0 0],.row .reason s_0.2,.cells [.os 7],.dead,.row .reason s_1]),(fun x=>x.elim),[0,1,2,3,4,5,6,6],?_,rfl,hok1,nbl rfl,?_,tQ _ hb1,fun z_1 s_1 hq1=>⟨rfl,L0,fun l=>?_,fun l=>?_,?_⟩,fun s_1=>?_,fun y=>?_⟩;simp only[go_sem,e1_0,e1_1,e1_2,e1_3]
     ·simp only[go_sem,Nat.reduceBEq,Nat.reduceLeDiff,Nat.reduceLT,decide_true,Nat.reduceAdd,Nat.reduceSub,Nat.reduceMul,Int.reduceLE,Int.reduceLT,Int.reduceToNat,Int.reduceNeg,reduceCtorEq,wU,mQ,ai5,ajN,aiC,aiQ,ajy,e1_0,e1_1,e1_2,e1_3];all_goals (first|done|decide|(repeat' (first|refine And.intro ?_ ?_|rfl|decide)))
     simp only[ap,and_self,true_and,and_true];simp only[ap,and_self,true_and,and_true];unfold fu at hq1;exact afc (jl [0,1,2,3,4,5,6,7]) (jl [0,1,2,3,4,5,6,9]) (jl [0,1,2,3,4,5,6,8]);exact YM (jl [0,1,2,3,4,5,6,7]) (jl [0,1,2,3,4,5,6,9]) (jl [0,1,2,3,4,5,6,8]);exact YM (jl [0,1,2,3,4,5,6,7]) (jl [0,1,2,3,4,5,6,9]) (jl [0,1,2,3,4,5,6,8])
    refine a8 mixed am hG kr (fun _=>rfl) ((cy (dR (bL facts clauses strict_ s_0) a6 ([]))).length:Int) rfl iB (fun hb2 k_2 s_2 hlt2 _ hw hc=>⟨L0,ag _,?_⟩) (fun hb2 s_2 hc=>?_);exact Ur (jl [0,1,2,3,4,5,6,7]);exact Us (jl [0,1,2,3,4,5,6,7])
   unfold gD at hq0;exact Uq (jl [0,1,2,3,8]) (jl [0,1,2,3,4])
 unfold aa Tryz.f85;try unfold fF
 exact afd (jl [0,1,2,4])
def ju (p:Plea)(q:Int):Int×Int:=letI q0:=aZ .int .int ((fF p.facts p.clauses (gk p) ([])).1) q;(bif((kB p) !=0)then(0,(kB p))else(bif(!(jC q))then(0,1)else(bif(q0==0)then(3,0)else(q0,0))))
def lH (p:Plea)(q:Int):Prop:=((kJ p)/\(((kB p) !=0)=false->((!(jC q))=false->((jN p)/\(fG p.facts p.clauses (gk p) ([]))))))
@[go_sem] def u9:List SV->Option Con:=(pD .plea fun p=>(pI fun q=>(pE (.det (lH p q) (.tup [.v (.int .i64 ((ju p q).1)),.v (.int .i64 ((ju p q).2))])))))
theorem yh:FnOk Tryz.prog 35 u9:=by
 have hG:ConsOk Tryz.prog (mkG [(67,fun l=>sF (bD [.st .plea] l)),(83,pO)] [(84,sg),(85,ow)]):=av (cgc (u4.norm [.st .plea]) (cgc sd cg0)) (cgc Cg (cgc yq cg0));refine ax [.o,.o] mixed am hG (fn:=Tryz.f35) (c:=aa Tryz.f35) kr kr kr kr (a7 fun p=>(bY fun q=>(aj (fun hp=>?_))));dsimp only[aw]at hp;unfold lH at hp;refine⟨nbl rfl,L0,ag _,?_⟩;unfold aa Tryz.f35;try unfold ju
 exact zq1
@[go_sem] def ph (a0:Cases)(a1:Suit)(k_0:Nat)(s_0:List Int):Empty⊕(List Int):=(bif((a0.sides.getD (Int.toNat (a1.facts.getD k_0 0)) 0) ==1)then .inr (s_0++([(a1.facts.getD k_0 0)]))else .inr s_0)
def mY (a0:Cases)(a1:Suit)(k_0:Nat)(s_0:List Int):Prop:=((0<=(a1.facts.getD k_0 0)/\(a1.facts.getD k_0 0) < (a0.sides.length:Int))/\(((a0.sides.getD (Int.toNat (a1.facts.getD k_0 0)) 0) ==1)=true->((s_0++([(a1.facts.getD k_0 0)])).length*8<=di)))
@[go_sem] def pi (a0:Cases)(a1:Suit)(k_1:Nat)(s_1:List Int):Empty⊕(List Int):=(bif((a0.sides.getD (Int.toNat (a1.facts.getD k_1 0)) 0) ==0)then .inr (s_1++([(a1.facts.getD k_1 0)]))else .inr s_1)
def mZ (a0:Cases)(a1:Suit)(k_1:Nat)(s_1:List Int):Prop:=((0<=(a1.facts.getD k_1 0)/\(a1.facts.getD k_1 0) < (a0.sides.length:Int))/\(((a0.sides.getD (Int.toNat (a1.facts.getD k_1 0)) 0) ==0)=true->((s_1++([(a1.facts.getD k_1 0)])).length*8<=di)))
@[go_sem] def pj (a0:Cases)(a1:Suit)(k_2:Nat)(s_2:List Int):Empty⊕(List Int):=(bif((a0.sides.getD (Int.toNat (a1.facts.getD k_2 0)) 0) ==1)then .inr (s_2++([(a1.facts.getD k_2 0)]))else .inr s_2)
def m_ (a0:Cases)(a1:Suit)(k_2:Nat)(s_2:List Int):Prop:=((0<=(a1.facts.getD k_2 0)/\(a1.facts.getD k_2 0) < (a0.sides.length:Int))/\(((a0.sides.getD (Int.toNat (a1.facts.getD k_2 0)) 0) ==1)=true->((s_2++([(a1.facts.getD k_2 0)])).length*8<=di)))
@[go_sem] def pm (a0:Cases)(a1:Suit)(k_3:Nat)(s_3:List Int):Empty⊕(List Int):=(bif((a0.sides.getD (Int.toNat (a1.facts.getD k_3 0)) 0) ==0)then .inr (s_3++([(a1.facts.getD k_3 0)]))else .inr s_3)
def na (a0:Cases)(a1:Suit)(k_3:Nat)(s_3:List Int):Prop:=((0<=(a1.facts.getD k_3 0)/\(a1.facts.getD k_3 0) < (a0.sides.length:Int))/\(((a0.sides.getD (Int.toNat (a1.facts.getD k_3 0)) 0) ==0)=true->((s_3++([(a1.facts.getD k_3 0)])).length*8<=di)))
def gE (a0:Cases)(a1:Suit):Case×Int:=letI q0:=ju a1.plea a1.question;letI q1:=aW a0 a1.facts 0;letI q3:=aW a0 a1.facts 1;letI q4:=(a0.cases.length:Int);letI q2:=a0.cases.getD (Int.toNat (i64.wrap (q4 - 1))) default;letI q5:=gC a0;letI q6:=kB a1.plea;(bif(q5 !=0)then(({ no:=0,hour:=0,winner:=0,facts:=[],reason:=[]}:Case),q5)else(bif(q6 !=0)then(({ no:=0,hour:=0,winner:=0,facts:=[],reason:=[]}:Case),q6)else(bif(az (q0.2==0) (q0.2))then(bif(az (q1.2.2==0) (q1.2.2))then(bif(az ((aV a1.no 0 1048576)&&(aV a1.hour 0 4096)) 520)then(bif(decide (q4 > 0))then(bif(az ((decide (a1.no > q2.no))&&(decide (a1.hour>=q2.hour))) 520)then(bif((!q1.2.1)&&(q3.2.1||(q0.1 !=1)))then(match aq (ph a0 a1) a1.facts.length 0 ([])with| .inl x=>x.elim| .inr s_0=>(({ no:=a1.no,hour:=a1.hour,winner:=1,facts:=a1.facts,reason:=s_0}:Case),0))else(match aq (pi a0 a1) a1.facts.length 0 ([])with| .inl x=>x.elim| .inr s_1=>(({ no:=a1.no,hour:=a1.hour,winner:=0,facts:=a1.facts,reason:=s_1}:Case),0)))else(({ no:=0,hour:=0,winner:=0,facts:=[],reason:=[]}:Case),520))else(bif((!q1.2.1)&&(q3.2.1||(q0.1 !=1)))then(match aq (pj a0 a1) a1.facts.length 0 ([])with| .inl x=>x.elim| .inr s_2=>(({ no:=a1.no,hour:=a1.hour,winner:=1,facts:=a1.facts,reason:=s_2}:Case),0))else(match aq (pm a0 a1) a1.facts.length 0 ([])with| .inl x=>x.elim| .inr s_3=>(({ no:=a1.no,hour:=a1.hour,winner:=0,facts:=a1.facts,reason:=s_3}:Case),0))))else(({ no:=0,hour:=0,winner:=0,facts:=[],reason:=[]}:Case),520))else(({ no:=0,hour:=0,winner:=0,facts:=[],reason:=[]}:Case),(q1.2.2)))else(({ no:=0,hour:=0,winner:=0,facts:=[],reason:=[]}:Case),(q0.2)))))
def mt (a0:Cases)(a1:Suit):Prop:=letI q1:=ju a1.plea a1.question;letI q2:=aW a0 a1.facts 0;letI q3:=aW a0 a1.facts 1;letI q4:=(a0.cases.length:Int);letI q0:=i64.wrap (q4 - 1);letI q5:=a0.cases.getD (Int.toNat q0) default;letI q6:=q1.1 !=1;letI q7:=decide (a1.no > q5.no);((gw a0)/\(((gC a0) !=0)=false->((kJ a1.plea)/\(((kB a1.plea) !=0)=false->((lH a1.plea a1.question)/\((az (q1.2==0) (q1.2))=true->((fD a0 a1.facts 0)/\((az (q2.2.2==0) (q2.2.2))=true->((fD a0 a1.facts 1)/\((az ((aV a1.no 0 1048576)&&(aV a1.hour 0 4096)) 520)=true->(a0.cases.length<=aI->(((decide (q4 > 0))=true->((0<=q0/\q0<q4)/\((q7=true->(0<=q0/\q0<q4))/\((az (q7&&(decide (a1.hour>=q5.hour))) 520)=true->((((!q2.2.1)&&(q3.2.1||q6))=true->(a1.facts.length<=aI->okI (ph a0 a1) (mY a0 a1) a1.facts.length 0 ([])))/\(((!q2.2.1)&&(q3.2.1||q6))=false->(a1.facts.length<=aI->okI (pi a0 a1) (mZ a0 a1) a1.facts.length 0 ([]))))))))/\((decide (q4 > 0))=false->((((!q2.2.1)&&(q3.2.1||q6))=true->(a1.facts.length<=aI->okI (pj a0 a1) (m_ a0 a1) a1.facts.length 0 ([])))/\(((!q2.2.1)&&(q3.2.1||q6))=false->(a1.facts.length<=aI->okI (pm a0 a1) (na a0 a1) a1.facts.length 0 ([])))))))))))))))))
@[go_sem] def u_:List SV->Option Con:=(pD .cases fun a0=>(pD .suit fun a1=>(pE (.det (mt a0 a1) (.tup [.agg (cellsOf .case ((gE a0 a1).1)),.v (.int .i64 ((gE a0 a1).2))])))))
theorem Pr {p:Prop}(h:p:=by simp only[go_sem,Nat.reduceBEq,Nat.reduceLeDiff,Nat.reduceLT,decide_true,Nat.reduceAdd,Nat.reduceSub,Nat.reduceMul,Int.reduceLE,Int.reduceLT,Int.reduceToNat,Int.reduceNeg,reduceCtorEq,hs0,hs1,rT,pY,RCJ];all_goals exact cl):p:=h
theorem zY:FnOk Tryz.prog 24 u_:=by
 have hG:ConsOk Tryz.prog (mkG [(34,fun l=>qb (bD [.st .cases,.sl .int,.o] l)),(35,fun l=>u9 (bD [.st .plea,.o] l)),(52,g6),(58,lm),(64,fun l=>mc (bD [.st .cases] l)),(67,fun l=>sF (bD [.st .plea] l))] []):=av (cgc (tO.norm [.st .cases,.sl .int,.o]) (cgc (yh.norm [.st .plea,.o]) (cgc je (cgc nk (cgc (pf.norm [.st .cases]) (cgc (u4.norm [.st .plea]) cg0)))))) cg0;refine O4 JA [.st .case,.o] mixed am hG (fn:=Tryz.f24) (c0:=rT (aa Tryz.f24)) (c1:=pY (pY (aa Tryz.f24))) (i1:=Wp (rT (pY (aa Tryz.f24)))) (o1:=SY 0 (rT (pY (aa Tryz.f24)))) (q:=5) (tys:= #[104]) kr kr kr (by refine⟨?_,?_,?_⟩ <;>kernel_rfl) kr kr (a7 fun a0=>(a7 fun a1=>(aj (fun hp=>?_))));dsimp only[aw]at hp;unfold mt at hp;rcases ai0 (decide ((a0.cases.length:Int) > 0))with hs0|hs0 <;>rcases ai0 ((!(aW a0 a1.facts 0).2.1)&&((aW a0 a1.facts 1).2.1||((ju a1.plea a1.question).1 !=1)))with hs1|hs1;have hsp:True:=trivial;refine⟨nbl rfl,L0,(fun id st=>bif Nat.beq id 0 then some (LCR (ρ:=Empty) (σ:=(List Int)) 4 [.cell 2 4 (.row .int ([]))] [0,1,2,3,4] (fun k_0 s_0=>⟨[(2,.ptr 0 0),(4,.ptr 2 0),(5,.ptr 3 0),(115,.rs .int a1.facts),(116,.v (.int .i64 (a1.facts.length:Int))),(117,.v (.int .i64 (k_0:Int)))],[.cells (cellsOf .cases a0),.dead,.cells [.v (.int .i64 a1.no),.v (.int .i64 a1.hour),.v (.int .i64 1),.rs .int a1.facts,.os 4],.cells [.v (.int .i64 ((aW a0 a1.facts 0).2.2))],.row .int s_0]⟩) (ph a0 a1) (mY a0 a1) a1.facts.length ([]) (a1.facts.length<=aI) ((·.elim)) ((·.elim)) st)else none),3,?_,?_,?_⟩;unfold aa Tryz.f24;simp only[rT,ap,and_self,true_and,and_true];unfold aa Tryz.f24;simp only[pY];simp only[ap,true_and,and_true];refine a8 mixed am hG kr (fun _=>rfl) (a1.facts.length:Int) rfl iB (fun hb0 k_0 s_0 hlt0 hq0 hw hc=>⟨L0,ag _,?_⟩) (fun hb0 s_0 hc=>?_);unfold mY at hq0;try simp only[hw,air]at hq0
 exact qV (jl [0,1,2,3,6]) (jl [0,1,2,3,4]);exact px (jl [0,1,2,3,6]) (jl [0,1,2,3,4]);unfold aa Tryz.f24;try unfold gE
 exact Pr;have hsp:True:=trivial;refine⟨nbl rfl,L0,(fun id st=>bif Nat.beq id 0 then some (LCR (ρ:=Empty) (σ:=(List Int)) 4 [.cell 2 4 (.row .int ([]))] [0,1,2,3,4] (fun k_1 s_1=>⟨[(2,.ptr 0 0),(4,.ptr 2 0),(5,.ptr 3 0),(115,.rs .int a1.facts),(116,.v (.int .i64 (a1.facts.length:Int))),(117,.v (.int .i64 (k_1:Int)))],[.cells (cellsOf .cases a0),.dead,.cells [.v (.int .i64 a1.no),.v (.int .i64 a1.hour),.v (.int .i64 0),.rs .int a1.facts,.os 4],.cells [.v (.int .i64 ((aW a0 a1.facts 0).2.2))],.row .int s_1]⟩) (pi a0 a1) (mZ a0 a1) a1.facts.length ([]) (a1.facts.length<=aI) ((·.elim)) ((·.elim)) st)else none),3,?_,?_,?_⟩;unfold aa Tryz.f24;simp only[rT,ap,and_self,true_and,and_true];unfold aa Tryz.f24;simp only[pY];simp only[ap,true_and,and_true];refine a8 mixed am hG kr (fun _=>rfl) (a1.facts.length:Int) rfl iB (fun hb1 k_1 s_1 hlt1 hq1 hw hc=>⟨L0,ag _,?_⟩) (fun hb1 s_1 hc=>?_);unfold mZ at hq1;try simp only[hw,air]at hq1
 exact qV (jl [0,1,2,3,6]) (jl [0,1,2,3,4]);exact px (jl [0,1,2,3,6]) (jl [0,1,2,3,4]);unfold aa Tryz.f24;try unfold gE
 exact Pr;have hsp:True:=trivial;refine⟨nbl rfl,L0,(fun id st=>bif Nat.beq id 0 then some (LCR (ρ:=Empty) (σ:=(List Int)) 4 [.cell 2 4 (.row .int ([]))] [0,1,2,3,4] (fun k_2 s_2=>⟨[(2,.ptr 0 0),(4,.ptr 2 0),(5,.ptr 3 0),(115,.rs .int a1.facts),(116,.v (.int .i64 (a1.facts.length:Int))),(117,.v (.int .i64 (k_2:Int)))],[.cells (cellsOf .cases a0),.dead,.cells [.v (.int .i64 a1.no),.v (.int .i64 a1.hour),.v (.int .i64 1),.rs .int a1.facts,.os 4],.cells [.v (.int .i64 ((aW a0 a1.facts 0).2.2))],.row .int s_2]⟩) (pj a0 a1) (m_ a0 a1) a1.facts.length ([]) (a1.facts.length<=aI) ((·.elim)) ((·.elim)) st)else none),3,?_,?_,?_⟩;unfold aa Tryz.f24;simp only[rT,ap,and_self,true_and,and_true];unfold aa Tryz.f24;simp only[pY];simp only[ap,true_and,and_true];refine a8 mixed am hG kr (fun _=>rfl) (a1.facts.length:Int) rfl iB (fun hb2 k_2 s_2 hlt2 hq2 hw hc=>⟨L0,ag _,?_⟩) (fun hb2 s_2 hc=>?_);unfold m_ at hq2;try simp only[hw,air]at hq2
 exact qV (jl [0,1,2,3,6]) (jl [0,1,2,3,4]);exact px (jl [0,1,2,3,6]) (jl [0,1,2,3,4]);unfold aa Tryz.f24;try unfold gE
 exact Pr;have hsp:True:=trivial;refine⟨nbl rfl,L0,(fun id st=>bif Nat.beq id 0 then some (LCR (ρ:=Empty) (σ:=(List Int)) 4 [.cell 2 4 (.row .int ([]))] [0,1,2,3,4] (fun k_3 s_3=>⟨[(2,.ptr 0 0),(4,.ptr 2 0),(5,.ptr 3 0),(115,.rs .int a1.facts),(116,.v (.int .i64 (a1.facts.length:Int))),(117,.v (.int .i64 (k_3:Int)))],[.cells (cellsOf .cases a0),.dead,.cells [.v (.int .i64 a1.no),.v (.int .i64 a1.hour),.v (.int .i64 0),.rs .int a1.facts,.os 4],.cells [.v (.int .i64 ((aW a0 a1.facts 0).2.2))],.row .int s_3]⟩) (pm a0 a1) (na a0 a1) a1.facts.length ([]) (a1.facts.length<=aI) ((·.elim)) ((·.elim)) st)else none),3,?_,?_,?_⟩;unfold aa Tryz.f24;simp only[rT,ap,and_self,true_and,and_true];unfold aa Tryz.f24;simp only[pY];simp only[ap,true_and,and_true];refine a8 mixed am hG kr (fun _=>rfl) (a1.facts.length:Int) rfl iB (fun hb3 k_3 s_3 hlt3 hq3 hw hc=>⟨L0,ag _,?_⟩) (fun hb3 s_3 hc=>?_);unfold na at hq3;try simp only[hw,air]at hq3
 exact qV (jl [0,1,2,3,6]) (jl [0,1,2,3,4]);exact px (jl [0,1,2,3,6]) (jl [0,1,2,3,4]);unfold aa Tryz.f24;try unfold gE
 exact Pr
end Go.Sx
end
section
namespace Go.Sx
def pCN {α:Type 1}(k:List Int->List SV->Option α):List SV->Option α
 | .agg [.rs .int s,.v (.slice none 0 0)]::r=>k s r|_=>none
@[go_sem] theorem aih {α:Type 1}{k:List Int->List SV->Option α}{s:List Tag.int.T}{r:List SV}:pCN k (.agg [.rs .int s,.v (.slice none 0 0)]::r)=k s r:=(rfl)
end Go.Sx
end
section
namespace Go.Sx
open Go.RowKit
def NH (n0 id:Nat):Ob->SV
 | .row k l=>bif Nat.ble n0 id then .rs k l else .any|_=>.any
def isV:SV->Bool
 | .v _=>true|_=>false
def zp (n0:Nat)(h:List Ob):SV->SV
 | .v x=>.v x| .rs k l=>.rs k l| .agg l=>bif l.all isV then .agg l else .any| .os id=>NH n0 id (ar h id)|_=>.any
def Hg (n0:Nat)(h:List Ob):SV->SV
 | .tup l=>.tup (l.map (zp n0 h))|s=>zp n0 h s
def D5 (n0:Nat)(own:Own):Own:=fun i=>if i<n0 then own i else none
section
variable {F:Nat->Prop}{own:Own}{w:World}{n0:Nat}{h:List Ob}
theorem Ch {b:Nat}(hb:¬cm F own b):¬cm F (D5 n0 own) b:=by
 rintro (hf| ⟨id,hd,e,hm⟩);exact hb (.inl hf);unfold D5 at e;split at e
 exact hb (.inr ⟨id,hd,e,hm⟩);cases e
theorem Ci (hp:Hp F own w h):∀ (s:SV) (v:Value),Rel F own w s v->Rel F (D5 n0 own) w (zp n0 h s) v:=by
 intro s v hr;cases s with
 |v x=>exact hr.over (.v x) fun b hb=>Ch hb
 |rs k l=>exact hr.over .rs fun b hb=>Ch hb
 |agg l=>
  simp only[zp];cases ha:l.all isV with
  |false=>exact .any _
  |true=>
   refine hr.over (.agg fun j s hj=>?_) fun b hb=>Ch hb;have:=aiL.1 ha s (aiw hj);cases s <;>first|exact .v _|cases this
 |os id=>
  obtain⟨hd,h1,rfl,h2⟩:=jo hr;simp only[zp];cases ho:ar h id with
  |row k l=>
   simp only[NH];cases hn:Nat.ble n0 id with
   |false=>exact .any _
   |true=>
    have hn':=nbl hn;obtain⟨hd',e0,e⟩:=hp.at ho rfl;rw[h1]at e0;cases e0;have hnb:∀ b∈hd.bs,¬cm F (D5 n0 own) b:=by
     rintro b hb (hf| ⟨i,hi,e1,e2⟩);exact hp.apart id hd b h1 hb hf;unfold D5 at e1;split at e1
     rename_i hlt;have:=hp.inj id i hd hi b h1 e1 hb e2;omega;cases e1
    rcases e with⟨a,e1,rfl,_⟩ | ⟨b,o,cap,cs,ty,e1,e2,h3,h4,h5,h6,h7⟩;rw[e1];exact .rs0;rw[e1];refine .rs (fun i j=>cs.getD (o+i*ae k+j) undef) h5 h6 (fun i x hi j s hj=>?_) (fun i x hi j s hj=>?_);obtain⟨u,k1,k2⟩:=h7 i x hi j s hj;refine⟨hnb b (by simp[e2]),?_⟩;rw[ez h3,k1];simp_all;obtain⟨u,k1,k2⟩:=h7 i x hi j s hj;have:cs.getD (o+i*ae k+j) undef=u:=by simp_all
    rw[this];exact k2.over (sO hj) fun b hb=>Ch hb
  |_=>exact .any _
 |_=>exact .any _
theorem Ut (hp:Hp F own w h)(s:SV)(v:Value)(hr:Rel F own w s v):Rel F (D5 n0 own) w (Hg n0 h s) v:=by
 cases s with
 |tup l=>
  cases hr with
  |tup h0 h1=>
   refine .tup (by grind) fun j s hj=>?_;obtain⟨x,hx,rfl⟩:=iW hj;exact Ci hp x _ (h1 j x hx)
 |_=>exact Ci hp _ _ hr
theorem Ps (s:SV):PF (zp n0 h s):=by
 cases s with
 |agg l=>
  simp only[zp];cases ha:l.all isV with
  |false=>exact .any
  |true=>
   refine .agg fun j s hj=>?_;have:=aiL.1 ha s (aiw hj);cases s <;>first|exact .v _|cases this
 |os id=>
  simp only[zp];cases ar h id with
  |row k l=>simp only[NH];cases Nat.ble n0 id <;>first|exact .any|exact .rs
  |_=>exact .any
 |v x=>exact .v x|rs k l=>exact .rs|_=>exact .any
@[go_sem] theorem afe {l:List SV}:Hg n0 h (.tup l)=.tup (l.map (zp n0 h)):=(rfl)
@[go_sem] theorem aha {id:Nat}:Hg n0 h (.os id)=NH n0 id (ar h id):=(rfl)
@[go_sem] theorem aii {x:Value}:Hg n0 h (.v x)=.v x:=(rfl)
@[go_sem] theorem ahb {k:Tag}{l:List k.T}:Hg n0 h (.rs k l)=.rs k l:=(rfl)
@[go_sem] theorem aff {l:List SV}:Hg n0 h (.agg l)=bif l.all isV then .agg l else .any:=(rfl)
@[go_sem] theorem aij {x:Value}:zp n0 h (.v x)=.v x:=(rfl)
@[go_sem] theorem ahc {k:Tag}{l:List k.T}:zp n0 h (.rs k l)=.rs k l:=(rfl)
@[go_sem] theorem afg {l:List SV}:zp n0 h (.agg l)=bif l.all isV then .agg l else .any:=(rfl)
@[go_sem] theorem ahd {id:Nat}:zp n0 h (.os id)=NH n0 id (ar h id):=(rfl)
@[go_sem] theorem afh {k:Tag}{l:List k.T}{id:Nat}:NH n0 id (.row k l)=bif Nat.ble n0 id then .rs k l else .any:=(rfl)
@[go_sem] theorem isV_v {x:Value}:isV (.v x)=true:=(rfl)
end
def Uu (pks:List Pk)(n0:Nat)(S:SV)(H:List Ob)(h:List Ob):Option SV->Prop
 |some s=>S=we pks (Hg n0 h s)/\ka ⟨[],H⟩ n0 ⟨[],h⟩|none=>False
def YN (pks:List Pk)(n0:Nat)(rs:List ResultVar)(ts:Tis)(S:SV)(H:List Ob):Ex->St->Prop
 | .exit _,_=>False| .normal,st=>Uu pks n0 S H st.h (mz (k9 ts st rs))| .ret,st=>Uu pks n0 S H st.h (mz (k9 ts st rs))| .pan _,_=>False
section
variable {P:Program}{ts:Tis}{G:Cons}{n0:Nat}{S s:SV}{H h:List Ob}{rs:List ResultVar}{st:St}{pks:List Pk}
@[go_sem] theorem ac2:Uu pks n0 S H h (some s)=(S=we pks (Hg n0 h s)/\ka ⟨[],H⟩ n0 ⟨[],h⟩):=(rfl)
@[go_sem] theorem XB:YN pks n0 rs ts S H .normal st=Uu pks n0 S H st.h (mz (k9 ts st rs)):=(rfl)
@[go_sem] theorem ac3:YN pks n0 rs ts S H .ret st=Uu pks n0 S H st.h (mz (k9 ts st rs)):=(rfl)
theorem Uv {js:List Nat}{own:Own}{F:Nat->Prop}{b:Nat}(hk:AJ 0 js n0=true)(hl:H.length=n0)(hb:¬cm F (D5 n0 own) b):¬cm F (i9 js H own) b:=by
 rintro (hf| ⟨k,hd,e,hm⟩);exact hb (.inl hf);obtain⟨h1,j,hd0,e1,e2,_,e4⟩:=jx e;obtain⟨_,rfl⟩:=e4 b hm;have hj:=AS js 0 n0 hk k j e1 (by omega);have hjk:j=k:=by omega
 subst hjk;refine hb (.inr ⟨j,hd,?_,hm⟩);unfold D5;grind
end
def Hh (n0:Nat)(h:List Ob):SV->SV
 | .agg l=>.agg (l.map (zp n0 h))|s=>zp n0 h s
def Hi (n0:Nat)(h:List Ob):SV->SV
 | .tup l=>.tup (l.map (Hh n0 h))|s=>Hh n0 h s
section
variable {F:Nat->Prop}{own:Own}{w:World}{n0:Nat}{h:List Ob}
theorem LS (hp:Hp F own w h)(s:SV)(v:Value)(hr:Rel F own w s v):Rel F (D5 n0 own) w (Hh n0 h s) v:=by
 cases s with
 |agg l=>
  cases hr with
  |agg h0 h1=>
   refine .agg (by grind) fun j s hj=>?_;obtain⟨x,hx,rfl⟩:=iW hj;exact Ci hp x _ (h1 j x hx)
 |_=>exact Ci hp _ _ hr
theorem LU (hp:Hp F own w h)(s:SV)(v:Value)(hr:Rel F own w s v):Rel F (D5 n0 own) w (Hi n0 h s) v:=by
 cases s with
 |tup l=>
  cases hr with
  |tup h0 h1=>
   refine .tup (by grind) fun j s hj=>?_;obtain⟨x,hx,rfl⟩:=iW hj;exact LS hp x _ (h1 j x hx)
 |_=>exact LS hp _ _ hr
theorem Pt (s:SV):PF (Hh n0 h s):=by
 cases s
 case agg l=>exact .agg fun j s hj=>by obtain⟨x,hx,rfl⟩:=iW hj;exact Ps x
 all_goals (unfold Hh;exact Ps _)
theorem XC (s:SV):PF (Hi n0 h s):=by
 cases s
 case tup l=>exact .tup fun j s hj=>by obtain⟨x,hx,rfl⟩:=iW hj;exact Pt x
 all_goals (unfold Hi;exact Pt _)
@[go_sem] theorem afi {l:List SV}:Hi n0 h (.tup l)=.tup (l.map (Hh n0 h)):=(rfl)
@[go_sem] theorem afj {l:List SV}:Hi n0 h (.agg l)=.agg (l.map (zp n0 h)):=(rfl)
@[go_sem] theorem aik {x:Value}:Hi n0 h (.v x)=.v x:=(rfl)
@[go_sem] theorem afk {l:List SV}:Hh n0 h (.agg l)=.agg (l.map (zp n0 h)):=(rfl)
@[go_sem] theorem ail {x:Value}:Hh n0 h (.v x)=.v x:=(rfl)
@[go_sem] theorem ahe {k:Tag}{l:List k.T}:Hh n0 h (.rs k l)=.rs k l:=(rfl)
@[go_sem] theorem ahf {id:Nat}:Hh n0 h (.os id)=NH n0 id (ar h id):=(rfl)
end
def JV (pks:List Pk)(n0:Nat)(S:SV)(H:List Ob)(h:List Ob):Option SV->Prop
 |some s=>S=we pks (Hi n0 h s)/\ka ⟨[],H⟩ n0 ⟨[],h⟩|none=>False
def Pu (pks:List Pk)(n0:Nat)(rs:List ResultVar)(ts:Tis)(S:SV)(H:List Ob)(id:Nat)(st:St):Option SV->Prop
 |some s=>G0 (ar st.h id)/\nM st.h=false/\JV pks n0 S H (bM st.h id (.cells [s])) (mz (k9 ts ⟨st.t,bM st.h id (.cells [s])⟩ rs))|none=>False
def Pv (RC:Value->Option SV)(pks:List Pk)(n0:Nat)(rs:List ResultVar)(ts:Tis)(S:SV)(H:List Ob)(id:Nat):Ex->St->Prop
 | .exit _,_=>False| .normal,st=>JV pks n0 S H st.h (mz (k9 ts st rs))| .ret,st=>JV pks n0 S H st.h (mz (k9 ts st rs))| .pan x,st=>Pu pks n0 rs ts S H id st (RC x)
section
variable {RC:Value->Option SV}{pks:List Pk}{n0:Nat}{rs:List ResultVar}{ts:Tis}{S s:SV}{H h:List Ob}{id:Nat}{st:St}{x:Value}
@[go_sem] theorem ac4:JV pks n0 S H h (some s)=(S=we pks (Hi n0 h s)/\ka ⟨[],H⟩ n0 ⟨[],h⟩):=(rfl)
@[go_sem] theorem aaN:Pu pks n0 rs ts S H id st (some s)=(G0 (ar st.h id)/\nM st.h=false/\JV pks n0 S H (bM st.h id (.cells [s])) (mz (k9 ts ⟨st.t,bM st.h id (.cells [s])⟩ rs))):=(rfl)
@[go_sem] theorem XD:Pv RC pks n0 rs ts S H id .normal st=JV pks n0 S H st.h (mz (k9 ts st rs)):=(rfl)
@[go_sem] theorem ac5:Pv RC pks n0 rs ts S H id .ret st=JV pks n0 S H st.h (mz (k9 ts st rs)):=(rfl)
@[go_sem] theorem ac6:Pv RC pks n0 rs ts S H id (.pan x) st=Pu pks n0 rs ts S H id st (RC x):=(rfl)
end
section
variable {P:Program}{ts:Tis}{G:Cons}
theorem Uw {g:FuncId}{RC:Value->Option SV}(hrec:Lg P g RC)(pks:List Pk)(hm:P.follows .mixedOrders=true)(hts:ts.ok P)(hG:ConsOk P G){f:FuncId}{fn:Func}{c0 c1:Code}{i1 q:Nat}{o1:Oper}{tys:Array TypeId}
  (hf:P.funcs[f]? =some fn) (hb:fn.body=some (.seq c0 (.seq (.region i1 #[o1] false) c1))) (hname:(fn.name== "runtime.NumGoroutine")=false)
  (ho1:o1.dst=none/\o1.op=.defer ⟨.value (.func g),#[.tmp q],tys⟩/\o1.guard=none)
  (hc0:cD fn.ntmps c0=true) (hc1:cD fn.ntmps c1=true) {C:List SV->List Ob->Option HCon}
  (h:∀ l o con,C l o=some con->∃ p S H,con=jF p S H/\H.length=o.length/\(p->l.length<=fn.ntmps/\∃ L L' id,ap P none fn.ntmps L c0/\ap P none fn.ntmps L' c1/\exec ts G L c0 ⟨nN 0 l,o⟩ (fun e st=>e=.normal/\lk q st.t=.ptr id 0/\G0 (ar st.h id)/\
   exec ts G L' c1 ⟨st.t,st.h⟩ (Pv RC pks o.length fn.results.toList ts S H id)))):FnOkO P f C:=by
 refine⟨fun l o con _ args w=>?_,fun l o con hcon hpre F own w vs hp0 hvs=>?_⟩;simp_all [callFunc]
 ·obtain⟨p,S,H,rfl,hH,h2⟩:=h l o con hcon;obtain⟨hlen,L,L',id,hl,hl',hx⟩:=h2 hpre;have hn0:∀ id hd,own id=some hd->id<o.length:=fun id hd e=>hp0.dom id hd e;refine pW (n:=0) (callsIn_of_wp_marks hf hb trivial ?_);have hr:StRel F { w:=w,own:=own} fn.ntmps own ⟨nN 0 l,o⟩ { tmps:=vs++Array.replicate (fn.ntmps - vs.size) undef,defers:=[]} w:=
   ⟨by have:=hvs.1;simp;omega,Dfr.nil,hp0,Fr.refl { w:=w,own:=own},fun t=>nR hvs _ t⟩
  refine wpIn_seq (wpIn_mono (oK hm hts hG c0 hc0 hl F _ _ hx own _ w hr) ?_);intro e a1 w1 hq;cases e with
  |normal=>
   obtain⟨F1,own1,st1,hF1,hst1,_,hlk,_,hx1⟩:=hq;have hsq:=hst1.slots q;rw[hlk]at hsq;generalize hv:a1.tmps.getD q undef=pv at hsq;cases hsq with
   | @ptr _ _ b hd ho hp=>
   show(Code.seq (.region i1 #[o1] false) c1).wpIn (rd none) 0 P _ a1 w1;have hsz:=hst1.size;refine wpIn_seq (Au ho1 hv ?_);show c1.wpIn (rd none) 0 P _ _ w1;obtain⟨ms,Ds,k0,k1,k2,k3⟩:=hst1.defers;have k0':a1.defers=ms:=by grind
   let d:Deferred:= { target:=.fn (.func g) #[],args:= #[.pointer (some ⟨b,0,none⟩)]}
   let B:Bs:= { w:=w1,own:=own1,ds:=d::a1.defers}
   have hr2:StRel F1 B fn.ntmps own1 ⟨st1.t,st1.h⟩ { tmps:=a1.tmps,defers:=d::a1.defers} w1:=by
    exact⟨hsz,Dfr.nil,hst1.hp,Fr.refl B,hst1.slots⟩
   have hbd:∀ D∈Ds,¬ ∃ id hd,own1 id=some hd/\D∈hd.bs:=fun D hD ⟨i,hd,e,hm⟩ =>hst1.hp.apart i hd D e hm (k3 D hD).2.1;have fin:∀ F2 own2 st2 (a2:Act) w2,(∀ b,F1 b->F2 b)->StRel F2 B fn.ntmps own2 st2 a2 w2->JV pks o.length S H st2.h (mz (k9 ts st2 fn.results.toList))->
     LeavesInM (rd none) 0 P fn a2.tmps (fun e w'=>∃ r own',(jF p S H).post r/\Ji F w own o.length e own' w' ((jF p S H).res r)) a1.defers .returning w2:=by
    intro F2 own2 st2 a2 w2 hF2 hst2 hdone;have hB:StRel F2 { w:=w,own:=own} fn.ntmps own2 st2 { a2 with defers:=[]} w2:=⟨hst2.size,Dfr.nil,hst2.hp,hst1.fr.trans ⟨hst2.fr.ids,hst2.fr.base,hst2.fr.os,hst2.fr.tape,hst2.fr.output,hst2.fr.size,hst2.fr.block⟩,hst2.slots⟩;have hkeep:∀ D∈Ds,w2.heap[D]? =some (.deferred (some [])):=fun D hD=>by
     rw[hst2.fr.block D ⟨qC (k3 D hD).2.2,hbd D hD⟩];grind
    rw[k0',<-aiQ ms];refine wT (by simp) Ds ms w2 k1 k2 hkeep fun w4 hs=>?_;have hst4:=(hB.shut (Ds:=Ds) (fun D hD=>⟨(k3 D hD).1,hF2 D (k3 D hD).2.1,hkeep D hD⟩) hs).less (fun c hc=>hF2 c (hF1 c hc)) rfl;cases hres:mz (k9 ts st2 fn.results.toList)with
    |none=>rw[hres]at hdone;exact hdone.elim
    |some s=>
     obtain⟨u,e1,e2⟩:=xK (P:=P) hts hst4 hres;rw[hres]at hdone;obtain⟨hS,js,q3,q4⟩:=hdone;obtain⟨k1,k2,_,_⟩:=Fz q4 hst4.hp hst4.fr hn0 q3;refine⟨u,e1,(),i9 js H own2,trivial,⟨u,rfl,?_⟩,k1,k2,q3⟩;subst hS;exact BJ ((LU hst4.hp s u e2).over (XC s) fun b hb=>Uv q4.1.2.1 hH hb)
   have hinv:∀ w2:World,(invoke (.fn (.func g) #[]) #[.pointer (some ⟨b,0,none⟩)]).run P w2=.ok (.enter g #[.pointer (some ⟨b,0,none⟩)]) w2:=fun w2=>by simp[invoke,go_sem,hrec.1]
   refine wpIn_mono (oK hm hts hG c1 hc1 hl' F1 _ _ hx1 own1 _ w1 hr2) ?_;have idle:∀ (a':Act) (w':World) F2 own2 st2,(∀ b,F1 b->F2 b)->StRel F2 B fn.ntmps own2 st2 a' w'->JV pks o.length S H st2.h (mz (k9 ts st2 fn.results.toList))->
     LeavesInM (rd none) 0 P fn a'.tmps (fun e w'=>∃ r own',(jF p S H).post r/\Ji F w own o.length e own' w' ((jF p S H).res r)) a'.defers .returning w':=by
    intro a' w' F2 own2 st2 hF2 hst2 hdone;refine j_ hst2 (by simp) fun w2 hst3=>?_;refine⟨by simp,.inr ⟨fun h=>(by cases h),.func g,#[],g,#[.pointer (some ⟨b,0,none⟩)],rfl,hinv w2,fun _ _=>trivial,?_⟩⟩;refine(hrec.2.1 ⟨b,0,none⟩ w2).mono ?_;rintro e u' w3 ⟨⟨v,rfl⟩,rfl,rfl⟩;exact fin F2 own2 st2 { a' with defers:=B.ds} _ hF2 hst3 hdone
   intro e a' w' hq;cases e with
   |normal=>obtain⟨F2,own2,st2,h0,h1,h2⟩:=hq;exact idle a' w' F2 own2 st2 h0 h1 h2
   |ret=>obtain⟨F2,own2,st2,h0,h1,h2⟩:=hq;exact idle a' w' F2 own2 st2 h0 h1 h2
   |exit jd=>obtain⟨F2,own2,st2,h0,h1,h2⟩:=hq;exact h2.elim
   |panic ch=>
    obtain⟨x,F2,own2,st2,h0,h1,hm,rfl⟩:=hq;change Pu pks o.length fn.results.toList ts S H id st2 (RC x)at hm;cases m1:RC x with
    |none=>rw[m1]at hm;exact hm.elim
    |some s=>
    rw[m1]at hm;obtain⟨hm2,m4,m3⟩:=hm;obtain⟨y,m2⟩:=FI hm2;refine j_ h1 (by simp) fun w2 hst3=>?_;refine⟨by simp,.inr ⟨fun h=>(by cases h),.func g,#[],g,#[.pointer (some ⟨b,0,none⟩)],rfl,hinv w2,fun _ _=>trivial,?_⟩⟩;obtain⟨hd2,e2,l2⟩:=hst3.fr.ids id hd ho;refine(hrec.2.2 x s m1 F2 own2 w2 st2.h id hd2 b y m4 hst3.hp m2 e2 (l2.1.trans hp)).mono ?_;rintro e u' w3 ⟨⟨v,rfl⟩,rfl,own3,q1,q2⟩;exact fin F2 own3 ⟨st2.t,_⟩ { a' with defers:=B.ds} w3 h0 (hst3.moved q1 q2) m3
   |_=>exact hq.elim
  |ret=>obtain⟨F1,own,st,h0,h1,h2,_⟩:=hq;cases h2
  |exit jd=>obtain⟨F1,own,st,h0,h1,h2,_⟩:=hq;cases h2
  |panic ch=>obtain⟨x,F1,own,st,h0,h1,⟨h2,_⟩,_⟩:=hq;cases h2
  |_=>exact hq.elim
end
end Go.Sx
end
section
namespace Go.Sx
open Go.Proofs
open IntKind (i64)
theorem Gr {l0 l1 l2 l3:List Nat}(a0:JL l0)(a1:JL l1)(a2:JL l2)(a3:JL l3){p:Prop}(h:JL l0->JL l1->JL l2->JL l3->p:=by intro ja jb jc jd;(first|done|(repeat' (first|with_reducible refine And.intro ?_ ?_|((with_reducible show _≠_);first|assumption|omega|(simp_all [cy,fK];done) |grind) |with_reducible intro _)) <;>(first|done|with_reducible exact Empty.elim ‹Empty› |with_reducible assumption|rfl|omega|assumption|decide|exact fk ja|exact fk jb|exact fk jc|exact fk jd|exact czl|(simp only[*,cond_true,cond_false,aiP,aiY,go_sem,Nat.reduceBEq,Nat.reduceLeDiff,Nat.reduceLT,decide_true,Nat.reduceAdd,Nat.reduceSub,Nat.reduceMul,Int.reduceLE,Int.reduceLT,Int.reduceToNat,Int.reduceNeg,reduceCtorEq];(repeat' (first|with_reducible refine And.intro ?_ ?_|((with_reducible show _≠_);first|assumption|omega|(simp_all [cy,fK];done) |grind) |with_reducible intro _)) <;>(first|done|assumption|rfl|omega|decide|exact fk ja|exact fk jb|exact fk jc|exact fk jd|(simp_all [cy,fK];done))) |(simp_all [okI,cy,fK];done) |(simp_all [cy,fK];(first|done|exact fk2 ja|exact fk2 jb|exact fk2 jc|exact fk2 jd)) |exact fk2 ja|exact fk2 jb|exact fk2 jc|exact fk2 jd))):p:=h a0 a1 a2 a3
@[go_sem] noncomputable def Pw:List SV->Option Con:=(pR .case fun l=>(pE (.det True (.rc .case l))))
theorem Ux:FnOk Tryz.prog 65 Pw:=by
 have hG:ConsOk Tryz.prog (mkG [] []):=av cg0 cg0;refine Jt true mixed am hG (fn:=Tryz.f65) (c:=aa Tryz.f65) kr kr kr kr (bB fun l=>(aj (fun hp=>?_)));dsimp only[aw]at hp;refine⟨nbl rfl,L0,ag _,?_⟩;unfold aa Tryz.f65;exact zq1
@[go_sem] def nc (sides:List Int)(a1:Suit)(k_0:Nat)(s_0:List Int):Empty⊕(List Int):=(bif((sides.getD (Int.toNat (a1.facts.getD k_0 0)) 0) ==1)then .inr (s_0++([(a1.facts.getD k_0 0)]))else .inr s_0)
def gF (sides:List Int)(a1:Suit)(k_0:Nat)(s_0:List Int):Prop:=((0<=(a1.facts.getD k_0 0)/\(a1.facts.getD k_0 0) < (sides.length:Int))/\(((sides.getD (Int.toNat (a1.facts.getD k_0 0)) 0) ==1)=true->((s_0++([(a1.facts.getD k_0 0)])).length*8<=di)))
@[go_sem] def nf (sides:List Int)(a1:Suit)(k_1:Nat)(s_1:List Int):Empty⊕(List Int):=(bif((sides.getD (Int.toNat (a1.facts.getD k_1 0)) 0) ==0)then .inr (s_1++([(a1.facts.getD k_1 0)]))else .inr s_1)
def gG (sides:List Int)(a1:Suit)(k_1:Nat)(s_1:List Int):Prop:=((0<=(a1.facts.getD k_1 0)/\(a1.facts.getD k_1 0) < (sides.length:Int))/\(((sides.getD (Int.toNat (a1.facts.getD k_1 0)) 0) ==0)=true->((s_1++([(a1.facts.getD k_1 0)])).length*8<=di)))
@[go_sem] def nh (sides:List Int)(a1:Suit)(k_2:Nat)(s_2:List Int):Empty⊕(List Int):=(bif((sides.getD (Int.toNat (a1.facts.getD k_2 0)) 0) ==1)then .inr (s_2++([(a1.facts.getD k_2 0)]))else .inr s_2)
def gH (sides:List Int)(a1:Suit)(k_2:Nat)(s_2:List Int):Prop:=((0<=(a1.facts.getD k_2 0)/\(a1.facts.getD k_2 0) < (sides.length:Int))/\(((sides.getD (Int.toNat (a1.facts.getD k_2 0)) 0) ==1)=true->((s_2++([(a1.facts.getD k_2 0)])).length*8<=di)))
@[go_sem] def ni (sides:List Int)(a1:Suit)(k_3:Nat)(s_3:List Int):Empty⊕(List Int):=(bif((sides.getD (Int.toNat (a1.facts.getD k_3 0)) 0) ==0)then .inr (s_3++([(a1.facts.getD k_3 0)]))else .inr s_3)
def gI (sides:List Int)(a1:Suit)(k_3:Nat)(s_3:List Int):Prop:=((0<=(a1.facts.getD k_3 0)/\(a1.facts.getD k_3 0) < (sides.length:Int))/\(((sides.getD (Int.toNat (a1.facts.getD k_3 0)) 0) ==0)=true->((s_3++([(a1.facts.getD k_3 0)])).length*8<=di)))
def bH (sides:List Int)(a1:Suit)(cs:List Case):Case×Int:=letI q0:=({ sides:=sides,cases:=cs}:Cases);letI q1:=ju a1.plea a1.question;letI q2:=aW q0 a1.facts 0;letI q3:=cs.getD (Int.toNat (i64.wrap ((cs.length:Int) - 1))) default;letI q4:=aW q0 a1.facts 1;letI q5:=gC q0;letI q6:=kB a1.plea;(bif(q5 !=0)then(({ no:=0,hour:=0,winner:=0,facts:=[],reason:=[]}:Case),q5)else(bif(q6 !=0)then(({ no:=0,hour:=0,winner:=0,facts:=[],reason:=[]}:Case),q6)else(bif(az (q1.2==0) (q1.2))then(bif(az (q2.2.2==0) (q2.2.2))then(bif(az ((aV a1.no 0 1048576)&&(aV a1.hour 0 4096)) 520)then(bif(decide ((cs.length:Int) > 0))then(bif(az ((decide (a1.no > q3.no))&&(decide (a1.hour>=q3.hour))) 520)then(bif((!q2.2.1)&&(q4.2.1||(q1.1 !=1)))then(match aq (nc sides a1) a1.facts.length 0 ([])with| .inl x=>x.elim| .inr s_0=>(({ no:=a1.no,hour:=a1.hour,winner:=1,facts:=a1.facts,reason:=s_0}:Case),0))else(match aq (nf sides a1) a1.facts.length 0 ([])with| .inl x=>x.elim| .inr s_1=>(({ no:=a1.no,hour:=a1.hour,winner:=0,facts:=a1.facts,reason:=s_1}:Case),0)))else(({ no:=0,hour:=0,winner:=0,facts:=[],reason:=[]}:Case),520))else(bif((!q2.2.1)&&(q4.2.1||(q1.1 !=1)))then(match aq (nh sides a1) a1.facts.length 0 ([])with| .inl x=>x.elim| .inr s_2=>(({ no:=a1.no,hour:=a1.hour,winner:=1,facts:=a1.facts,reason:=s_2}:Case),0))else(match aq (ni sides a1) a1.facts.length 0 ([])with| .inl x=>x.elim| .inr s_3=>(({ no:=a1.no,hour:=a1.hour,winner:=0,facts:=a1.facts,reason:=s_3}:Case),0))))else(({ no:=0,hour:=0,winner:=0,facts:=[],reason:=[]}:Case),520))else(({ no:=0,hour:=0,winner:=0,facts:=[],reason:=[]}:Case),(q2.2.2)))else(({ no:=0,hour:=0,winner:=0,facts:=[],reason:=[]}:Case),(q1.2)))))
def dC (sides:List Int)(a1:Suit)(cs:List Case):Prop:=letI q0:=({ sides:=sides,cases:=cs}:Cases);letI q2:=ju a1.plea a1.question;letI q3:=aW q0 a1.facts 0;letI q4:=aW q0 a1.facts 1;letI q5:=(cs.length:Int);letI q1:=i64.wrap (q5 - 1);letI q6:=cs.getD (Int.toNat q1) default;letI q7:=q2.1 !=1;letI q8:=decide (a1.no > q6.no);((gw q0)/\(((gC q0) !=0)=false->((kJ a1.plea)/\(((kB a1.plea) !=0)=false->((lH a1.plea a1.question)/\((az (q2.2==0) (q2.2))=true->((fD q0 a1.facts 0)/\((az (q3.2.2==0) (q3.2.2))=true->((fD q0 a1.facts 1)/\((az ((aV a1.no 0 1048576)&&(aV a1.hour 0 4096)) 520)=true->(cs.length<=aI->(((decide (q5 > 0))=true->((0<=q1/\q1<q5)/\((q8=true->(0<=q1/\q1<q5))/\((az (q8&&(decide (a1.hour>=q6.hour))) 520)=true->((((!q3.2.1)&&(q4.2.1||q7))=true->(a1.facts.length<=aI->okI (nc sides a1) (gF sides a1) a1.facts.length 0 ([])))/\(((!q3.2.1)&&(q4.2.1||q7))=false->(a1.facts.length<=aI->okI (nf sides a1) (gG sides a1) a1.facts.length 0 ([]))))))))/\((decide (q5 > 0))=false->((((!q3.2.1)&&(q4.2.1||q7))=true->(a1.facts.length<=aI->okI (nh sides a1) (gH sides a1) a1.facts.length 0 ([])))/\(((!q3.2.1)&&(q4.2.1||q7))=false->(a1.facts.length<=aI->okI (ni sides a1) (gI sides a1) a1.facts.length 0 ([])))))))))))))))))
noncomputable def ox:List SV->List Ob->Option HCon:=r7 (fun x_:(List Int)×Suit×(List Case) =>[.agg [.rs .int x_.1,.os 0],.agg (cellsOf .suit x_.2.1)]) (fun x_=>[.row .case x_.2.2]) (fun x_=>jF (dC x_.1 x_.2.1 x_.2.2) (.tup [.agg (cellsOf .case ((bH x_.1 x_.2.1 x_.2.2).1)),.v (.int .i64 ((bH x_.1 x_.2.1 x_.2.2).2))]) [.row .case x_.2.2])
@[go_sem] theorem Io (sides:List Int)(a1:Suit)(cs:List Case):ox ([.agg [.rs .int sides,.os 0],.agg [.v (.int .i64 a1.no),.v (.int .i64 a1.hour),.v (.int .i64 a1.question),.rs .int a1.plea.facts,.rs .clause a1.plea.clauses,.rs .int a1.facts]]) ([.row .case cs])=some (jF (dC sides a1 cs) (.tup [.agg (cellsOf .case ((bH sides a1 cs).1)),.v (.int .i64 ((bH sides a1 cs).2))]) [.row .case cs]):=oS (A:=fun x_:(List Int)×Suit×(List Case) =>[.agg [.rs .int x_.1,.os 0],.agg (cellsOf .suit x_.2.1)]) (H:=fun x_=>[.row .case x_.2.2]) (K:=fun x_=>jF (dC x_.1 x_.2.1 x_.2.2) (.tup [.agg (cellsOf .case ((bH x_.1 x_.2.1 x_.2.2).1)),.v (.int .i64 ((bH x_.1 x_.2.1 x_.2.2).2))]) [.row .case x_.2.2]) (x:=(sides,a1,cs))
theorem Px {l0:List Nat}(a0:JL l0){p:Prop}(h:JL l0->p:=by intro ja;simp only[go_sem,Nat.reduceBEq,Nat.reduceLeDiff,Nat.reduceLT,decide_true,Nat.reduceAdd,Nat.reduceSub,Nat.reduceMul,Int.reduceLE,Int.reduceLT,Int.reduceToNat,Int.reduceNeg,reduceCtorEq,hs0,hs1,rT,pY,RCJ];all_goals exact ke ja):p:=h a0
theorem yr:FnOkO Tryz.prog 24 ox:=by
 have hG:ConsOk Tryz.prog (mkG [(34,fun l=>qb (bD [.st .cases,.sl .int,.o] l)),(35,fun l=>u9 (bD [.st .plea,.o] l)),(52,g6),(58,lm),(64,fun l=>mc (bD [.st .cases] l)),(67,fun l=>sF (bD [.st .plea] l))] []):=av (cgc (tO.norm [.st .cases,.sl .int,.o]) (cgc (yh.norm [.st .plea,.o]) (cgc je (cgc nk (cgc (pf.norm [.st .cases]) (cgc (u4.norm [.st .plea]) cg0)))))) cg0;refine Uw JA [.st .case,.o] mixed am hG (fn:=Tryz.f24) (c0:=rT (aa Tryz.f24)) (c1:=pY (pY (aa Tryz.f24))) (i1:=Wp (rT (pY (aa Tryz.f24)))) (o1:=SY 0 (rT (pY (aa Tryz.f24)))) (q:=5) (tys:= #[104]) kr kr kr (by refine⟨?_,?_,?_⟩ <;>kernel_rfl) kr kr fun l o con h=>?_;obtain⟨⟨sides,a1,cs⟩,rfl,rfl,rfl⟩:=mb h;clear h;try dsimp only
 refine⟨_,_,_,rfl,rfl,fun hp=>?_⟩;unfold dC at hp;rcases ai0 (decide ((cs.length:Int) > 0))with hs0|hs0 <;>rcases ai0 ((!(aW ({ sides:=sides,cases:=cs}:Cases) a1.facts 0).2.1)&&((aW ({ sides:=sides,cases:=cs}:Cases) a1.facts 1).2.1||((ju a1.plea a1.question).1 !=1)))with hs1|hs1
 ·have hsp:True:=trivial;refine⟨nbl rfl,L0,(fun id st=>bif Nat.beq id 0 then some (LCR (ρ:=Empty) (σ:=(List Int)) 5 [.cell 3 4 (.row .int ([]))] [0,1,2,3,4,5] (fun k_0 s_0=>⟨[(2,.ptr 1 0),(4,.ptr 3 0),(5,.ptr 4 0),(115,.rs .int a1.facts),(116,.v (.int .i64 (a1.facts.length:Int))),(117,.v (.int .i64 (k_0:Int)))],[.row .case cs,.cells [.rs .int sides,.os 0],.dead,.cells [.v (.int .i64 a1.no),.v (.int .i64 a1.hour),.v (.int .i64 1),.rs .int a1.facts,.os 5],.cells [.v (.int .i64 ((aW ({ sides:=sides,cases:=cs}:Cases) a1.facts 0).2.2))],.row .int s_0]⟩) (nc sides a1) (gF sides a1) a1.facts.length ([]) (a1.facts.length<=aI) ((·.elim)) ((·.elim)) st)else none),4,?_,?_,?_⟩;unfold aa Tryz.f24;simp only[rT,ap,and_self,true_and,and_true];unfold aa Tryz.f24;simp only[pY];simp only[ap,true_and,and_true];refine a8 mixed am hG kr (fun _=>rfl) (a1.facts.length:Int) rfl iB (fun hb0 k_0 s_0 hlt0 hq0 hw hc=>⟨L0,ag _,?_⟩) (fun hb0 s_0 hc=>?_);unfold gF at hq0;try simp only[hw,air]at hq0
  exact qV (jl [0,1,2,3,4,7]) (jl [0,1,2,3,4,5]);exact px (jl [0,1,2,3,4,7]) (jl [0,1,2,3,4,5]);unfold aa Tryz.f24;try unfold bH
  exact Px (jl [0])
 ·have hsp:True:=trivial;refine⟨nbl rfl,L0,(fun id st=>bif Nat.beq id 0 then some (LCR (ρ:=Empty) (σ:=(List Int)) 5 [.cell 3 4 (.row .int ([]))] [0,1,2,3,4,5] (fun k_1 s_1=>⟨[(2,.ptr 1 0),(4,.ptr 3 0),(5,.ptr 4 0),(115,.rs .int a1.facts),(116,.v (.int .i64 (a1.facts.length:Int))),(117,.v (.int .i64 (k_1:Int)))],[.row .case cs,.cells [.rs .int sides,.os 0],.dead,.cells [.v (.int .i64 a1.no),.v (.int .i64 a1.hour),.v (.int .i64 0),.rs .int a1.facts,.os 5],.cells [.v (.int .i64 ((aW ({ sides:=sides,cases:=cs}:Cases) a1.facts 0).2.2))],.row .int s_1]⟩) (nf sides a1) (gG sides a1) a1.facts.length ([]) (a1.facts.length<=aI) ((·.elim)) ((·.elim)) st)else none),4,?_,?_,?_⟩;unfold aa Tryz.f24;simp only[rT,ap,and_self,true_and,and_true];unfold aa Tryz.f24;simp only[pY];simp only[ap,true_and,and_true];refine a8 mixed am hG kr (fun _=>rfl) (a1.facts.length:Int) rfl iB (fun hb1 k_1 s_1 hlt1 hq1 hw hc=>⟨L0,ag _,?_⟩) (fun hb1 s_1 hc=>?_);unfold gG at hq1;try simp only[hw,air]at hq1
  exact qV (jl [0,1,2,3,4,7]) (jl [0,1,2,3,4,5]);exact px (jl [0,1,2,3,4,7]) (jl [0,1,2,3,4,5]);unfold aa Tryz.f24;try unfold bH
  exact Px (jl [0])
 ·have hsp:True:=trivial;refine⟨nbl rfl,L0,(fun id st=>bif Nat.beq id 0 then some (LCR (ρ:=Empty) (σ:=(List Int)) 5 [.cell 3 4 (.row .int ([]))] [0,1,2,3,4,5] (fun k_2 s_2=>⟨[(2,.ptr 1 0),(4,.ptr 3 0),(5,.ptr 4 0),(115,.rs .int a1.facts),(116,.v (.int .i64 (a1.facts.length:Int))),(117,.v (.int .i64 (k_2:Int)))],[.row .case cs,.cells [.rs .int sides,.os 0],.dead,.cells [.v (.int .i64 a1.no),.v (.int .i64 a1.hour),.v (.int .i64 1),.rs .int a1.facts,.os 5],.cells [.v (.int .i64 ((aW ({ sides:=sides,cases:=cs}:Cases) a1.facts 0).2.2))],.row .int s_2]⟩) (nh sides a1) (gH sides a1) a1.facts.length ([]) (a1.facts.length<=aI) ((·.elim)) ((·.elim)) st)else none),4,?_,?_,?_⟩;unfold aa Tryz.f24;simp only[rT,ap,and_self,true_and,and_true];unfold aa Tryz.f24;simp only[pY];simp only[ap,true_and,and_true];refine a8 mixed am hG kr (fun _=>rfl) (a1.facts.length:Int) rfl iB (fun hb2 k_2 s_2 hlt2 hq2 hw hc=>⟨L0,ag _,?_⟩) (fun hb2 s_2 hc=>?_);unfold gH at hq2;try simp only[hw,air]at hq2
  exact qV (jl [0,1,2,3,4,7]) (jl [0,1,2,3,4,5]);exact px (jl [0,1,2,3,4,7]) (jl [0,1,2,3,4,5]);unfold aa Tryz.f24;try unfold bH
  exact Px (jl [0])
 ·have hsp:True:=trivial;refine⟨nbl rfl,L0,(fun id st=>bif Nat.beq id 0 then some (LCR (ρ:=Empty) (σ:=(List Int)) 5 [.cell 3 4 (.row .int ([]))] [0,1,2,3,4,5] (fun k_3 s_3=>⟨[(2,.ptr 1 0),(4,.ptr 3 0),(5,.ptr 4 0),(115,.rs .int a1.facts),(116,.v (.int .i64 (a1.facts.length:Int))),(117,.v (.int .i64 (k_3:Int)))],[.row .case cs,.cells [.rs .int sides,.os 0],.dead,.cells [.v (.int .i64 a1.no),.v (.int .i64 a1.hour),.v (.int .i64 0),.rs .int a1.facts,.os 5],.cells [.v (.int .i64 ((aW ({ sides:=sides,cases:=cs}:Cases) a1.facts 0).2.2))],.row .int s_3]⟩) (ni sides a1) (gI sides a1) a1.facts.length ([]) (a1.facts.length<=aI) ((·.elim)) ((·.elim)) st)else none),4,?_,?_,?_⟩;unfold aa Tryz.f24;simp only[rT,ap,and_self,true_and,and_true];unfold aa Tryz.f24;simp only[pY];simp only[ap,true_and,and_true];refine a8 mixed am hG kr (fun _=>rfl) (a1.facts.length:Int) rfl iB (fun hb3 k_3 s_3 hlt3 hq3 hw hc=>⟨L0,ag _,?_⟩) (fun hb3 s_3 hc=>?_);unfold gI at hq3;try simp only[hw,air]at hq3
  exact qV (jl [0,1,2,3,4,7]) (jl [0,1,2,3,4,5]);exact px (jl [0,1,2,3,4,7]) (jl [0,1,2,3,4,5]);unfold aa Tryz.f24;try unfold bH
  exact Px (jl [0])
theorem kDec (sides:List Int)(a1:Suit)(cs:List Case):bH sides a1 cs=gE ({ sides:=sides,cases:=cs}:Cases) a1:=(rfl)
theorem aaO (sides:List Int)(a1:Suit)(cs:List Case):dC sides a1 cs=mt ({ sides:=sides,cases:=cs}:Cases) a1:=(rfl)
attribute [go_sem] Kr
@[go_sem ↓] theorem afl (x:Suit):mkE .suit [.v (.int .i64 x.no),.v (.int .i64 x.hour),.v (.int .i64 x.question),.rs .int x.plea.facts,.rs .clause x.plea.clauses,.rs .int x.facts]=x:=(rfl)
@[go_sem ↓] theorem aaP (l:List Int)(c:List Case):mkE .cases [.rs .int l,.rs .case c]=({ sides:=l,cases:=c}:Cases):=(rfl)
def pD2 {σ:Type}(A B:Nat->σ->St)(k:Nat)(s:σ):St:=bif Nat.beq k 0 then A k s else B k s
@[go_sem] theorem afm {σ:Type}{A B:Nat->σ->St}{s:σ}:pD2 A B 0 s=A 0 s:=(rfl)
@[go_sem] theorem afn {σ:Type}{A B:Nat->σ->St}{k:Nat}{s:σ}:pD2 A B (k+1) s=B (k+1) s:=(rfl)
@[go_sem] def sh (sides:List Int)(l_:List Suit)(k_0:Nat)(s_0:List Case):Int⊕(List Case):=letI q0:=bH sides (l_.getD k_0 default) s_0;letI q1:=s_0++([(q0.1)]);(bif(q0.2 !=0)then .inl (q0.2)else(bif(decide ((q1.length:Int) > 64))then .inl 2 else .inr q1))
def jO (sides:List Int)(l_:List Suit)(k_0:Nat)(s_0:List Case):Prop:=((dC sides (l_.getD k_0 default) s_0)/\(((bH sides (l_.getD k_0 default) s_0).2 !=0)=false->((s_0++([((bH sides (l_.getD k_0 default) s_0).1)])).length*72<=di)))
def sG (a0:Cases)(l_:List Suit):Cases×Int:=letI q0:=gC a0;(bif(q0 !=0)then(({ sides:=[],cases:=[]}:Cases),q0)else(match aq (sh a0.sides l_) l_.length 0 a0.cases with| .inl x_0_0=>(({ sides:=[],cases:=[]}:Cases),x_0_0) | .inr s_0=>(({ sides:=a0.sides,cases:=s_0}:Cases),0)))
def j4 (a0:Cases)(l_:List Suit):Prop:=((gw a0)/\(((gC a0) !=0)=false->(l_.length<=aI->okI (sh a0.sides l_) (jO a0.sides l_) l_.length 0 a0.cases)))
@[go_sem] def yi:List SV->Option Con:=(pD .cases fun a0=>(pR .suit fun l_=>(pE (.det (j4 a0 l_) (.tup [.agg (cellsOf .cases ((sG a0 l_).1)),.v (.int .i64 ((sG a0 l_).2))])))))
theorem afo {l0 l1 l2 l3:List Nat}(a0:JL l0)(a1:JL l1)(a2:JL l2)(a3:JL l3){p:Prop}(h:JL l0->JL l1->JL l2->JL l3->p:=by intro ja jb jc jd;simp only[go_sem,Nat.reduceBEq,Nat.reduceLeDiff,Nat.reduceLT,decide_true,Nat.reduceAdd,Nat.reduceSub,Nat.reduceMul,Int.reduceLE,Int.reduceLT,Int.reduceToNat,Int.reduceNeg,reduceCtorEq,hc,hw,ek,kd,kp];all_goals exact Gr ja jb jc jd):p:=h a0 a1 a2 a3
theorem afp {l0 l1 l2 l3:List Nat}(a0:JL l0)(a1:JL l1)(a2:JL l2)(a3:JL l3){p:Prop}(h:JL l0->JL l1->JL l2->JL l3->p:=by intro ja jb jc jd;simp only[go_sem,Nat.reduceBEq,Nat.reduceLeDiff,Nat.reduceLT,decide_true,Nat.reduceAdd,Nat.reduceSub,Nat.reduceMul,Int.reduceLE,Int.reduceLT,Int.reduceToNat,Int.reduceNeg,reduceCtorEq,hc,hw,ek];all_goals exact Gr ja jb jc jd):p:=h a0 a1 a2 a3
theorem YO {l0 l1 l2 l3:List Nat}(a0:JL l0)(a1:JL l1)(a2:JL l2)(a3:JL l3){p:Prop}(h:JL l0->JL l1->JL l2->JL l3->p:=by intro ja jb jc jd;simp only[go_sem,Nat.reduceBEq,Nat.reduceLeDiff,Nat.reduceLT,decide_true,Nat.reduceAdd,Nat.reduceSub,Nat.reduceMul,Int.reduceLE,Int.reduceLT,Int.reduceToNat,Int.reduceNeg,reduceCtorEq,hc,ek];all_goals exact Gr ja jb jc jd):p:=h a0 a1 a2 a3
theorem YP {p:Prop}(h:p:=by simp only[go_sem,Nat.reduceBEq,Nat.reduceLeDiff,Nat.reduceLT,decide_true,Nat.reduceAdd,Nat.reduceSub,Nat.reduceMul,Int.reduceLE,Int.reduceLT,Int.reduceToNat,Int.reduceNeg,reduceCtorEq,ek];all_goals exact cl):p:=h
theorem Db:FnOk Tryz.prog 21 yi:=by
 have hG:ConsOk Tryz.prog (mkG [(24,fun l=>u_ (bD [.st .cases,.st .suit] l)),(64,fun l=>mc (bD [.st .cases] l)),(65,fun l=>Pw (bD [.sl .case] l))] [(24,ox)]):=av (cgc (zY.norm [.st .cases,.st .suit]) (cgc (pf.norm [.st .cases]) (cgc (Ux.norm [.sl .case]) cg0))) (cgc yr cg0);refine ax [.st .cases,.o] mixed am hG (fn:=Tryz.f21) (c:=aa Tryz.f21) kr kr kr kr (a7 fun a0=>(bB fun l_=>(aj (fun hp=>?_))));dsimp only[aw]at hp;unfold j4 at hp;refine⟨nbl rfl,(fun id st=>bif Nat.beq id 0 then some (LCR (ρ:=Int) (σ:=(List Case)) 2 [] [0,1] (pD2 (fun k_0 s_0=>⟨[(2,.ptr 0 0),(4,.ptr 1 0),(20,.rs .suit l_),(21,.v (.int .i64 (l_.length:Int))),(22,.v (.int .i64 (k_0:Int)))],[.cells [.rs .int a0.sides,.rc .case s_0],.cells [.v (.slice none 0 0),.v (.slice none 0 0)]]⟩) (fun k_0 s_0=>⟨[(2,.ptr 0 0),(4,.ptr 1 0),(20,.rs .suit l_),(21,.v (.int .i64 (l_.length:Int))),(22,.v (.int .i64 (k_0:Int)))],[.cells [.rs .int a0.sides,.os 2],.cells [.v (.slice none 0 0),.v (.slice none 0 0)],.row .case s_0]⟩)) (sh a0.sides l_) (jO a0.sides l_) l_.length a0.cases (l_.length<=aI) (fun _=>.ret) (fun x_0_0=>⟨[(4,.ptr 1 0),(5,.v (.int .i64 x_0_0))],[.dead,.cells [.v (.slice none 0 0),.v (.slice none 0 0)]]⟩) st)else none),?_,?_⟩;unfold aa Tryz.f21;simp only[ap,true_and,and_true];refine a8 mixed am hG kr (fun _=>rfl) (l_.length:Int) rfl iB (fun hb0 k_0 s_0 hlt0 hq0 hw hc=>⟨L0,ag _,?_⟩) (fun hb0 s_0 hc=>?_);unfold jO at hq0;try simp only[hw,air]at hq0
 cases hk:Nat.beq k_0 0 with
 |true=>
  have ek:∀ (A B:Nat->List Case->St) (s:List Case),pD2 A B k_0 s=A k_0 s:=fun A B s=>by unfold pD2;rw[hk];rfl
  have kd:∀ (x:Suit),gE ({ sides:=a0.sides,cases:=s_0}:Cases) x=bH a0.sides x s_0:=fun x=>(kDec _ _ _).symm;have kp:∀ (x:Suit),mt ({ sides:=a0.sides,cases:=s_0}:Cases) x=dC a0.sides x s_0:=fun x=>(aaO _ _ _).symm;exact afo (jl [0,1]) (jl [0,1,5]) (jl [0,1,6]) (jl [0,1,2])
 |false=>
  have ek:∀ (A B:Nat->List Case->St) (s:List Case),pD2 A B k_0 s=B k_0 s:=fun A B s=>by unfold pD2;rw[hk];rfl
  exact afp (jl [0,1]) (jl [0,1,5]) (jl [0,1,6]) (jl [0,1,2])
 cases hk:Nat.beq l_.length 0 with
 |true=>
  have ek:∀ (A B:Nat->List Case->St) (s:List Case),pD2 A B l_.length s=A l_.length s:=fun A B s=>by unfold pD2;rw[hk];rfl
  exact YO (jl [0,1]) (jl [0,1,5]) (jl [0,1,6]) (jl [0,1,2])
 |false=>
  have ek:∀ (A B:Nat->List Case->St) (s:List Case),pD2 A B l_.length s=B l_.length s:=fun A B s=>by unfold pD2;rw[hk];rfl
  exact YO (jl [0,1]) (jl [0,1,5]) (jl [0,1,6]) (jl [0,1,2])
 ·unfold aa Tryz.f21;try unfold sG
  cases hk:Nat.beq l_.length 0 with
  |true=>
   have ek:∀ (A B:Nat->List Case->St) (s:List Case),pD2 A B l_.length s=A l_.length s:=fun A B s=>by unfold pD2;rw[hk];rfl
   exact YP
  |false=>
   have ek:∀ (A B:Nat->List Case->St) (s:List Case),pD2 A B l_.length s=B l_.length s:=fun A B s=>by unfold pD2;rw[hk];rfl
   exact YP

end Go.Sx
end
section
namespace Go.Sx
open Go.RowKit
def XE (h:List Ob):Option Con->Option HCon
 |some (.det p s) =>some (jF p (Hg 0 (aS 3 s) (ji 3 0 s)) (h.map fun _=>.dead))
 |_=>none
def Uy (C:List SV->Option Con)(l:List SV)(h:List Ob):Option HCon:=XE h (C (l.map (fP h 6)))
@[go_sem] theorem ahg {C:List SV->Option Con}{l:List SV}{h:List Ob}:Uy C l h=XE h (C (l.map (fP h 6))):=(rfl)
@[go_sem] theorem afq {h:List Ob}{p:Prop}{s:SV}:XE h (some (.det p s))=some (jF p (Hg 0 (aS 3 s) (ji 3 0 s)) (h.map fun _=>.dead)):=(rfl)
section
variable {P:Program}{F:Nat->Prop}{own:Own}{w w':World}
def LV (own:Own):Own:=fun i=>(own i).map fun hd=>{ hd with bs:=[]}
theorem Py {b:Nat}(hb:¬F b):¬cm F (LV own) b:=by
 rintro (hf| ⟨id,hd,e,hm⟩);exact hb hf;unfold LV at e;cases h:own id <;>grind
theorem FnOk.eat {f:FuncId}{C:List SV->Option Con}(hf:FnOk P f C):FnOkO P f (Uy C) where
 enter:=fun l h c e=>by
  unfold Uy at e;cases hc:C (l.map (fP h 6))with
  |none=>rw[hc]at e;cases e|some c'=>exact hf.enter _ c' hc
 calls:=fun l h c e hp F own w vs hH hr=>by
  unfold Uy at e;cases hc:C (l.map (fP h 6))with
  |none=>rw[hc]at e;cases e
  |some c'=>
   rw[hc]at e;cases c' with
   |det p s=>
    simp only[XE,aip]at e;subst e;have n0:∀ {F':Nat->Prop} {w1:World},(∀ b,F' b->b<w1.heap.size)->Hp F' cF w1 []:=fun hf=>⟨(fun id hd h=>by cases h),hf,(fun id hd b h=>by cases h),(fun i j hi hj b h=>by cases h),(fun id hd b h=>by cases h),(fun id h=>by cases h)⟩;have hE:∀ {id:Nat} {hd:Hd},LV own id=some hd->hd.bs=[]/\id<h.length:=fun {id hd} h=>by
     unfold LV at h;cases ho:own id with
     |none=>grind|some x=>rw[ho]at h;cases h;exact⟨rfl,hH.dom id x ho⟩
    refine(hf.calls _ _ hc hp F w vs hH.foreign ⟨by simpa using hr.1,fun j s hj=>?_⟩).mono ?_;obtain⟨x,hx,rfl⟩:=iW hj;exact vG hH 6 x _ (hr.2 j x hx);rintro e w' (⟨s',u,own',h1,h2,h3,h4⟩ | ⟨x,hx,_⟩);cases h1;obtain⟨own2,q1,q2,q3,q4⟩:=zI (n0 hH.foreign) (.inl fun b=>⟨fun h=>.inl h,fun h=>h.elim id fun⟨_,_,h,_⟩ =>by cases h⟩) h4 h3;have q5:=Ut (n0:=0) q1 _ _ q3;refine⟨(),LV own,trivial,⟨u,h2,?_⟩,?_,?_,by simp⟩;refine q5.carry ⟨fun id hd h=>by simp[D5]at h,fun b _ hb=>⟨Py fun hf=>hb (.inl hf),rfl⟩⟩;refine⟨fun id hd h=>by grind,fun b hb=>aiy (hH.foreign b hb) h4.size,fun id hd b h hm=>?_,fun i j hi hj b h _ hm=>?_,fun id hd b h hm=>?_,fun id hd=>?_⟩;grind
    grind
    grind
    grind [tV,dg]
    refine⟨fun id hd h=>?_,fun id hd b h hm=>?_,h4.os,h4.tape,h4.output,h4.size,fun k hk=>h4.block k hk.1⟩;exact⟨{ hd with bs:=[]},by show(own id).map _=_;grind,rfl,rfl,rfl⟩;grind
    cases hx
   |_=>cases e
end
def Pz (h:List Ob):Option Con->Option HCon
 |some (.det p s) =>some (jF p (Hi 0 (aS 3 s) (ji 3 0 s)) (h.map fun _=>.dead))
 |_=>none
def LW (C:List SV->Option Con)(l:List SV)(h:List Ob):Option HCon:=Pz h (C (l.map (fP h 6)))
@[go_sem] theorem afr {C:List SV->Option Con}{l:List SV}{h:List Ob}:LW C l h=Pz h (C (l.map (fP h 6))):=(rfl)
@[go_sem] theorem ac7 {h:List Ob}{p:Prop}{s:SV}:Pz h (some (.det p s))=some (jF p (Hi 0 (aS 3 s) (ji 3 0 s)) (h.map fun _=>.dead)):=(rfl)
section
variable {P:Program}{F:Nat->Prop}{own:Own}{w w':World}
theorem FnOk.eat2 {f:FuncId}{C:List SV->Option Con}(hf:FnOk P f C):FnOkO P f (LW C) where
 enter:=fun l h c e=>by
  unfold LW at e;cases hc:C (l.map (fP h 6))with
  |none=>rw[hc]at e;cases e|some c'=>exact hf.enter _ c' hc
 calls:=fun l h c e hp F own w vs hH hr=>by
  unfold LW at e;cases hc:C (l.map (fP h 6))with
  |none=>rw[hc]at e;cases e
  |some c'=>
   rw[hc]at e;cases c' with
   |det p s=>
    simp only[Pz,aip]at e;subst e;have n0:∀ {F':Nat->Prop} {w1:World},(∀ b,F' b->b<w1.heap.size)->Hp F' cF w1 []:=fun hf=>⟨(fun id hd h=>by cases h),hf,(fun id hd b h=>by cases h),(fun i j hi hj b h=>by cases h),(fun id hd b h=>by cases h),(fun id h=>by cases h)⟩;have hE:∀ {id:Nat} {hd:Hd},LV own id=some hd->hd.bs=[]/\id<h.length:=fun {id hd} h=>by
     unfold LV at h;cases ho:own id with
     |none=>grind|some x=>rw[ho]at h;cases h;exact⟨rfl,hH.dom id x ho⟩
    refine(hf.calls _ _ hc hp F w vs hH.foreign ⟨by simpa using hr.1,fun j s hj=>?_⟩).mono ?_;obtain⟨x,hx,rfl⟩:=iW hj;exact vG hH 6 x _ (hr.2 j x hx);rintro e w' (⟨s',u,own',h1,h2,h3,h4⟩ | ⟨x,hx,_⟩);cases h1;obtain⟨own2,q1,q2,q3,q4⟩:=zI (n0 hH.foreign) (.inl fun b=>⟨fun h=>.inl h,fun h=>h.elim id fun⟨_,_,h,_⟩ =>by cases h⟩) h4 h3;have q5:=LU (n0:=0) q1 _ _ q3;refine⟨(),LV own,trivial,⟨u,h2,?_⟩,?_,?_,by simp⟩;refine q5.carry ⟨fun id hd h=>by simp[D5]at h,fun b _ hb=>⟨Py fun hf=>hb (.inl hf),rfl⟩⟩;refine⟨fun id hd h=>by grind,fun b hb=>aiy (hH.foreign b hb) h4.size,fun id hd b h hm=>?_,fun i j hi hj b h _ hm=>?_,fun id hd b h hm=>?_,fun id hd=>?_⟩;grind
    grind
    grind
    grind [tV,dg]
    refine⟨fun id hd h=>?_,fun id hd b h hm=>?_,h4.os,h4.tape,h4.output,h4.size,fun k hk=>h4.block k hk.1⟩;exact⟨{ hd with bs:=[]},by show(own id).map _=_;grind,rfl,rfl,rfl⟩;grind
    cases hx
   |_=>cases e
end
end Go.Sx
end
section
namespace Go.Sx
open Go.Proofs
open IntKind (i64)
def oy:=([(fw 0 0 3 4),(fw 1 1 3 4),(fw 2 0 3 1),(fw 0 0 5 4)])
def rq:=([({ no:=0,hour:=0,kind:=1,farm:=0,other:=0,since:=0,to:=0,n:=1,of_:=0}:Judgement)])
def lI:=([({ no:=1,hour:=0,kind:=3,farm:=0,other:=2,since:=0,to:=7,n:=5,of_:=0}:Judgement)])
def oz:=([(fw 0 0 3 3),(fw 0 2 3 1),(fw 1 1 3 4),(fw 2 2 3 4),(fw 0 2 5 4)])
def oA:=(bw db rq)
def jP:=(c7 db jy lI)
def oB:=(jP.1)
def ia:=([({ no:=1,hour:=3,kind:=2,farm:=0,other:=0,since:=0,to:=4,n:=5,of_:=0}:Judgement),({ no:=2,hour:=4,kind:=4,farm:=1,other:=2,since:=0,to:=0,n:=9,of_:=0}:Judgement)])
def oC:=([({ no:=4,hour:=0,question:=1,plea:=({ facts:=[1],clauses:=[]}:Plea),facts:=[0,1]}:Suit),({ no:=5,hour:=0,question:=2,plea:=({ facts:=[],clauses:=[]}:Plea),facts:=[0]}:Suit)])
def iT:=(gi db ia 4)
def ib:=(iT.1)
def jQ:=(c7 db jy ia)
def oD:=(jQ.1)
def eN:=(ib.length:Int)
def oE:=(ib.getD 2 (0:Int))
def lJ:=(ib.getD 1 (0:Int))
def jR:=(ib.getD 0 (0:Int))
def oF:=(sG ({ sides:=[0,1],cases:=[]}:Cases) oC)
def kK:=(oF.2)
def pC:=(rX oB oz)
def kL:=((oF.1).cases)
def fI:=(kL.length:Int)
def kM:=(kL.getD 1 (default:Case))
def gX:=(kL.getD 0 (default:Case))
def mM:=(gX.reason)
def kO:=(mM.length:Int)
def mN:=(mM.getD 0 (0:Int))
def pF:=(rX oD oy)
def sj:Bool:=(bif(((((jQ.2 !=0) ||(jP.2 !=0)) ||(iT.2 !=0)) ||((gi db ([]) 9).2 !=1)) ||(oA !=530))then false else(bif(!pF)then false else(bif(!pC)then false else(bif((((eN !=3) ||(jR !=0)) ||(lJ !=9)) ||(oE !=(-9)))then false else(bif(((kK !=0) ||(fI !=2)) ||(kO !=1))then false else((((gX.winner==0)&&(mN==0))&&(kM.winner==0))&&(kM.no==5)))))))
def rt:Prop:=((sE)/\((dS db jy ia)/\((dS db jy lI)/\((kv db ia 4)/\((kv db ([]) 9)/\((((((jQ.2 !=0) ||(jP.2 !=0)) ||(iT.2 !=0)) ||((gi db ([]) 9).2 !=1))=false->(iY db rq))/\((((((jQ.2 !=0) ||(jP.2 !=0)) ||(iT.2 !=0)) ||((gi db ([]) 9).2 !=1)) ||(oA !=530))=false->((qU oD oy)/\((!pF)=false->((qU oB oz)/\((!pC)=false->(ib.length<=aI->(((eN !=3)=false->(0<=0/\0<eN))/\((((eN !=3) ||(jR !=0))=false->(0<=1/\1<eN))/\(((((eN !=3) ||(jR !=0)) ||(lJ !=9))=false->(0<=2/\2<eN))/\(((((eN !=3) ||(jR !=0)) ||(lJ !=9)) ||(oE !=(-9)))=false->((j4 ({ sides:=[0,1],cases:=[]}:Cases) oC)/\((((kK !=0) ||(fI !=2))=false->(0<=0/\0<fI))/\((((kK !=0) ||(fI !=2)) ||(kO !=1))=false->((0<=0/\0<fI)/\(((gX.winner==0)=true->(0<=0/\0<fI))/\(((gX.winner==0)=true->(0<=0/\0<kO))/\((((gX.winner==0)&&(mN==0))=true->(0<=1/\1<fI))/\((((gX.winner==0)&&(mN==0))&&(kM.winner==0))=true->(0<=1/\1<fI)))))))))))))))))))))))))
@[go_sem] def Cj:List SV->Option Con:=(pE (.det (rt) (.v (.bool (sj)))))
theorem Hj:FnOk Tryz.prog 10 Cj:=by
 have hG:ConsOk Tryz.prog (mkG [(12,fun l=>pb (bD [.st .district,.sl .claim,.sl .judgement] l)),(14,fun l=>vT (bD [.st .district,.sl .judgement,.o] l)),(16,fun l=>nu (bD [.st .district,.sl .judgement] l)),(18,fun l=>BX (bD [.sl .claim,.sl .claim] l)),(38,Aw),(39,Ax),(40,wl)] [(21,LW (fun l=>yi (bD [.st .cases,.sl .suit] l)))]):=av (cgc (sV.norm [.st .district,.sl .claim,.sl .judgement]) (cgc (A2.norm [.st .district,.sl .judgement,.o]) (cgc (p7.norm [.st .district,.sl .judgement]) (cgc (G6.norm [.sl .claim,.sl .claim]) (cgc FX (cgc FY (cgc y7 cg0))))))) (cgc (FnOk.eat2 (Db.norm [.st .cases,.sl .suit])) cg0);refine ax [.o] mixed am hG (fn:=Tryz.f10) (c:=aa Tryz.f10) kr kr kr kr (aj (fun hp=>?_));dsimp only[aw]at hp;unfold rt at hp;try simp only[oy,rq,lI,oz,oA,jP,oB,ia,oC,iT,ib,jQ,oD,eN,oE,lJ,jR,oF,kK,pC,kL,fI,kM,gX,mM,kO,mN,pF]at hp
 refine⟨nbl rfl,L0,ag _,?_⟩
 ·unfold aa Tryz.f10;try unfold sj
  simp (maxSteps:=1000000) only[go_sem,Nat.reduceBEq,Nat.reduceLeDiff,Nat.reduceLT,decide_true,Nat.reduceAdd,Nat.reduceSub,Nat.reduceMul,Int.reduceLE,Int.reduceLT,Int.reduceToNat,Int.reduceNeg,reduceCtorEq,oy,rq,lI,oz,oA,jP,oB,ia,oC,iT,ib,jQ,oD,eN,oE,lJ,jR,oF,kK,pC,kL,fI,kM,gX,mM,kO,mN,pF];all_goals exact cl
instance decR {ρ σ:Type}{P:σ->Prop}[∀ s,Decidable (P s)]:(x:ρ⊕σ)->Decidable (∀ s,x=.inr s->P s)
 | .inl _=>.isTrue fun _ e=>nomatch e
 | .inr s=>match (inferInstance:Decidable (P s))with
  | .isTrue h=>.isTrue fun _ e=>by cases e;exact h
  | .isFalse h=>.isFalse fun g=>h (g s rfl)
instance decX {ρ σ:Type}{P:ρ->Prop}[∀ s,Decidable (P s)]:(x:ρ⊕σ)->Decidable (∀ s,x=.inl s->P s)
 | .inr _=>.isTrue fun _ e=>nomatch e
 | .inl s=>match (inferInstance:Decidable (P s))with
  | .isTrue h=>.isTrue fun _ e=>by cases e;exact h
  | .isFalse h=>.isFalse fun g=>h (g s rfl)
instance decN {ρ σ:Type}:(x:ρ⊕σ)->Decidable (∀ s,x≠ .inr s)
 | .inl _=>.isTrue fun _ e=>nomatch e
 | .inr s=>.isFalse fun g=>g s rfl
def afs {ρ σ:Type}(step:Nat->σ->ρ⊕σ)(p:Nat->σ->Prop)(D:∀ k s,Decidable (p k s)):(n i:Nat)->(s:σ)->Decidable (okI step p n i s)
 |0,_,_=>.isTrue trivial
 |n+1,i,s=>match D i s with
  | .isFalse h=>.isFalse fun g=>h g.1
  | .isTrue h=>match e:step i s with
   | .inl _=>.isTrue ⟨h,fun s' e'=>by rw[e]at e';cases e'⟩
   | .inr s'=>match afs step p D n (i+1) s' with
    | .isTrue g=>.isTrue ⟨h,fun s'' e'=>by rw[e]at e';cases e';exact g⟩
    | .isFalse g=>.isFalse fun q=>g (q.2 s' e)
def aft {ρ σ τ:Type}(step:τ->σ->ρ⊕σ)(p:τ->σ->Prop)(D:∀ k s,Decidable (p k s)):(l:List τ)->(s:σ)->Decidable (okL step p l s)
 | [],_=>.isTrue trivial
 |x::l,s=>match D x s with
  | .isFalse h=>.isFalse fun g=>h g.1
  | .isTrue h=>match e:step x s with
   | .inl _=>.isTrue ⟨h,fun s' e'=>by rw[e]at e';cases e'⟩
   | .inr s'=>match aft step p D l s' with
    | .isTrue g=>.isTrue ⟨h,fun s'' e'=>by rw[e]at e';cases e';exact g⟩
    | .isFalse g=>.isFalse fun q=>g (q.2 s' e)
instance decI' {ρ σ:Type}{step:Nat->σ->ρ⊕σ}{p:Nat->σ->Prop}[D:∀ k s,Decidable (p k s)]{n i:Nat}{s:σ}:Decidable (okI step p n i s):=afs step p D n i s
instance decL' {ρ σ τ:Type}{step:τ->σ->ρ⊕σ}{p:τ->σ->Prop}[D:∀ k s,Decidable (p k s)]{l:List τ}{s:σ}:Decidable (okL step p l s):=aft step p D l s
instance precedents_read_l0_p_d (a0:Cases)(k_0:Nat)(s_0:Int×Int):Decidable (iM a0 k_0 s_0):=by unfold iM;repeat (first|infer_instance|refine @instDecidableAnd _ _ ?_ ?_|refine @instDecidableForall _ _ ?_ ?_)
instance precedents_of_l0_p_d (l_:List Int)(many:Int)(k_0:Nat)(s_0:Int×Int):Decidable (jJ l_ many k_0 s_0):=by unfold jJ;repeat (first|infer_instance|refine @instDecidableAnd _ _ ?_ ?_|refine @instDecidableForall _ _ ?_ ?_)
instance precedents_of_p_d (l_:List Int)(many:Int):Decidable (jg l_ many):=by unfold jg;repeat (first|infer_instance|refine @instDecidableAnd _ _ ?_ ?_|refine @instDecidableForall _ _ ?_ ?_)
instance precedents_read_l1_p_d (a0:Cases)(s_0:Int×Int)(k_1:Nat)(s_1:List PrecedentsDecided×Int×Int×Int):Decidable (iN a0 s_0 k_1 s_1):=by unfold iN;repeat (first|infer_instance|refine @instDecidableAnd _ _ ?_ ?_|refine @instDecidableForall _ _ ?_ ?_)
instance precedents_read_p_d (a0:Cases):Decidable (iZ a0):=by unfold iZ;repeat (first|infer_instance|refine @instDecidableAnd _ _ ?_ ?_|refine @instDecidableForall _ _ ?_ ?_)
instance precedents_Check_p_d (b:Cases):Decidable (gw b):=by unfold gw;repeat (first|infer_instance|refine @instDecidableAnd _ _ ?_ ?_|refine @instDecidableForall _ _ ?_ ?_)
instance pleas_rising_l0_p_d (l_:List Int)(k_0:Nat)(s_0:Unit):Decidable (kz l_ k_0 s_0):=by unfold kz;repeat (first|infer_instance|refine @instDecidableAnd _ _ ?_ ?_|refine @instDecidableForall _ _ ?_ ?_)
instance pleas_rising_p_d (l_:List Int):Decidable (lv l_):=by unfold lv;repeat (first|infer_instance|refine @instDecidableAnd _ _ ?_ ?_|refine @instDecidableForall _ _ ?_ ?_)
instance pleas_Check_l0_p_d (a0:Plea)(k_0:Nat)(s_0:Bool×Int):Decidable (lD a0 k_0 s_0):=by unfold lD;repeat (first|infer_instance|refine @instDecidableAnd _ _ ?_ ?_|refine @instDecidableForall _ _ ?_ ?_)
instance pleas_strict_p_d (p:Plea):Decidable (jN p):=by unfold jN;repeat (first|infer_instance|refine @instDecidableAnd _ _ ?_ ?_|refine @instDecidableForall _ _ ?_ ?_)
theorem LX {ρ σ:Type}{step:Nat->σ->ρ⊕σ}{p q:Nat->σ->Prop}(h:∀ k s,p k s->q k s):∀ (n i:Nat) (s:σ),okI step p n i s->okI step q n i s
 |0,_,_,_=>trivial
 |n+1,i,s,g=>⟨h i s g.1,fun s' e=>LX h n (i+1) s' (g.2 s' e)⟩
def aaQ (k_0:Nat)(s_0:List Int×Int):Prop:=(decide (s_0.2<=32))=true->(s_0.2 !=0)=true->a6[s_0.1.length]? =some s_0.2
instance litq_d (k_0:Nat)(s_0:List Int×Int):Decidable (aaQ k_0 s_0):=by unfold aaQ;infer_instance
theorem afu:fE ((a6).map Gp):=by
 refine⟨LX (p:=aaQ) (fun k s h=>?_) 66 0 _ (of_decide_eq_true kr),of_decide_eq_true kr,fun x e=>?_⟩;intro h1;refine⟨fun h2=>?_,fun h2=>h2⟩;rw[ai7,h h1 h2];rfl;rw[ajn];unfold a6;rw[e]
instance pleas_literals_1_p_d:Decidable (fE ((a6).map Gp)):=.isTrue afu
instance pleas_Check_p_d (a0:Plea):Decidable (kJ a0):=by unfold kJ;repeat (first|infer_instance|refine @instDecidableAnd _ _ ?_ ?_|refine @instDecidableForall _ _ ?_ ?_)
instance pleas_court_derive_l1_p_d (facts:List Int)(clauses:List Clause)(strict_:List (Int×Bool))(s_0:List (Int×Int)×List Reason)(z_1:Int)(s_1:List Reason):Decidable (fu facts clauses strict_ s_0 z_1 s_1):=by unfold fu;repeat (first|infer_instance|refine @instDecidableAnd _ _ ?_ ?_|refine @instDecidableForall _ _ ?_ ?_)
instance pleas_court_derive_l0_p_d (facts:List Int)(clauses:List Clause)(strict_:List (Int×Bool))(k_0:Nat)(s_0:List (Int×Int)×List Reason):Decidable (gD facts clauses strict_ k_0 s_0):=by unfold gD;repeat (first|infer_instance|refine @instDecidableAnd _ _ ?_ ?_|refine @instDecidableForall _ _ ?_ ?_)
instance pleas_court_derive_p_d (facts:List Int)(clauses:List Clause)(strict_:List (Int×Bool))(known_:List (Int×Int)):Decidable (fG facts clauses strict_ known_):=by unfold fG;repeat (first|infer_instance|refine @instDecidableAnd _ _ ?_ ?_|refine @instDecidableForall _ _ ?_ ?_)
instance pleas_Answer_p_d (p:Plea)(q:Int):Decidable (lH p q):=by unfold lH;repeat (first|infer_instance|refine @instDecidableAnd _ _ ?_ ?_|refine @instDecidableForall _ _ ?_ ?_)
instance precedents_ask_p_d (b:Cases)(l_:List Int)(side:Int):Decidable (lu b l_ side):=by unfold lu;repeat (first|infer_instance|refine @instDecidableAnd _ _ ?_ ?_|refine @instDecidableForall _ _ ?_ ?_)
instance precedents_court_missing_p_d (c:PrecedentsCourt)(x:PrecedentsDecided)(facts:Int):Decidable (fB c x facts):=by unfold fB;repeat (first|infer_instance|refine @instDecidableAnd _ _ ?_ ?_|refine @instDecidableForall _ _ ?_ ?_)
instance precedents_Binds_1_p_d (x:PrecedentsDecided)(side_:Int)(facts_:Int)(c_:PrecedentsCourt):Decidable (iO x side_ facts_ c_):=by unfold iO;repeat (first|infer_instance|refine @instDecidableAnd _ _ ?_ ?_|refine @instDecidableForall _ _ ?_ ?_)
instance precedents_first_precedents_decided_b_l0_p_d (l_:List PrecedentsDecided)(side_:Int)(facts_:Int)(c_:PrecedentsCourt)(k_0:Nat)(s_0:Int):Decidable (bP l_ side_ facts_ c_ k_0 s_0):=by unfold bP;repeat (first|infer_instance|refine @instDecidableAnd _ _ ?_ ?_|refine @instDecidableForall _ _ ?_ ?_)
instance precedents_first_precedents_decided_b_p_d (l_:List PrecedentsDecided)(fr:Int)(side_:Int)(facts_:Int)(c_:PrecedentsCourt):Decidable (ca l_ fr side_ facts_ c_):=by unfold ca;repeat (first|infer_instance|refine @instDecidableAnd _ _ ?_ ?_|refine @instDecidableForall _ _ ?_ ?_)
instance precedents_Binds_p_d (b:Cases)(l_:List Int)(side:Int):Decidable (fD b l_ side):=by unfold fD;repeat (first|infer_instance|refine @instDecidableAnd _ _ ?_ ?_|refine @instDecidableForall _ _ ?_ ?_)
instance judgement_Decide_k_l0_p_d (sides:List Int)(a1:Suit)(k_0:Nat)(s_0:List Int):Decidable (gF sides a1 k_0 s_0):=by unfold gF;repeat (first|infer_instance|refine @instDecidableAnd _ _ ?_ ?_|refine @instDecidableForall _ _ ?_ ?_)
instance judgement_Decide_k_l1_p_d (sides:List Int)(a1:Suit)(k_1:Nat)(s_1:List Int):Decidable (gG sides a1 k_1 s_1):=by unfold gG;repeat (first|infer_instance|refine @instDecidableAnd _ _ ?_ ?_|refine @instDecidableForall _ _ ?_ ?_)
instance judgement_Decide_k_l2_p_d (sides:List Int)(a1:Suit)(k_2:Nat)(s_2:List Int):Decidable (gH sides a1 k_2 s_2):=by unfold gH;repeat (first|infer_instance|refine @instDecidableAnd _ _ ?_ ?_|refine @instDecidableForall _ _ ?_ ?_)
instance judgement_Decide_k_l3_p_d (sides:List Int)(a1:Suit)(k_3:Nat)(s_3:List Int):Decidable (gI sides a1 k_3 s_3):=by unfold gI;repeat (first|infer_instance|refine @instDecidableAnd _ _ ?_ ?_|refine @instDecidableForall _ _ ?_ ?_)
instance judgement_Decide_k_p_d (sides:List Int)(a1:Suit)(cs:List Case):Decidable (dC sides a1 cs):=by unfold dC;repeat (first|infer_instance|refine @instDecidableAnd _ _ ?_ ?_|refine @instDecidableForall _ _ ?_ ?_)
instance judgement_Sit_l0_p_d (sides:List Int)(l_:List Suit)(k_0:Nat)(s_0:List Case):Decidable (jO sides l_ k_0 s_0):=by unfold jO;repeat (first|infer_instance|refine @instDecidableAnd _ _ ?_ ?_|refine @instDecidableForall _ _ ?_ ?_)
instance judgement_Sit_p_d (a0:Cases)(l_:List Suit):Decidable (j4 a0 l_):=by unfold j4;repeat (first|infer_instance|refine @instDecidableAnd _ _ ?_ ?_|refine @instDecidableForall _ _ ?_ ?_)
theorem Uz (a b:List Claim):qU a b:=fun _ _ h=>kU _ _ _ fun j _ _ hj _=>by
 grind
theorem LY {ρ:Type}{step:Nat->Unit->ρ⊕Unit}:∀ (n i:Nat),(∀ j,i<=j->j<i+n->step j ()=.inr ())->aq step n i ()=.inr ()
 |0,_,_=>rfl
 |n+1,i,h=>by
  rw[aq,h i (aio _) (by omega)];exact LY n (i+1) fun j h1 h2=>h j (by omega) (by omega)
theorem Ip (a:List Claim):rX a a=true:=by
 simp_all [rX,LY,sD]
theorem Gs (d:District)(j:List Judgement):iY d j:=fun _ _ h _=>kU _ _ _ fun k s _ hk=>by
 rw[JE]at h;have h:=of_decide_eq_true h;have key:((k:Int) ==0)=false->(0<=(i64.wrap ((k:Int) - 1))/\(i64.wrap ((k:Int) - 1)) < (j.length:Int)):=fun hk0=>by
  grind [cI]
 exact fun _=>⟨key,fun h1 _=>key h1⟩
theorem LZ (d:District)(j:List Judgement):wm d j:=⟨H6 d,fun hc _ h=>kU _ _ _ fun k s _ hk=>by
 have h:=of_decide_eq_false h;have hf:d.farms.length<=600:=by
  have:gA d=0:=by grind
  rw[<-y9]at this;exact((sS d).1 this).1.2.1
 have hw:i64.wrap ((d.farms.length:Int) - 1)=(d.farms.length:Int) - 1:=cI (by omega) (by omega);intro _;refine⟨⟨by omega,by omega,by omega⟩,fun _=>?_⟩;have hl:((j.take k).drop 0).length=k:=by simp;omega
 have key:(decide ((((j.take k).drop 0).length:Int) > 0))=true->(0<=(i64.wrap ((((j.take k).drop 0).length:Int) - 1))/\(i64.wrap ((((j.take k).drop 0).length:Int) - 1)) < (((j.take k).drop 0).length:Int)):=fun h0=>by
  grind [cI]
 refine⟨fun _=>key,fun _ h0 _=>key h0,fun _ _ _ h1 _ _ h2=>?_⟩;rw[hw]at h1 h2;simp only[ai8,akd,Lp,aim,decide_eq_true_eq]at h1 h2;omega⟩
theorem PA (d:District)(j:List Judgement)(h:Int)(hj:JR j):kv d j h/\Ha d j h:=by
 have key:iL d j=0->d.farms.length<=600/\∀ k,k<j.length->(j.getD k default).kind=4->(0<=(j.getD k default).farm/\(j.getD k default).farm< (d.farms.length:Int))/\(0<=(j.getD k default).other/\(j.getD k default).other< (d.farms.length:Int)):=fun hc=>by
  have h1:=aeQ hc;obtain⟨h2,_,_⟩:=zN hc;rw[<-y9]at h2;refine⟨((sS d).1 h2).1.2.1,fun k hk hkd=>?_⟩;have h3:=h1 k hk;have h4:(j.getD k default).of_=0:=Decidable.byContradiction fun e=>by have:=h3.end_ e;omega
  exact⟨h3.farm h4,(h3.other (by omega)).1,(h3.other (by omega)).2.1⟩
 refine⟨⟨Gs d j,fun hc _ _=>⟨⟨rfl,by omega,?_⟩,fun _ _=>?_⟩⟩,⟨LZ d j,fun hc _ _=>⟨⟨rfl,by omega,?_⟩,fun _=>?_⟩⟩⟩;grind [xQ,di]
 have hc:bw d j=0:=by grind
 rw[xQ d j hj]at hc;refine BI (fun _ s=>s.length=d.farms.length) _ _ _ (by simp) fun k s _ hk hs=>⟨fun hg=>?_,fun s' e=>?_⟩;grind
 unfold ma at e;grind
 grind [di]
 have hc:iL d j=0:=by grind
 refine BI (fun _ s=>s.length=d.farms.length) _ _ _ (by simp) fun k s _ hk hs=>⟨fun _ hg=>?_,fun s' e=>?_⟩;grind
 unfold y_ at e;grind
def zZ (d:District)(c:List Claim)(j:List Judgement):List Claim×Int:=letI q0:=c.length+1;bif bw d j !=0 then([],bw d j)else bif aK d c !=0 then([],aK d c)else bif(decide (((exS j q0 c).length:Int) > 4096)) ||(exS j q0 c).any cJ then([],2)else(exS j q0 c,0)
theorem aaR (x:List Claim):bV x=x.any cJ:=by
 unfold bV dA;rcases B8 (step:=eK x) x default cJ (fun k _=>rfl)with⟨e,h⟩ | ⟨K,y,T,h1,e,h2,h3⟩ <;>grind
theorem afv (x:List Claim):(match aq (oR x) x.length 0 ()with| .inl _=>(([],2):List Claim×Int) | .inr _=>(x,0))=bif x.any cJ then([],2)else(x,0):=by
 have key:∀ (R A:List Claim) (k:Nat),x=A++R->A.length=k->aq (oR x) R.length k ()=bif R.any cJ then .inl ()else .inr ():=fun R=>by
  induction R with
  |nil=>exact fun A k _ _=>rfl
  |cons y R ih=>
   intro A k hx hk;have g:x.getD k default=y:=by grind
   simp only[ais,aq,oR,g,List.any_cons];cases hy:cJ y with
   |true=>
    have:decide (y.litres > 1073741824)=true:=hy;grind
   |false=>
    have:decide (y.litres > 1073741824)=false:=hy;rw[this];exact ih (A++[y]) (k+1) (by rw[hx];simp) (by simp[hk])
 rw[key x [] 0 rfl rfl];grind
theorem L1 {d:District}{c:List Claim}{j:List Judgement}(h1:bw d j=0)(hj:JR j)(h2:aK d c=0)(hjl:j.length<=20)(hcl:c.length<=300):Given d j c:=by
 obtain⟨a1,_,a3,a4⟩:=A6 h2;rw[xQ d j hj]at h1;refine⟨fun x hx=>?_,hjl,a3,a4,hcl,((sS d).1 a1).1.2.2.2.1⟩;obtain⟨i,hi,rfl⟩:=aiN hx;have:=aeQ h1 i hi;grind
theorem L2 {d:District}{c:List Claim}{j:List Judgement}(hj:JR j)(hjl:bw d j=0->j.length<=20)(hcl:aK d c=0->c.length<=300):
  (dS d c j/\D1 d c j)/\c7 d c j=zZ d c j/\Ay d c j=zZ d c j:=by
 have run:bw d j=0->aK d c=0->(okI (cW c j) (g7 c j) (c.length+1) 0 (c,[])/\aq (cW c j) (c.length+1) 0 (c,[])=.inl ([]++exS j (c.length+1) c))/\
   okI (eS c j) (p6 c j) (c.length+1) 0 ([],0)/\aq (eS c j) (c.length+1) 0 ([],0)=.inl ([]++exS j (c.length+1) c):=fun h1 h2=>by
  have g:=L1 h1 hj h2 (hjl h1) (hcl h2);have:=g.cl;exact⟨LQ c (c.length+1) 0 c [] (by omega) g (by grind),Pm c g.cl (c.length+1) 0 c [] [] rfl (by omega) g (by grind)⟩
 refine⟨⟨⟨Gs d j,fun h1=>⟨T8 d c,fun h2=>?_⟩⟩,⟨LZ d j,fun h1=>⟨Q4 d c,fun h2=>?_⟩⟩⟩,?_,?_⟩;grind
 grind [xQ,Ih]
 unfold c7 zZ;cases h1:bw d j !=0 with
 |true=>rfl
 |false=>
  simp only[cond_false];cases h2:aK d c !=0 with
  |true=>rfl
  |false=>
   simp_all [aaR]
 unfold Ay zZ;rw[<-xQ d j hj,<-Ih];cases h1:bw d j !=0 with
 |true=>rfl
 |false=>
  simp only[cond_false];cases h2:aK d c !=0 with
  |true=>rfl
  |false=>
   simp only[cond_false];obtain⟨_,_,r2⟩:=run (by grind) (by grind);rw[r2,aiC];cases hd:decide (((exS j (c.length+1) c).length:Int) > 4096)with
   |true=>grind
   |false=>
    simp only[hd,cond_false,aj8];exact afv _
end Go.Sx
end
