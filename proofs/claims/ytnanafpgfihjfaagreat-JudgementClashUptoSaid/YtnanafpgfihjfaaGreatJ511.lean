/- Part of the proof that the law JudgementClash returns true and leaves its arguments as they were, for all arguments of bulk at most 1048576 (the Upto form). -/
import Derived.Test.YtnanafpgfihjfaaGreatJ510
import Derived.Test.YtnanafpgfihjfaaGreatJ509
import Derived.Test.YtnanafpgfihjfaaGreatJ508
set_option linter.all false
set_option maxHeartbeats 4000000
set_option maxRecDepth 100000
section
namespace Go.Sx
open Go.Proofs
open IntKind (i64 u64)
theorem Dn {l0 l1:List Nat}(a0:JL l0)(a1:JL l1){p:Prop}(h:JL l0->JL l1->p:=by intro ja jb;simp only[go_sem,Nat.reduceBEq,Nat.reduceLeDiff,Nat.reduceLT,decide_true,Nat.reduceAdd,Nat.reduceSub,Nat.reduceMul,Int.reduceLE,Int.reduceLT,Int.reduceToNat,Int.reduceNeg,reduceCtorEq];all_goals exact sR ja jb):p:=h a0 a1
@[go_sem] def rA:List SV->Option Con:=pR .claim fun l=>pE (.det (l.length*40<=c6) (.nw .claim l))
theorem wm:FnOk Tryz.prog 45 rA:=by
 have hG:ConsOk Tryz.prog (mkG [] []):=ar cg0 cg0;refine F5 [(.tmp 2,.claim)] mixed ak hG (fn:=Tryz.f45) (c:=ae Tryz.f45) kr kr kr kr (bC fun l=>ai fun hp=>?_);dsimp only[ax]at hp;refine⟨nbl rfl,L0,ag _,?_⟩;unfold ae Tryz.f45;simp only[go_sem,Nat.reduceBEq,Nat.reduceLeDiff,Nat.reduceAdd,Nat.reduceSub,Nat.reduceMul,Int.reduceLE,Int.reduceLT,Int.reduceToNat,Int.reduceNeg,reduceCtorEq];intro b hb;refine⟨fun h=>?_,fun _=>⟨hp,fun _=>rfl⟩⟩;have hl:=hb h;subst hl;rfl
def oi (y:Claim)(r_:List Claim):Bool:=(y.hour !=(r_.getD 0 default).hour)
def lX (y:Claim)(r_:List Claim):Prop:=(0<=0/\0< (r_.length:Int))
@[go_sem] noncomputable def qh:List SV->Option Con:=(pD .claim fun y=>(pXR .claim fun r_=>(pE (.det (lX y r_) (.v (.bool (oi y r_)))))))
theorem vU:FnOk Tryz.prog 44 qh:=by
 have hG:ConsOk Tryz.prog (mkG [] []):=ar cg0 cg0;refine ay [.o] mixed ak hG (fn:=Tryz.f44) (c:=ae Tryz.f44) kr kr kr kr (bk fun y=>(BJ fun r_=>(ai (fun hp=>?_))));dsimp only[ax]at hp;unfold lX at hp;refine⟨nbl rfl,L0,ag _,?_⟩
 ·unfold ae Tryz.f44;try unfold oi
  exact zq1
def c8 (y:Claim):Bool:=(decide (y.litres > 1073741824))
@[go_sem] def qi:List SV->Option Con:=(pD .claim fun y=>(pE (.det True (.v (.bool (c8 y))))))
theorem vV:FnOk Tryz.prog 49 qi:=by
 have hG:ConsOk Tryz.prog (mkG [] []):=ar cg0 cg0;refine ay [.o] mixed ak hG (fn:=Tryz.f49) (c:=ae Tryz.f49) kr kr kr kr (bk fun y=>(ai (fun hp=>?_)));dsimp only[ax]at hp;refine⟨nbl rfl,L0,ag _,?_⟩
 ·unfold ae Tryz.f49;try unfold c8
  exact zq1
@[go_sem] def cL (s_:List Claim)(r_:List Claim)(k_0:Nat)(s_0:Unit):Int⊕Unit:=(bif(oi (s_.getD k_0 default) r_)then .inl (k_0:Int)else .inr ())
def dV (s_:List Claim)(r_:List Claim)(k_0:Nat)(s_0:Unit):Prop:=(lX (s_.getD k_0 default) r_)
def ah (s_:List Claim)(r_:List Claim):Int:=(match an (cL s_ r_) s_.length 0 ()with| .inl x_0_0=>x_0_0| .inr s_0=>(-1))
def cV (s_:List Claim)(r_:List Claim):Prop:=(s_.length<=aD->okI (cL s_ r_) (dV s_ r_) s_.length 0 ())
@[go_sem] noncomputable def ic:List SV->Option Con:=(pR .claim fun s_=>(pFn 44 (pXR .claim fun r_=>(pE ((pE (.det (cV s_ r_) (.v (.int .i64 (ah s_ r_))))))))))
theorem lK:FnOk Tryz.prog 43 ic:=by
 have hG:ConsOk Tryz.prog (mkG [(44,qh)] []):=ar (cgc vU cg0) cg0;refine ay [.o] mixed ak hG (fn:=Tryz.f43) (c:=ae Tryz.f43) kr kr kr kr (bC fun s_=>(bJ (BJ fun r_=>(ai ((ai (fun hp=>?_)))))));dsimp only[ax]at hp;unfold cV at hp;refine⟨nbl rfl,(fun id st=>bif Nat.beq id 0 then some (LCR (ρ:=Int) (σ:=Unit) 0 [] [] (fun k_0 s_0=>⟨[(0,.rs .claim s_),(1,.fn 44 [] [.ep [.rs .claim r_] 0]),(7,.v (.int .i64 (s_.length:Int))),(8,.v (.int .i64 (k_0:Int)))],[]⟩) (cL s_ r_) (dV s_ r_) s_.length () (s_.length<=aD) (fun _=>.ret) (fun x_0_0=>⟨[(4,.v (.int .i64 x_0_0))],[]⟩) st)else none),?_,?_⟩
 ·unfold ae Tryz.f43;simp only[am,true_and,and_true]
  ·refine a_ mixed ak hG kr (fun _=>rfl) (s_.length:Int) rfl gA (fun hb0 k_0 s_0 hlt0 hq0 hw hc=>⟨L0,ag _,?_⟩) (fun hb0 s_0 hc=>?_)
   ·unfold dV at hq0;try simp only[hw,Int.toNat_natCast]at hq0
    exact bi (jl [])
   ·exact ba (jl [])
 ·unfold ae Tryz.f43;try unfold ah
  exact zq1
@[go_sem] def eC (s_:List Claim)(k_0:Nat)(s_0:Unit):Int⊕Unit:=(bif(c8 (s_.getD k_0 default))then .inl (k_0:Int)else .inr ())
def dv (s_:List Claim):Int:=(match an (eC s_) s_.length 0 ()with| .inl x_0_0=>x_0_0| .inr s_0=>(-1))
@[go_sem] def ig:List SV->Option Con:=(pR .claim fun s_=>(pFn 49 (pE ((pE (.det True (.v (.int .i64 (dv s_)))))))))
theorem lL:FnOk Tryz.prog 43 ig:=by
 have hG:ConsOk Tryz.prog (mkG [(49,qi)] []):=ar (cgc vV cg0) cg0;refine ay [.o] mixed ak hG (fn:=Tryz.f43) (c:=ae Tryz.f43) kr kr kr kr (bC fun s_=>(bJ (ai ((ai (fun hp=>?_))))));dsimp only[ax]at hp;refine⟨nbl rfl,(fun id st=>bif Nat.beq id 0 then some (LCR (ρ:=Int) (σ:=Unit) 0 [] [] (fun k_0 s_0=>⟨[(0,.rs .claim s_),(1,.fn 49 [] []),(7,.v (.int .i64 (s_.length:Int))),(8,.v (.int .i64 (k_0:Int)))],[]⟩) (eC s_) pT s_.length () (s_.length<=aD) (fun _=>.ret) (fun x_0_0=>⟨[(4,.v (.int .i64 x_0_0))],[]⟩) st)else none),?_,?_⟩
 ·unfold ae Tryz.f43;simp only[am,true_and,and_true]
  ·refine a_ mixed ak hG kr (fun _=>rfl) (s_.length:Int) rfl gA (fun hb0 k_0 s_0 hlt0 _ hw hc=>⟨L0,ag _,?_⟩) (fun hb0 s_0 hc=>?_)
   ·exact bi (jl [])
   ·exact ba (jl [])
 ·unfold ae Tryz.f43;try unfold dv
  exact zq1
@[go_sem] noncomputable def aB:List SV->Option Con:=fun l=>(orC (ic l) (ig l))
theorem ii:FnOk Tryz.prog 43 aB:=(FnOk.or lK lL)
def bI (s_:List Claim):Bool:=(decide ((dv s_)>=0))
@[go_sem] def gB:List SV->Option Con:=(pR .claim fun s_=>(pFn 49 (pE ((pE (.det True (.v (.bool (bI s_)))))))))
theorem zq69 {p:Prop}(h:p:=by simp only[go_sem,Nat.reduceBEq,Nat.reduceLeDiff,Nat.reduceLT,decide_true,Nat.reduceAdd,Nat.reduceSub,Nat.reduceMul,Int.reduceLE,Int.reduceLT,Int.reduceToNat,Int.reduceNeg,reduceCtorEq,aB];all_goals exact cl):p:=h
theorem kD:FnOk Tryz.prog 48 gB:=by
 have hG:ConsOk Tryz.prog (mkG [(43,fun l=>aB (bp [.sl .claim,.o] l))] []):=ar (cgc (ii.norm [.sl .claim,.o]) cg0) cg0;refine ay [.o] mixed ak hG (fn:=Tryz.f48) (c:=ae Tryz.f48) kr kr kr kr (bC fun s_=>(bJ (ai ((ai (fun hp=>?_))))));dsimp only[ax]at hp;refine⟨nbl rfl,L0,ag _,?_⟩
 ·unfold ae Tryz.f48;try unfold bI
  exact zq69
@[go_sem] noncomputable def aL:List SV->Option Con:=fun l=>(gB l)
theorem kT:FnOk Tryz.prog 48 aL:=kD
@[go_sem] def aY (a2:List Judgement)(s_0:List Claim×List Claim)(z_1:Judgement)(s_1:List Claim):Empty⊕(List Claim):=letI q0:=du (bY z_1 s_1);(bif(z_1.kind==1)then .inr q0 else(bif(z_1.kind==2)then .inr q0 else(bif(z_1.kind==3)then .inr (du (cm z_1 s_1))else(bif(z_1.kind==4)then .inr (du s_1)else .inr default))))
def ct (a2:List Judgement)(s_0:List Claim×List Claim)(z_1:Judgement)(s_1:List Claim):Prop:=letI q0:=(cG z_1 s_1)/\(cJ (bY z_1 s_1));(((z_1.kind==1)=true->q0)/\((z_1.kind==1)=false->(((z_1.kind==2)=true->q0)/\((z_1.kind==2)=false->(((z_1.kind==3)=true->((cX z_1 s_1)/\(cJ (cm z_1 s_1))))/\((z_1.kind==3)=false->(((z_1.kind==4)=true->(cJ s_1))/\((z_1.kind==4)=false->False))))))))
@[go_sem] def cH (a1:List Claim)(a2:List Judgement)(k_0:Nat)(s_0:List Claim×List Claim):(List Claim)⊕(List Claim×List Claim):=letI q1:=ah s_0.1 s_0.1;letI q2:=(s_0.1.length:Int);letI q0:=Int.toNat (bif(decide (q1<0))then q2 else q1);(bif(decide (q2 > 0))then(match jO (aY a2 s_0) (aX a2 ((s_0.1.getD 0 default).hour)) ((s_0.1.take q0).drop 0)with| .inl x=>x.elim| .inr s_1=>.inr (((s_0.1.take (Int.toNat q2)).drop q0),(s_0.2++s_1)))else .inl s_0.2)
def gQ (a1:List Claim)(a2:List Judgement)(k_0:Nat)(s_0:List Claim×List Claim):Prop:=letI q1:=(s_0.1.length:Int);letI q4:=ah s_0.1 s_0.1;letI q0:=bif(decide (q4<0))then q1 else q4;letI q3:=(s_0.1.take (Int.toNat q0)).drop 0;letI q5:=(s_0.1.getD 0 default).hour;letI q2:=aX a2 q5;letI q6:=aY a2 s_0;(s_0.1.length<=aD->((decide (q1 > 0))=true->((cV s_0.1 s_0.1)/\((0<=0/\0<=q0/\q0<=q1)/\((q3.length*40<=c6)/\((0<=0/\0<q1)/\((ib a2 q5 (q2.map uu))/\okL q6 (ct a2 s_0) q2 q3/\(∀ s_1,jO q6 q2 q3=.inr s_1->(((s_0.2++s_1).length*40<=c6)/\((s_0.2++s_1).length<=aD->(0<=q0/\q0<=q1/\q1<=q1)))))))))))
def dU (a0:District)(a1:List Claim)(a2:List Judgement):List Claim×Int:=letI q0:=bw a0 a2;letI q1:=di a0 a1;(bif(q0 !=0)then([],q0)else(bif(q1 !=0)then([],q1)else(match an (cH a1 a2) (a1.length+1) 0 (a1,[])with| .inl x_0_0=>(bif((decide ((x_0_0.length:Int) > 4096)) ||(bI x_0_0))then([],2)else(x_0_0,0)) | .inr s_0=>default)))
def eJ (a0:District)(a1:List Claim)(a2:List Judgement):Prop:=letI q0:=cH a1 a2;((iC a0 a2)/\(((bw a0 a2) !=0)=false->((pF a0 a1)/\(((di a0 a1) !=0)=false->(okI q0 (gQ a1 a2) (a1.length+1) 0 (a1,[])/\(∀ z_,an q0 (a1.length+1) 0 (a1,[])≠ .inr z_))))))
@[go_sem] def sg:List SV->Option Con:=(pD .district fun a0=>(pR .claim fun a1=>(pR .judgement fun a2=>(pE (.det (eJ a0 a1 a2) (.tup [.nw .claim ((dU a0 a1 a2).1),.v (.int .i64 ((dU a0 a1 a2).2))]))))))
theorem zq70 {l0 l1 l2:List Nat}(a0:JL l0)(a1:JL l1)(a2:JL l2){p:Prop}(h:JL l0->JL l1->JL l2->p:=by intro ja jb jc;simp only[go_sem,Nat.reduceBEq,Nat.reduceLeDiff,Nat.reduceLT,decide_true,Nat.reduceAdd,Nat.reduceSub,Nat.reduceMul,Int.reduceLE,Int.reduceLT,Int.reduceToNat,Int.reduceNeg,reduceCtorEq,aB,aL,qB,aY,psT,uu,List.cons_append,List.nil_append,hk0];all_goals exact u0 ja jb jc):p:=h a0 a1 a2
theorem zq71 {l0 l1 l2:List Nat}(a0:JL l0)(a1:JL l1)(a2:JL l2){p:Prop}(h:JL l0->JL l1->JL l2->p:=by intro ja jb jc;simp only[go_sem,Nat.reduceBEq,Nat.reduceLeDiff,Nat.reduceLT,decide_true,Nat.reduceAdd,Nat.reduceSub,Nat.reduceMul,Int.reduceLE,Int.reduceLT,Int.reduceToNat,Int.reduceNeg,reduceCtorEq,aB,aL,qB,aY,psT,uu,List.cons_append,List.nil_append,hk0,hk1];all_goals exact u0 ja jb jc):p:=h a0 a1 a2
theorem zq72 {l0 l1 l2:List Nat}(a0:JL l0)(a1:JL l1)(a2:JL l2){p:Prop}(h:JL l0->JL l1->JL l2->p:=by intro ja jb jc;simp only[go_sem,Nat.reduceBEq,Nat.reduceLeDiff,Nat.reduceLT,decide_true,Nat.reduceAdd,Nat.reduceSub,Nat.reduceMul,Int.reduceLE,Int.reduceLT,Int.reduceToNat,Int.reduceNeg,reduceCtorEq,aB,aL,qB,aY,psT,uu,List.cons_append,List.nil_append,hk0,hk1,hk2];all_goals exact u0 ja jb jc):p:=h a0 a1 a2
theorem Zw {l0 l1 l2:List Nat}(a0:JL l0)(a1:JL l1)(a2:JL l2){p:Prop}(h:JL l0->JL l1->JL l2->p:=by intro ja jb jc;simp only[go_sem,Nat.reduceBEq,Nat.reduceLeDiff,Nat.reduceLT,decide_true,Nat.reduceAdd,Nat.reduceSub,Nat.reduceMul,Int.reduceLE,Int.reduceLT,Int.reduceToNat,Int.reduceNeg,reduceCtorEq,aB,aL,qB,aY,psT,uu,List.cons_append,List.nil_append,hk0,hk1,hk2,hk3];all_goals exact u0 ja jb jc):p:=h a0 a1 a2
theorem Zx {l0 l1 l2:List Nat}(a0:JL l0)(a1:JL l1)(a2:JL l2){p:Prop}(h:JL l0->JL l1->JL l2->p:=by intro ja jb jc;simp only[go_sem,Nat.reduceBEq,Nat.reduceLeDiff,Nat.reduceLT,decide_true,Nat.reduceAdd,Nat.reduceSub,Nat.reduceMul,Int.reduceLE,Int.reduceLT,Int.reduceToNat,Int.reduceNeg,reduceCtorEq,aB,aL,qB];all_goals exact u0 ja jb jc):p:=h a0 a1 a2
theorem zq77 {p:Prop}(h:p:=by simp only[go_sem,Nat.reduceBEq,Nat.reduceLeDiff,Nat.reduceLT,decide_true,Nat.reduceAdd,Nat.reduceSub,Nat.reduceMul,Int.reduceLE,Int.reduceLT,Int.reduceToNat,Int.reduceNeg,reduceCtorEq,aB,aL,qB];all_goals exact cl):p:=h
theorem xg:FnOk Tryz.prog 12 sg:=by
 have hG:ConsOk Tryz.prog (mkG [(16,fun l=>mt (bp [.st .district,.sl .judgement] l)),(32,fun l=>wV (bp [.st .district,.sl .claim] l)),(42,t8),(43,fun l=>aB (bp [.sl .claim,.o] l)),(45,fun l=>rA (bp [.sl .claim] l)),(46,fun l=>sf (bp [.sl .judgement,.o] l)),(48,fun l=>aL (bp [.sl .claim,.o] l))] [(47,qA),(88,jS),(89,kB),(90,kC)]):=ar (cgc (oW.norm [.st .district,.sl .judgement]) (cgc (Br.norm [.st .district,.sl .claim]) (cgc yM (cgc (ii.norm [.sl .claim,.o]) (cgc (wm.norm [.sl .claim]) (cgc (xf.norm [.sl .judgement,.o]) (cgc (kT.norm [.sl .claim,.o]) cg0))))))) (cgc zy (cgc tC (cgc ur (cgc ut cg0))));refine F5 [(.tmp 6,.claim)] mixed ak hG (fn:=Tryz.f12) (c:=ae Tryz.f12) kr kr kr kr (bk fun a0=>(bC fun a1=>(bC fun a2=>(ai (fun hp=>?_)))));dsimp only[ax]at hp;unfold eJ at hp;refine⟨nbl rfl,(fun id st=>bif Nat.beq id 0 then some (LCV (ρ:=(List Claim)) (σ:=(List Claim×List Claim)) 4 [.slot 6 (.row .claim ([]))] [0,1,2,3,4] (fun k_0 s_0=>⟨[(2,.rs .judgement a2),(4,.ptr 1 0),(6,.os 4),(8,.ptr 3 0)],[.dead,.cells [.rs .claim s_0.1],.mp .int .fnc fZ none,.cells [.os 2],.row .claim s_0.2]⟩) (cH a1 a2) (gQ a1 a2) (a1.length+1) (a1,[]) (fun _=>.normal) (fun x_0_0=>⟨[(6,.os 4)],[.dead,.dead,.dead,.dead,.row .claim x_0_0]⟩) st)else none),?_,?_⟩
 ·unfold ae Tryz.f12;simp only[am,true_and,and_true]
  ·refine rq mixed ak hG kr (fun _=>rfl) fun k_0 s_0 hq0=>⟨(fun id st=>bif Nat.beq id 1000032 then some (JC (⟨[(2,.rs .judgement a2),(4,.ptr 1 0),(6,.os 4),(8,.ptr 3 0),(9,.v (.int .i64 (bif(decide ((ah s_0.1 s_0.1) <0))then(s_0.1.length:Int)else(ah s_0.1 s_0.1))))],[.dead,.cells [.rs .claim s_0.1],.mp .int .fnc fZ none,.cells [.os 2],.row .claim s_0.2]⟩))else bif Nat.beq id 2 then some (LC (ρ:=Empty) (σ:=List Claim) (lk 2 st.t=.rs .judgement a2/\lk 4 st.t=.ptr 1 0/\lk 6 st.t=.os 4/\lk 8 st.t=.ptr 3 0/\lk 9 st.t=.v (.int .i64 (bif(decide ((ah s_0.1 s_0.1) <0))then(s_0.1.length:Int)else(ah s_0.1 s_0.1)))/\lk 10 st.t=.ptr 6 0/\lk 44 st.t=.fn 91 [] [.ep [.rs .judgement a2] 0,.ep [.v (.int .i64 ((s_0.1.getD 0 (default:Claim)).hour))] 0]/\st.h=[.dead,.cells [.rs .claim s_0.1],.mp .int .fnc fZ none,.cells [.os 2],.row .claim s_0.2,.row .claim ((s_0.1.take (Int.toNat (bif(decide ((ah s_0.1 s_0.1) <0))then(s_0.1.length:Int)else(ah s_0.1 s_0.1)))).drop 0),.cells [.os 5]]/\ib a2 ((s_0.1.getD 0 (default:Claim)).hour) ((aX a2 ((s_0.1.getD 0 (default:Claim)).hour)).map uu)/\okL (aY a2 s_0) (ct a2 s_0) (aX a2 ((s_0.1.getD 0 (default:Claim)).hour)) ((s_0.1.take (Int.toNat (bif(decide ((ah s_0.1 s_0.1) <0))then(s_0.1.length:Int)else(ah s_0.1 s_0.1)))).drop 0)) (jO (aY a2 s_0) (aX a2 ((s_0.1.getD 0 (default:Claim)).hour)) ((s_0.1.take (Int.toNat (bif(decide ((ah s_0.1 s_0.1) <0))then(s_0.1.length:Int)else(ah s_0.1 s_0.1)))).drop 0)) (fun x=>x.elim) (fun x=>x.elim) (fun s_1=>⟨[(2,.rs .judgement a2),(4,.ptr 1 0),(6,.os 4),(8,.ptr 3 0),(9,.v (.int .i64 (bif(decide ((ah s_0.1 s_0.1) <0))then(s_0.1.length:Int)else(ah s_0.1 s_0.1)))),(10,.ptr 6 0)],[.dead,.cells [.rs .claim s_0.1],.mp .int .fnc fZ none,.cells [.os 2],.row .claim s_0.2,.dead,.cells [.os 7],.row .claim s_1]⟩))else none),?_,?_⟩
   ·simp only[am,true_and,and_true]
    ·refine xz mixed ak hG (by decide) (by decide) kr kr fun st lc hC hp=>?_;simp only[go_sem,Nat.reduceBEq,Option.some.injEq]at hC;subst hC;obtain⟨t,h⟩:=st;dsimp only[LC]at hp;obtain⟨e1_0,e1_1,e1_2,e1_3,e1_4,e1_5,e1_6,rfl,hb1,hok1⟩:=hp;refine⟨91,[.ep [.rs .judgement a2] 0,.ep [.v (.int .i64 ((s_0.1.getD 0 (default:Claim)).hour))] 0],Judgement,_,_,(aX a2 ((s_0.1.getD 0 (default:Claim)).hour)),uu,(aY a2 s_0),(ct a2 s_0),_,((s_0.1.take (Int.toNat (bif(decide ((ah s_0.1 s_0.1) <0))then(s_0.1.length:Int)else(ah s_0.1 s_0.1)))).drop 0),_,_,_,[(2,.rs .judgement a2),(4,.ptr 1 0),(6,.os 4),(8,.ptr 3 0),(9,.v (.int .i64 (bif(decide ((ah s_0.1 s_0.1) <0))then(s_0.1.length:Int)else(ah s_0.1 s_0.1)))),(10,.ptr 6 0)],(fun s_1=>[.dead,.cells [.rs .claim s_0.1],.mp .int .fnc fZ none,.cells [.os 2],.row .claim s_0.2,.dead,.cells [.os 7],.row .claim s_1]),(fun x=>x.elim),[0,1,2,3,4,5,6,5],?_,rfl,hok1,nbl rfl,?_,vT a2 ((s_0.1.getD 0 (default:Claim)).hour) _ hb1,fun z_1 s_1 hq1=>⟨rfl,L0,fun l=>?_,fun l=>?_,?_⟩,fun s_1=>?_,fun y=>?_⟩
     ·simp only[go_sem,e1_0,e1_1,e1_2,e1_3,e1_4,e1_5,e1_6]
     ·simp only[go_sem,Nat.reduceBEq,Nat.reduceLeDiff,Nat.reduceLT,decide_true,Nat.reduceAdd,Nat.reduceSub,Nat.reduceMul,Int.reduceLE,Int.reduceLT,Int.reduceToNat,Int.reduceNeg,reduceCtorEq,v7,od,List.flatMap_cons,List.flatMap_nil,List.nil_append,List.append_nil,List.map_nil,e1_0,e1_1,e1_2,e1_3,e1_4,e1_5,e1_6];all_goals (first|done|decide|(repeat' (first|refine And.intro ?_ ?_|rfl|decide)))
     ·simp only[am,and_self,true_and,and_true]
     ·simp only[am,and_self,true_and,and_true]
     ·unfold ct at hq1;rcases Bool.eq_false_or_eq_true (z_1.kind==1)with hk0|hk0
      ·exact zq70 (jl [0,1,2,3,4,5,6,9]) (jl [0,1,2,3,4,5,6,10]) (jl [0,1,2,3,4,5,6,7])
      rcases Bool.eq_false_or_eq_true (z_1.kind==2)with hk1|hk1
      ·exact zq71 (jl [0,1,2,3,4,5,6,9]) (jl [0,1,2,3,4,5,6,10]) (jl [0,1,2,3,4,5,6,7])
      rcases Bool.eq_false_or_eq_true (z_1.kind==3)with hk2|hk2
      ·exact zq72 (jl [0,1,2,3,4,5,6,9]) (jl [0,1,2,3,4,5,6,10]) (jl [0,1,2,3,4,5,6,7])
      rcases Bool.eq_false_or_eq_true (z_1.kind==4)with hk3|hk3
      ·exact Zw (jl [0,1,2,3,4,5,6,9]) (jl [0,1,2,3,4,5,6,10]) (jl [0,1,2,3,4,5,6,7])
      exact Zw (jl [0,1,2,3,4,5,6,9]) (jl [0,1,2,3,4,5,6,10]) (jl [0,1,2,3,4,5,6,7])
     ·exact Zx (jl [0,1,2,3,4,5,6,9]) (jl [0,1,2,3,4,5,6,10]) (jl [0,1,2,3,4,5,6,7])
     ·exact Zx (jl [0,1,2,3,4,5,6,9]) (jl [0,1,2,3,4,5,6,10]) (jl [0,1,2,3,4,5,6,7])
   ·unfold gQ at hq0;exact Dn (jl [0,1,2,3,8]) (jl [0,1,2,3,4])
 ·unfold ae Tryz.f12;try unfold dU
  exact zq77
theorem H2 (x:Int)(l:List Int):iM (x::l)=if x=0 then iM l else x:=by
 have key:∀ l:List Int,iM l=match jO (ρ:=Int) (fun(x:Int) (_:Unit) =>bif(x !=0)then .inl x else .inr ()) l ()with| .inl y=>y| .inr _=>0:=fun l=>by
  unfold iM;have:=zl (ρ:=Int) (fun(x:Int) (_:Unit) =>bif(x !=0)then .inl x else .inr ()) 0 l ();rw[<-this];rfl
 rw[key,key];simp only[jO];by_cases h:x=0
 ·subst h;rfl
 ·have:(x !=0)=true:=by simpa using h
  rw[if_neg h,this];rfl
theorem JO:iM []=0:=rfl
theorem Do:∀ l:List (Int×Int),(iM (l.map fun p=>cK p.1 p.2) <0↔un l)
 | [] =>by simp[JO,un]
 |(a,b)::r=>by
  have hc:=w6 a b;simp only[List.map_cons,H2,hc,un];rcases Int.lt_trichotomy a b with h|h|h
  ·simp[h]
  ·subst h;simp only[Int.lt_irrefl,if_false,if_true,true_and,false_or,gt_iff_lt];exact Do r
  ·have h1:¬a<b:=by omega
   have h2:a≠b:=by omega
   simp[h1,h2,h]
def zz (a b:Claim):Prop:=un [(a.hour,b.hour),(a.rank,b.rank),(a.right,b.right),(a.farm,b.farm)]
theorem zA (a b:Claim):ll a b<0↔zz a b:=Do [(a.hour,b.hour),(a.rank,b.rank),(a.right,b.right),(a.farm,b.farm)]
theorem yN (a b:Claim):aK a b=decide (ll a b<0):=by
 rw[Bool.eq_iff_iff,decide_eq_true_eq,zA];unfold aK;simp only[zz,un,and_false,or_false];by_cases h1:a.hour=b.hour
 ·rw[show(a.hour !=b.hour)=false by simpa using h1,cond_false];by_cases h2:a.rank=b.rank
  ·rw[show(a.rank !=b.rank)=false by simpa using h2,cond_false];by_cases h3:a.right=b.right
   ·rw[show(a.right !=b.right)=false by simpa using h3,cond_false,decide_eq_true_eq];omega
   ·rw[show(a.right !=b.right)=true by simpa using h3,cond_true,decide_eq_true_eq];omega
  ·rw[show(a.rank !=b.rank)=true by simpa using h2,cond_true,decide_eq_true_eq];omega
 ·rw[show(a.hour !=b.hour)=true by simpa using h1,cond_true,decide_eq_true_eq];omega
theorem u5 {α:Type}(l:List α)(d:α){k:Nat}(hk:k<l.length):l.getD k d∈l:=by rw[qR l d hk];exact List.getElem_mem hk
theorem JP {a b c:Claim}(h1:zz a b)(h2:zz b c):zz a c:=by simp only[zz,un,and_false,or_false]at *;omega
structure FineC (d:District)(x:Claim):Prop where
 r0:0<=x.right
 r1:x.right< (d.rights.length:Int)
 f0:0<=x.farm
 f1:x.farm< (d.farms.length:Int)
 h0:0<=x.hour
 h1:x.hour<d.hours
 l0:1<=x.litres
 l1:x.litres<=1073741824
 kind:(d.rights.getD x.right.toNat default).kind=1
 rank:(d.rights.getD x.right.toNat default).rank=x.rank
def zB (d:District)(x:Claim):Bool:=(((((((decide (x.right>=0))&&(decide (x.right< (d.rights.length:Int))))&&(decide (x.farm>=0)))&&(decide (x.farm< (d.farms.length:Int))))&&(decide (x.hour>=0)))&&(decide (x.hour<d.hours)))&&(decide (x.litres>=1)))&&(decide (x.litres<=1073741824))
theorem xF (d:District)(x:Claim):zB d x=true↔(0<=x.right/\x.right< (d.rights.length:Int))/\(0<=x.farm/\x.farm< (d.farms.length:Int))/\(0<=x.hour/\x.hour<d.hours)/\(1<=x.litres/\x.litres<=1073741824):=by
 unfold zB;simp only[Bool.and_eq_true,decide_eq_true_eq];omega
theorem EW (d:District)(x:Claim):FineC d x↔zB d x=true/\(d.rights.getD x.right.toNat default).kind=1/\(d.rights.getD x.right.toNat default).rank=x.rank:=by
 rw[xF];exact⟨fun h=>⟨⟨⟨h.r0,h.r1⟩,⟨h.f0,h.f1⟩,⟨h.h0,h.h1⟩,h.l0,h.l1⟩,h.kind,h.rank⟩,fun h=>⟨h.1.1.1,h.1.1.2,h.1.2.1.1,h.1.2.1.2,h.1.2.2.1.1,h.1.2.2.1.2,h.1.2.2.2.1,h.1.2.2.2.2,h.2.1,h.2.2⟩⟩
theorem not8 (d:District)(x:Claim):((((((((decide (x.right<0)) ||(decide (x.right>=(d.rights.length:Int)))) ||(decide (x.farm<0))) ||(decide (x.farm>=(d.farms.length:Int)))) ||(decide (x.hour<0))) ||(decide (x.hour>=d.hours))) ||(decide (x.litres<1))) ||(decide (x.litres > 1073741824)))= !zB d x:=by
 rw[Bool.eq_iff_iff,Bool.not_eq_true',<-Bool.not_eq_true,xF];simp only[Bool.or_eq_true,decide_eq_true_eq];omega
theorem Gc (d:District)(x:Claim):ul d x/\(mS d x=true↔FineC d x):=by
 unfold ul mS;rw[not8,EW];cases h:zB d x with
 |false=>exact⟨(fun h=>by cases h),by simp⟩
 |true=>
  have:=(xF d x).1 h;exact⟨fun _=>⟨this.1,fun _=>this.1⟩,by simp⟩
theorem Pc (d:District)(c:List Claim)(k:Nat)(hk:k<4097):gY d c k ()=pN d c k ()/\(gY d c k ()=.inr ()↔FineC d (c.getD k default)/\(0<k->ll (c.getD (k - 1) default) (c.getD k default) <0)):=by
 have hw:0<k->Int.toNat (i64.wrap ((k:Int) - 1))=k - 1:=fun h=>by rw[fE (by omega) (by omega)];omega
 have e:(((((!(zB d (c.getD k default))) ||((d.rights.getD (Int.toNat (c.getD k default).right) default).kind !=1)) ||((d.rights.getD (Int.toNat (c.getD k default).right) default).rank !=(c.getD k default).rank)) ||((decide ((k:Int) > 0))&&(decide ((ll (c.getD (Int.toNat (i64.wrap ((k:Int) - 1))) default) (c.getD k default))>=0)))))=(((!(mS d (c.getD k default))) ||((decide ((k:Int) > 0))&&(!(aK (c.getD (Int.toNat (i64.wrap ((k:Int) - 1))) default) (c.getD k default)))))):=by
  rw[yN];have h1:(((!(zB d (c.getD k default))) ||((d.rights.getD (Int.toNat (c.getD k default).right) default).kind !=1)) ||((d.rights.getD (Int.toNat (c.getD k default).right) default).rank !=(c.getD k default).rank))= !(mS d (c.getD k default)):=by
   rw[Bool.eq_iff_iff,Bool.not_eq_true',<-Bool.not_eq_true,(Gc _ _).2,EW];simp only[Bool.or_eq_true,Bool.not_eq_true',bne_iff_ne,ne_eq];cases zB d (c.getD k default) <;>simp;constructor
   ·rintro (h|h) h2 h3
    ·exact h h2
    ·exact h h3
   ·intro h;by_cases h2:(d.rights.getD (Int.toNat (c.getD k default).right) default).kind=1
    ·exact .inr (h h2)
    ·exact .inl h2
  rw[h1];congr 2
  rw[<-decide_not];exact decide_eq_decide.2 (by omega)
 refine⟨?_,?_⟩
 ·show(bif _ then Sum.inl ()else Sum.inr ())=(bif _ then Sum.inl ()else Sum.inr ());exact congrArg (fun b=>(bif b then Sum.inl ()else Sum.inr ():Unit⊕Unit)) e
 ·show(bif _ then Sum.inl ()else Sum.inr ())=_↔_;rw[uy];refine Iff.trans (b:=(((!(mS d (c.getD k default))) ||((decide ((k:Int) > 0))&&(!(aK (c.getD (Int.toNat (i64.wrap ((k:Int) - 1))) default) (c.getD k default))))))=false) (by rw[<-e];rfl) ?_;rw[yN];rw[Bool.or_eq_false_iff,Bool.not_eq_false',(Gc _ _).2];by_cases hk0:0<k
  ·rw[hw hk0,decide_eq_true (show(k:Int) > 0 by omega)];simp[hk0]
  ·rw[decide_eq_false (show ¬ (k:Int) > 0 by omega)];simp[hk0]
theorem Pd (d:District)(c:List Claim):pF d c:=fun _ _ h _=>j7 _ _ _ fun j _ _ hj=>by
 have hle:c.length<=4096:=by have:=of_decide_eq_false h;omega
 have h8:=xF d (c.getD j default);unfold zB at h8;unfold mn;refine⟨fun h=>?_,fun h=>?_,fun h h0=>?_⟩
 ·rw[Bool.not_eq_false']at h;exact(h8.1 h).1
 ·rw[Bool.or_eq_false_iff,Bool.not_eq_false']at h;exact(h8.1 h.1).1
 ·have h0:=of_decide_eq_true h0;rw[fE (by omega) (by omega)];omega
theorem MG (d:District)(c:List Claim):ya d c:=⟨EQ d,fun _ _ h=>j7 _ _ _ fun j _ _ hj=>fun _=>⟨(Gc _ _).1,fun _ h0=>by
 have h0:=of_decide_eq_true h0;have hle:c.length<=4096:=by have:=of_decide_eq_false h;omega
 rw[fE (by omega) (by omega)];omega⟩⟩
theorem EX {ρ σ:Type}{f g:Nat->σ->ρ⊕σ}:∀ (n i:Nat) (s:σ),(∀ j s,i<=j->j<i+n->f j s=g j s)->an f n i s=an g n i s
 |0,_,_,_=>rfl
 |n+1,i,s,h=>by
  rw[an,an,h i s (Nat.le_refl _) (by omega)];cases g i s with
  |inl x=>rfl
  |inr s'=>exact EX n (i+1) s' fun j s h1 h2=>h j s (by omega) (by omega)
theorem EY (d:District)(c:List Claim):di d c=tT d c:=by
 unfold di tT;rw[<-w7];cases bW d !=0 with
 |true=>rfl
 |false=>
  simp only[cond_false];by_cases hl:(c.length:Int) > 4096
  ·rw[decide_eq_true hl];rfl
  ·rw[decide_eq_false hl];simp only[cond_false];rw[EX (f:=gY d c) (g:=pN d c) c.length 0 () fun j s _ hj=>(Pc d c j (by omega)).1];try rfl
theorem Vl {d:District}{c:List Claim}(he:bW d=0)(hl:c.length<=4096)(h1:∀ x∈c,FineC d x)(h2:c.Pairwise zz):di d c=0:=by
 unfold di;rw[he,decide_eq_false (show ¬ (c.length:Int) > 4096 by omega)];simp only[bne_self_eq_false,cond_false];have:an (gY d c) c.length 0 ()=.inr ():=kA.2 fun j hj=>((Pc d c j (by omega)).2).2 ⟨h1 _ (u5 _ default hj),fun h0=>by
  rw[List.pairwise_iff_getElem]at h2;rw[zA,qR c default (show j - 1<c.length by omega),qR c default hj];exact h2 (j - 1) j (by omega) hj (by omega)⟩
 rw[this]
theorem JQ {d:District}{c:List Claim}(h:di d c=0):bW d=0/\c.length<=4096/\(∀ x∈c,FineC d x)/\c.Pairwise zz:=by
 unfold di at h;cases he:(bW d !=0)with
 |true=>rw[he]at h;simp only[cond_true]at h;rw[h]at he;cases he
 |false=>
  rw[he]at h;simp only[cond_false]at h;by_cases hl:c.length<=4096
  ·rw[decide_eq_false (show ¬ (c.length:Int) > 4096 by omega)]at h;simp only[cond_false]at h;cases hr:an (gY d c) c.length 0 ()with
   |inl y=>rw[hr]at h;cases h
   |inr s=>
    have h1:∀ k,k<c.length->FineC d (c.getD k default)/\(0<k->zz (c.getD (k - 1) default) (c.getD k default)):=fun k hk=>by
     have h2:=(Pc d c k (by omega)).2.1 (pa hr k (by omega) (by omega));exact⟨h2.1,fun h0=>(zA _ _).1 (h2.2 h0)⟩
    have hlt:∀ k i,i<k->k<c.length->zz (c.getD i default) (c.getD k default):=fun k=>by
     induction k with
     |zero=>intro i hi;omega
     |succ k ih=>
      intro i hi hk;have h2:=(h1 (k+1) hk).2 (by omega);rw[Nat.add_sub_cancel]at h2;by_cases hik:i=k
      ·subst hik;exact h2
      ·exact JP (ih i (by omega) (by omega)) h2
    refine⟨by simpa using he,hl,fun x hx=>?_,?_⟩
    ·obtain⟨k,hk,rfl⟩:=List.getElem_of_mem hx;have:=(h1 k hk).1
     rwa[qR _ _ hk]at this
    ·rw[List.pairwise_iff_getElem];intro i j hi hj hij;have:=hlt j i hij hj
     rwa[qR _ _ hi,qR _ _ hj]at this
  ·rw[decide_eq_true (show(c.length:Int) > 4096 by omega)]at h;cases h
theorem Zy {ρ σ:Type}{step:Nat->σ->ρ⊕σ}{p:Nat->σ->Prop}(m:σ->Nat)(J:σ->Prop)(Q:ρ->Prop)(h:∀ k s,J s->p k s/\((∃ r,step k s=.inl r/\Q r)\/∃ s',step k s=.inr s'/\m s'<m s/\J s')):∀ (n i:Nat) (s:σ),J s->m s<n->okI step p n i s/\∃ r,an step n i s=.inl r/\Q r
 |0,_,_,_,hm=>absurd hm (Nat.not_lt_zero _)
 |n+1,i,s,hJ,hm=>by
  obtain⟨h1,h2⟩:=h i s hJ;rcases h2 with⟨r,e,hq⟩ | ⟨s',e,hlt,hJ'⟩
  ·refine⟨⟨h1,fun s'' e'=>?_⟩,r,?_,hq⟩
   ·rw[e]at e';cases e'
   ·simp only[an,e]
  ·obtain⟨q1,q2⟩:=Zy m J Q h n (i+1) s' hJ' (by omega);refine⟨⟨h1,fun s'' e'=>?_⟩,?_⟩
   ·rw[e]at e';cases e';exact q1
   ·simp only[an,e];exact q2
theorem Zz {ρ σ:Type}{x:ρ⊕σ}{Q:ρ->Prop}(h:∃ r,x=.inl r/\Q r):∀ z,x≠ .inr z:=fun z e=>by
 obtain⟨r,e1,_⟩:=h;rw[e1]at e;cases e
theorem fK {α:Type}(A:List α)(x d:α)(T:List α){i:Nat}(h:i=A.length):(A++x::T).getD i d=x:=by
 subst h;simp[List.getD_eq_getElem?_getD]
theorem Pe {α:Type}(A:List α)(x y:α)(T:List α){i:Nat}(h:i=A.length):(A++x::T).set i y=A++y::T:=by
 subst h;simp
theorem Pf (K G:List Claim):((B9 .claim (K++G) (K.length:Int) ((K++G).length:Int)).take K.length)=K:=by
 unfold B9;simp only[Int.toNat_natCast];split
 ·rename_i h;rw[List.length_append]at h;have:G=[]:=List.eq_nil_of_length_eq_zero (by omega);subst this;simp
 ·simp
theorem zC {α:Type}{step:Nat->Unit->Int⊕Unit}(l:List α)(d:α)(P:α->Bool)(h:∀ k,k<l.length->step k ()=bif P (l.getD k d)then .inl (k:Int)else .inr ()):(an step l.length 0 ()=.inr ()/\∀ x∈l,P x=false)\/∃ K x R,l=K++x::R/\an step l.length 0 ()=.inl (K.length:Int)/\P x=true/\∀ y∈K,P y=false:=by
 have key:∀ (R K:List α),l=K++R->(∀ y∈K,P y=false)->(an step R.length K.length ()=.inr ()/\∀ x∈l,P x=false)\/∃ K' x R',l=K'++x::R'/\an step R.length K.length ()=.inl (K'.length:Int)/\P x=true/\∀ y∈K',P y=false:=fun R=>by
  induction R with
  |nil=>exact fun K h hK=>.inl ⟨rfl,fun x hx=>hK x (by rw[h]at hx;simpa using hx)⟩
  |cons x R ih=>
   intro K hl hK;have e:=h K.length (by rw[hl];simp);have g:l.getD K.length d=x:=by rw[hl];simp[List.getD_eq_getElem?_getD]
   rw[g]at e;simp only[List.length_cons,an,e];cases hx:P x with
   |true=>exact .inr ⟨K,x,R,hl,rfl,hx,hK⟩
   |false=>
    simp only[cond_false];have:=ih (K++[x]) (by rw[hl];simp) (fun y hy=>by
     rcases List.mem_append.1 hy with hy|hy
     ·exact hK y hy
     ·simp at hy;subst hy;exact hx)
    rw[List.length_append]at this;exact this
 exact key l [] rfl (by simp)
theorem MH (l:List Claim)(hl:l.length<2 ^ 47):aN l/\aH l=l.filter fun x=>!ap x:=by
 have hI:(az l= -1/\∀ x∈l,ap x=false)\/∃ K x R,l=K++x::R/\az l=(K.length:Int)/\ap x=true/\∀ y∈K,ap y=false:=by
  unfold az;rcases zC (step:=dc l) l default (fun x=>ap x) (fun k _=>rfl)with⟨e,h⟩ | ⟨K,x,R,h1,e,h2,h3⟩
  ·rw[e];exact .inl ⟨rfl,h⟩
  ·rw[e];exact .inr ⟨K,x,R,h1,rfl,h2,h3⟩
 unfold aN aH;rcases hI with⟨e,h⟩ | ⟨K,x,R,hl0,e,h2,h3⟩
 ·rw[e];refine⟨(fun h=>by cases h),?_⟩;simp only[BEq.rfl,cond_true];exact(List.filter_eq_self.2 fun x hx=>by rw[h x hx];rfl).symm
 ·have b:((K.length:Int) == -1)=false:=by simp only[beq_eq_false_iff_ne];omega
  have hlen:l.length=K.length+(R.length+1):=by rw[hl0];simp
  have w:i64.wrap ((K.length:Int)+1)=((K.length+1:Nat):Int):=by rw[fE (by omega) (by omega)];omega
  rw[e,w];simp only[b,cond_false];obtain⟨k1,r,k2,K',G',rfl,k3⟩:okI (aU l) (bb l) (l.length+1) 0 (l,(K.length:Int),((K.length+1:Nat):Int))/\∃ r,an (aU l) (l.length+1) 0 (l,(K.length:Int),((K.length+1:Nat):Int))=.inl r/\∃ K' G',r=((K'.length:Int),K'++G')/\K'=l.filter fun x=>!ap x:=by
   refine Zy (fun s:List Claim×Int×Int=>((l.length:Int) - s.2.2).toNat) (fun s:List Claim×Int×Int=>∃ K' g G' R',s=(K'++g::(G'++R'),(K'.length:Int),((K'.length+(G'.length+1):Nat):Int))/\K'.length+(G'.length+1)+R'.length=l.length/\(l.filter fun x=>!ap x)=K'++R'.filter fun x=>!ap x) _ ?_ _ _ _ ⟨K,x,[],R,by rw[hl0];simp,by rw[hlen];simp;omega,?_⟩ (by simp only;omega)
   ·rintro k s ⟨K',g,G',R',rfl,hn,hF⟩;have hL:(K'++g::(G'++R')).length=l.length:=by rw[<-hn];simp;omega
    unfold bb aU;simp only[hL];cases R' with
    |nil=>
     have e1:decide (((K'.length+(G'.length+1):Nat):Int) < (l.length:Int))=false:=by rw[decide_eq_false_iff_not];simp only[List.length_nil]at hn;omega
     simp only[e1,cond_false];exact⟨(fun _ h=>by cases h),.inl ⟨_,rfl,K',g::(G'++[]),rfl,by simpa using hF.symm⟩⟩
    |cons y R'=>
     simp only[List.length_cons]at hn;have e1:decide (((K'.length+(G'.length+1):Nat):Int) < (l.length:Int))=true:=by rw[decide_eq_true_eq];omega
     have gy:(K'++g::(G'++y::R')).getD (K'.length+(G'.length+1)) default=y:=by
      have:K'++g::(G'++y::R')=(K'++g::G')++y::R':=by simp
      rw[this];exact fK _ _ _ _ (by simp)
     have w1:i64.wrap (((K'.length+(G'.length+1):Nat):Int)+1)=((K'.length+(G'.length+1)+1:Nat):Int):=by rw[fE (by omega) (by omega)];omega
     have w2:i64.wrap ((K'.length:Int)+1)=((K'.length+1:Nat):Int):=by rw[fE (by omega) (by omega)];omega
     simp only[e1,cond_true,Int.toNat_natCast,gy,w1,w2];refine⟨fun _ _=>⟨by omega,fun _=>by omega⟩,.inr ?_⟩;cases hy:ap y with
     |false=>
      obtain⟨g',G2,hG⟩:∃ g' G2,G'++[y]=g'::G2:=by
       cases G' with
       |nil=>exact⟨y,[],rfl⟩
       |cons a b=>exact⟨a,b++[y],rfl⟩
      have hGl:G'.length+1=G2.length+1:=by have:=congrArg List.length hG;simpa using this
      refine⟨_,rfl,by simp only;omega,K'++[y],g',G2,R',?_,?_,?_⟩
      ·rw[Pe K' g y _ rfl];have h1:g'::(G2++R')=G'++y::R':=by rw[<-List.cons_append,<-hG];simp
       rw[List.append_assoc,h1,Prod.mk.injEq,Prod.mk.injEq];refine⟨by simp,by simp,?_⟩;rw[List.length_append];simp only[List.length_cons,List.length_nil];omega
      ·rw[List.length_append];simp only[List.length_cons,List.length_nil];omega
      ·rw[hF,List.filter_cons_of_pos (by rw[hy];rfl)];simp
     |true=>
      refine⟨_,rfl,by simp only;omega,K',g,G'++[y],R',?_,by rw[List.length_append];simp only[List.length_cons,List.length_nil];omega,?_⟩
      ·have:(G'++[y])++R'=G'++y::R':=by simp
       rw[this,List.length_append,Prod.mk.injEq,Prod.mk.injEq];exact⟨rfl,rfl,by simp only[List.length_cons,List.length_nil];omega⟩
      ·rw[hF,List.filter_cons_of_neg (by rw[hy];simp)]
   ·rw[hl0,List.filter_append,List.filter_cons_of_neg (by rw[h2];simp)];congr 1
    exact List.filter_eq_self.2 fun y hy=>by rw[h3 y hy];rfl
  refine⟨fun _=>⟨k1,Zz (Q:=fun _=>True) ⟨_,k2,trivial⟩,fun z hz=>?_⟩,?_⟩
  ·rw[k2]at hz;cases hz;have:(B9 .claim (K'++G') (K'.length:Int) ((K'++G').length:Int)).length=(K'++G').length:=by
    unfold B9;simp only[Int.toNat_natCast];split
    ·rfl
    ·simp <;>omega
   simp only[this];simp only[List.length_append];omega
  ·rw[k2];simp only[Int.toNat_natCast,List.drop_zero];rw[Pf,k3]
open Go.Shelf Go.Sort in
theorem JS {α:Type}{cf:α->α->Int}(hO:SWO (ltOf cf)){s m:List α}(hp:s.Perm m)(hm:m.Pairwise fun x y=>cf x y<0):apart cf s/\srt cf s=m:=by
 have e1:∀ x y,ltOf cf x y=true↔cf x y<0:=fun x y=>by unfold ltOf;rw[decide_eq_true_eq]
 have hex:∀ x∈m,∀ y∈m,ltOf cf x y=false->ltOf cf y x=false->x=y:=fun x hx y hy h1 h2=>by
  obtain⟨i,hi,rfl⟩:=List.mem_iff_getElem.1 hx;obtain⟨j,hj,rfl⟩:=List.mem_iff_getElem.1 hy;rw[List.pairwise_iff_getElem]at hm;rcases Nat.lt_trichotomy i j with h|h|h
  ·rw[(e1 _ _).2 (hm i j hi hj h)]at h1;cases h1
  ·subst h;rfl
  ·rw[(e1 _ _).2 (hm j i hj hi h)]at h2;cases h2
 refine⟨fun x hx y hy h1 h2=>hex x (hp.subset hx) y (hp.subset hy) h1 h2,?_⟩;unfold srt;have hq:(s.mergeSort fun x y=>!(ltOf cf y x)).Perm m:=(List.mergeSort_perm _ _).trans hp;refine List.Perm.eq_of_pairwise (le:=fun x y=>(!ltOf cf y x)=true) ?_ ?_ ?_ hq
 ·intro x y hx hy h1 h2;simp only[Bool.not_eq_true']at h1 h2;exact hex x (hq.subset hx) y hy h2 h1
 ·refine List.pairwise_mergeSort ?_ ?_ s
  ·intro a b c h1 h2;simp only[Bool.not_eq_true']at h1 h2 |-;exact hO.3 c b a h2 h1
  ·intro a b;simp only[Bool.or_eq_true,Bool.not_eq_true'];cases h1:ltOf cf b a with
   |false=>exact .inl rfl
   |true=>
    right;cases h2:ltOf cf a b with
    |false=>rfl
    |true=>have:=hO.2 _ _ _ h1 h2;rw[hO.1]at this;cases this
 ·refine hm.imp fun {a b} hab=>?_;simp only[Bool.not_eq_true'];cases h2:ltOf cf b a with
  |false=>rfl
  |true=>have:=hO.2 _ _ _ ((e1 _ _).2 hab) h2;rw[hO.1]at this;cases this
theorem MI {n:Nat}(h:n<2 ^ 47):0<=((Go.Lib.bitLen n:Nat):Int)/\((Go.Lib.bitLen n:Nat):Int) <4611686018427387904:=by
 have:Go.Lib.bitLen n<=47:=Go.Lib.bitLen_le n 47 (by omega) h;omega
theorem Gd {l m:List Claim}(hl:l.length<2 ^ 46)(hp:(l.filter fun x=>!ap x).Perm m)(hm:m.Pairwise tlt):cJ l/\du l=m:=by
 obtain⟨h1,h2⟩:=MH l (by omega);obtain⟨h3,h4⟩:=JS HJ hp (hm.imp fun {a b} h=>(K3 a b).2 h);unfold cJ du aZ bf;rw[h2];refine⟨⟨h1,fun hL=>?_⟩,h4⟩;have hw:u64.wrap ((l.filter fun x=>!ap x).length:Int)=((l.filter fun x=>!ap x).length:Int):=OS (by omega) (by unfold aD at hL;omega);rw[hw];have hb:=MI (n:=(l.filter fun x=>!ap x).length) (by have:=List.length_filter_le (fun x=>!ap x) l;omega);refine⟨⟨by omega,by unfold aD at hL;omega⟩,rfl,rfl,?_,?_,h3⟩
 ·rw[Int.toNat_natCast];exact hb.1
 ·rw[Int.toNat_natCast];exact hb.2
def tb (s:Int)(k:Nat):Bool:=(BitVec.ofInt 64 s).getLsbD k
theorem Sc (v:BitVec 64):u64.wrap ((v.toNat:Nat):Int)=((v.toNat:Nat):Int):=by
 have:=v.isLt;simp[IntKind.wrap,IntKind.bits,IntKind.signed];omega
theorem ofw (v:BitVec 64):BitVec.ofInt 64 ((v.toNat:Nat):Int)=v:=by simp
theorem Ge (a b:Int)(k:Nat):tb (wi .u64 a b) k=(tb a k&&tb b k):=by
 have e:wi .u64 a b=(((BitVec.ofInt 64 a&&&BitVec.ofInt 64 b).toNat:Nat):Int):=Sc _;unfold tb;rw[e,ofw,BitVec.getLsbD_and]
theorem Te (a b:Int)(k:Nat):tb (orI .u64 a b) k=(tb a k||tb b k):=by
 have e:orI .u64 a b=(((BitVec.ofInt 64 a|||BitVec.ofInt 64 b).toNat:Nat):Int):=Sc _;unfold tb;rw[e,ofw,BitVec.getLsbD_or]
theorem La (a b:Int){k:Nat}(hk:k<64):tb (nJ .u64 a b) k=(tb a k&& !tb b k):=by
 have e:nJ .u64 a b=(((BitVec.ofInt 64 a&&& ~~~(BitVec.ofInt 64 b)).toNat:Nat):Int):=Sc _;unfold tb;rw[e,ofw,BitVec.getLsbD_and,BitVec.getLsbD_not];simp[hk]
theorem MJ (a b:Int):(nJ .u64 a b==0)=true↔∀ k,k<64->tb (nJ .u64 a b) k=false:=by
 have e:nJ .u64 a b=(((BitVec.ofInt 64 a&&& ~~~(BitVec.ofInt 64 b)).toNat:Nat):Int):=Sc _;unfold tb;rw[e,ofw];generalize (BitVec.ofInt 64 a&&& ~~~(BitVec.ofInt 64 b))=v;rw[beq_iff_eq];constructor
 ·intro h k _;have:v=0#64:=BitVec.eq_of_toNat_eq (by simp;omega);rw[this];simp
 ·intro h;have:v=0#64:=BitVec.eq_of_getLsbD_eq fun k hk=>by rw[h k hk];simp
  rw[this];simp
theorem Gf (k:Nat):tb 0 k=false:=by unfold tb;simp
theorem Pg {n:Int}(h0:0<=n)(h1:n<64){k:Nat}(hk:k<64):tb (Af .u64 1 n) k=decide (n=(k:Int)):=by
 obtain⟨m,rfl⟩:∃ m:Nat,n=m:=⟨n.toNat,by omega⟩;have hm:m<64:=by omega
 have e0:(2:Nat) ^ m<18446744073709551616:=by
  have:=Nat.pow_lt_pow_right (a:=2) (by omega) hm;simpa using this
 have e:Af .u64 1 (m:Int)=(((2 ^ m:Nat):Nat):Int):=by
  unfold Af;have:min (Int.toNat (m:Int)) (IntKind.bits .u64)=m:=by simp[IntKind.bits];omega
  rw[this];have e1:(1:Int)*2 ^ m=((2 ^ m:Nat):Int):=by simp
  rw[e1];simp only[IntKind.wrap,IntKind.bits,IntKind.signed];generalize (2 ^ m:Nat)=q at *;simp;omega
 unfold tb;rw[e];have e2:BitVec.ofInt 64 (((2 ^ m:Nat):Nat):Int)=BitVec.ofNat 64 (2 ^ m):=BitVec.ofInt_natCast _ _;rw[e2,BitVec.getLsbD_ofNat,Nat.testBit_two_pow];simp only[hk,decide_true,Bool.true_and];rw[decide_eq_decide];omega
structure OfOk (l:List Int)(m:Nat):Prop where
 inc:l.Pairwise (· < ·)
 rg:∀ x∈l,0<=x/\x< (m:Int)
theorem Ph (l:List Int){m:Nat}(hm:m<=32):∀ (R A:List Int) (s last:Int),l=A++R-> -1<=last->
  (∃ s' last',an (il l m) R.length A.length (s,last)=.inr (s',last')/\(R.Pairwise (· < ·)/\∀ x∈R,last<x/\x< (m:Int))/\∀ k,k<64->tb s' k=(tb s k||decide ((k:Int)∈R)))\/
  (an (il l m) R.length A.length (s,last)=.inl ()/\¬ (R.Pairwise (· < ·)/\∀ x∈R,last<x/\x< (m:Int)))
 | [],A,s,last,_,_=>.inl ⟨s,last,rfl,⟨List.Pairwise.nil,(fun x hx=>by cases hx)⟩,fun k _=>by simp⟩
 |y::R,A,s,last,hl,h0=>by
  have g:l.getD A.length 0=y:=by rw[hl];exact fK A y 0 R rfl
  simp only[List.length_cons,an,il,g];cases hc:(decide (y<=last)) ||(decide (y>=(m:Int)))with
  |true=>
   simp only[cond_true];refine .inr ⟨by first|rfl|trivial,fun h=>?_⟩;have:=h.2 y (by simp);rw[Bool.or_eq_true,decide_eq_true_eq,decide_eq_true_eq]at hc;omega
  |false=>
   simp only[cond_false];rw[Bool.or_eq_false_iff,decide_eq_false_iff_not,decide_eq_false_iff_not]at hc;have ih:=Ph l hm R (A++[y]) (orI .u64 s (Af .u64 1 y)) y (by rw[hl];simp) (by omega);rw[List.length_append,List.length_singleton]at ih;rcases ih with⟨s',last',e1,⟨e2,e3⟩,e4⟩ | ⟨e1,e2⟩
   ·refine .inl ⟨s',last',e1,⟨List.pairwise_cons.2 ⟨fun z hz=>(e3 z hz).1,e2⟩,fun x hx=>?_⟩,fun k hk=>?_⟩
    ·rcases List.mem_cons.1 hx with rfl|hx
     ·omega
     ·have:=e3 x hx;omega
    ·rw[e4 k hk,Te,Pg (by omega) (by omega) hk,Bool.or_assoc];congr 1
     by_cases h1:y=(k:Int)
     ·simp[h1]
     ·have h2:¬ (k:Int)=y:=fun e=>h1 e.symm;simp[h1,h2]
   ·refine .inr ⟨e1,fun h=>e2 ⟨(List.pairwise_cons.1 h.1).2,fun x hx=>⟨(List.pairwise_cons.1 h.1).1 x hx,(h.2 x (by simp[hx])).2⟩⟩⟩
theorem sh (l:List Int){m:Nat}(hm:m<=32):((aq l m).2=true↔OfOk l m)/\(OfOk l m->∀ k,k<64->tb (aq l m).1 k=decide ((k:Int)∈l)):=by
 have conv:(l.Pairwise (· < ·)/\∀ x∈l,(-1:Int) <x/\x< (m:Int))↔OfOk l m:=⟨fun h=>⟨h.1,fun x hx=>by have:=h.2 x hx;omega⟩,fun h=>⟨h.inc,fun x hx=>by have:=h.rg x hx;omega⟩⟩
 unfold aq;rcases Ph l hm l [] 0 (-1) rfl (by omega)with⟨s',last',e1,e2,e3⟩ | ⟨e1,e2⟩
 ·rw[List.length_nil]at e1;rw[e1];exact⟨⟨fun _=>conv.1 e2,fun _=>rfl⟩,fun _ k hk=>by rw[e3 k hk,Gf,Bool.false_or]⟩
 ·rw[List.length_nil]at e1;rw[e1];exact⟨⟨(fun h=>by cases h),fun h=>absurd (conv.2 h) e2⟩,fun h=>absurd (conv.2 h) e2⟩
theorem Vm (l:List Int)(m:Int):gX l m:=fun _=>by
 refine vO (fun _ s=>-1<=s.2) _ _ _ (by simp) fun k s _ _ hs=>⟨fun h=>?_,fun s' e=>?_⟩
 ·rw[Bool.or_eq_false_iff,decide_eq_false_iff_not]at h;omega
 ·unfold il at e;cases hc:(decide ((l.getD k 0)<=s.2)) ||(decide ((l.getD k 0)>=m))with
  |true=>rw[hc]at e;cases e
  |false=>
   rw[hc]at e;simp only[cond_false,Sum.inr.injEq]at e;subst e;rw[Bool.or_eq_false_iff,decide_eq_false_iff_not]at hc;show -1<=l.getD k 0;omega
theorem yO (a b:Int):aR a b=true↔∀ k,k<64->tb a k=true->tb b k=true:=by
 unfold aR;rw[MJ];constructor
 ·intro h k hk ha;have:=h k hk;rw[La _ _ hk,ha]at this;simpa using this
 ·intro h k hk;rw[La _ _ hk];cases ha:tb a k with
  |false=>rfl
  |true=>rw[h k hk ha];rfl
structure CaseOk (sides:List Int)(x:Case):Prop where
 no:0<=x.no/\x.no<=1048576
 hr:0<=x.hour/\x.hour<=4096
 w:x.winner=0\/x.winner=1
 f:OfOk x.facts sides.length
 r:OfOk x.reason sides.length
 sub:∀ k∈x.reason,k∈x.facts/\sides.getD k.toNat 0=x.winner
def dec (m:Nat)(x:Case):PrecedentsDecided:= { winner:=x.winner,facts:=(aq x.facts (m:Int)).1,reason:=(aq x.reason (m:Int)).1}
def Fv (sides:List Int)(w v:Int):Prop:= ∀ k,k<64->tb v k=decide (k<sides.length/\sides.getD k 0=w)
theorem jg (n m:Int):aT n m=true↔0<=n/\n<=m:=by
 unfold aT;simp
theorem Lb (b:Cases)(hl:b.sides.length<=32):∀ (R A:List Int) (v0 v1:Int),b.sides=A++R->(∀ k,k<64->tb v0 k=decide (k<A.length/\b.sides.getD k 0=0))->(∀ k,k<64->tb v1 k=decide (k<A.length/\b.sides.getD k 0=1))->
  okI (bD b) (eh b) R.length A.length (v0,v1)/\
  ((∃ a c,an (bD b) R.length A.length (v0,v1)=.inr (a,c)/\(∀ s∈R,s=0\/s=1)/\Fv b.sides 0 a/\Fv b.sides 1 c)\/(∃ y,an (bD b) R.length A.length (v0,v1)=.inl y/\¬ ∀ s∈R,s=0\/s=1))
 | [],A,v0,v1,hA,h0,h1=>by
  have e:A.length=b.sides.length:=by rw[hA];simp
  rw[e]at h0 h1;exact⟨trivial,.inl ⟨v0,v1,rfl,(fun s hs=>by cases hs),h0,h1⟩⟩
 |y::R,A,v0,v1,hA,h0,h1=>by
  have g:b.sides.getD A.length 0=y:=by rw[hA];exact fK A y 0 R rfl
  have hA':b.sides=(A++[y])++R:=by rw[hA];simp
  have hlen:A.length<32:=by
   have:b.sides.length=A.length+(R.length+1):=by rw[hA];simp
   omega
  have bit:∀ (v w:Int),(∀ k,k<64->tb v k=decide (k<A.length/\b.sides.getD k 0=w))->y=w->∀ k,k<64->tb (orI .u64 v (Af .u64 1 (A.length:Int))) k=decide (k< (A++[y]).length/\b.sides.getD k 0=w):=fun v w hv hy k hk=>by
   rw[Te,hv k hk,Pg (by omega) (by omega) hk,List.length_append,List.length_singleton];rw[Bool.eq_iff_iff,Bool.or_eq_true,decide_eq_true_eq,decide_eq_true_eq,decide_eq_true_eq];by_cases e:k=A.length
   ·subst e;rw[g];omega
   ·constructor
    ·rintro (h|h)
     ·exact⟨by omega,h.2⟩
     ·omega
    ·intro h;exact .inl ⟨by omega,h.2⟩
  have keep:∀ (v w:Int),(∀ k,k<64->tb v k=decide (k<A.length/\b.sides.getD k 0=w))->y≠w->∀ k,k<64->tb v k=decide (k< (A++[y]).length/\b.sides.getD k 0=w):=fun v w hv hy k hk=>by
   rw[hv k hk,List.length_append,List.length_singleton,decide_eq_decide];by_cases e:k=A.length
   ·subst e;rw[g];omega
   ·constructor
    ·intro h;exact⟨by omega,h.2⟩
    ·intro h;exact⟨by omega,h.2⟩
  have ih:=fun v0 v1=>Lb b hl R (A++[y]) v0 v1 hA';rw[List.length_append,List.length_singleton]at ih;have hp:eh b A.length (v0,v1):=by
   unfold eh;rw[g];intro h;have h:=(jg y 1).1 (by simpa using h);refine⟨fun _=>by omega,fun h2=>⟨fun _=>by omega,fun h3=>?_⟩⟩;have h2:=of_decide_eq_false h2;have h3:=of_decide_eq_false h3;omega
  have hst:bD b A.length (v0,v1)=bif !(aT y 1)then .inl (v0,v1)else bif decide (y=0)then .inr (orI .u64 v0 (Af .u64 1 (A.length:Int)),v1)else bif decide (y=1)then .inr (v0,orI .u64 v1 (Af .u64 1 (A.length:Int)))else .inr default:=by
   unfold bD;rw[g]
  simp only[List.length_cons,an,hst];cases hw:aT y 1 with
  |false=>
   refine⟨⟨hp,fun s' e=>?_⟩,.inr ⟨(v0,v1),rfl,fun h=>?_⟩⟩
   ·rw[hst,hw]at e;cases e
   ·have:=h y (by simp);have h2:aT y 1=true:=(jg y 1).2 (by omega);rw[hw]at h2;cases h2
  |true=>
   have hy:=(jg y 1).1 hw;by_cases y0:y=0
   ·obtain⟨i1,i2⟩:=ih (orI .u64 v0 (Af .u64 1 (A.length:Int))) v1 (by have:=bit v0 0 h0 y0;rwa[List.length_append,List.length_singleton]at this) (by have:=keep v1 1 h1 (by omega);rwa[List.length_append,List.length_singleton]at this);simp only[Bool.not_true,cond_false,decide_eq_true y0,cond_true];refine⟨⟨hp,fun s' e=>?_⟩,?_⟩
    ·rw[hst,hw]at e;simp only[Bool.not_true,cond_false,decide_eq_true y0,cond_true,Sum.inr.injEq]at e;subst e;exact i1
    ·rcases i2 with⟨a,c,e1,e2,e3⟩ | ⟨z,e1,e2⟩
     ·exact .inl ⟨a,c,e1,fun s hs=>by rcases List.mem_cons.1 hs with rfl|hs;exact .inl y0;exact e2 s hs,e3⟩
     ·exact .inr ⟨z,e1,fun h=>e2 fun s hs=>h s (by simp[hs])⟩
   ·have y1:y=1:=by omega
    obtain⟨i1,i2⟩:=ih v0 (orI .u64 v1 (Af .u64 1 (A.length:Int))) (by have:=keep v0 0 h0 y0;rwa[List.length_append,List.length_singleton]at this) (by have:=bit v1 1 h1 y1;rwa[List.length_append,List.length_singleton]at this);simp only[Bool.not_true,cond_false,decide_eq_false y0,decide_eq_true y1,cond_true];refine⟨⟨hp,fun s' e=>?_⟩,?_⟩
    ·rw[hst,hw]at e;simp only[Bool.not_true,cond_false,decide_eq_false y0,decide_eq_true y1,cond_true,Sum.inr.injEq]at e;subst e;exact i1
    ·rcases i2 with⟨a,c,e1,e2,e3⟩ | ⟨z,e1,e2⟩
     ·exact .inl ⟨a,c,e1,fun s hs=>by rcases List.mem_cons.1 hs with rfl|hs;exact .inr y1;exact e2 s hs,e3⟩
     ·exact .inr ⟨z,e1,fun h=>e2 fun s hs=>h s (by simp[hs])⟩
theorem Lc {sides:List Int}(hl:sides.length<=32){f r:List Int}(hf:OfOk f sides.length)(hr:OfOk r sides.length){w v:Int}(hv:Fv sides w v):
  aR (aq r (sides.length:Int)).1 (wi .u64 (aq f (sides.length:Int)).1 v)=true↔∀ k∈r,k∈f/\sides.getD k.toNat 0=w:=by
 rw[yO];constructor
 ·intro h k hk;have hk2:=hr.rg k hk;have:=h k.toNat (by omega) (by rw[(sh r hl).2 hr _ (by omega)];exact decide_eq_true (by rw[show((k.toNat:Nat):Int)=k by omega];exact hk));rw[Ge,(sh f hl).2 hf _ (by omega),hv _ (by omega),Bool.and_eq_true,decide_eq_true_eq,decide_eq_true_eq,show((k.toNat:Nat):Int)=k by omega]at this;exact⟨this.1,this.2.2⟩
 ·intro h k hk ht;rw[(sh r hl).2 hr k hk,decide_eq_true_eq]at ht;have h1:=h k ht;have h2:=hr.rg k ht;rw[Ge,(sh f hl).2 hf k hk,hv k hk,Bool.and_eq_true,decide_eq_true_eq,decide_eq_true_eq];refine⟨h1.1,by omega,?_⟩;have:=h1.2
  rwa[Int.toNat_natCast]at this
def qC (sides:List Int):Int->Int->List Case->Prop
 |_,_,[] =>True
 |no,hr,x::R=>no<x.no/\hr<=x.hour/\CaseOk sides x/\qC sides x.no x.hour R
theorem H3 (b:Cases)(hl:b.sides.length<=32){a c:Int}(ha:Fv b.sides 0 a)(hc:Fv b.sides 1 c):∀ (R A:List Case) (acc:List PrecedentsDecided) (no hr w:Int),b.cases=A++R->acc.length+R.length<=64->
  okI (eu b (a,c)) (ei b (a,c)) R.length A.length (acc,no,hr,w)/\
  ((∃ t,an (eu b (a,c)) R.length A.length (acc,no,hr,w)=.inr (acc++R.map (dec b.sides.length),t)/\qC b.sides no hr R)\/(∃ y,an (eu b (a,c)) R.length A.length (acc,no,hr,w)=.inl y/\¬qC b.sides no hr R))
 | [],A,acc,no,hr,w,_,_=>⟨trivial,.inl ⟨(no,hr,w),by simp[an],trivial⟩⟩
 |x::R,A,acc,no,hr,w,hA,hn=>by
  have g:b.cases.getD A.length default=x:=by rw[hA];exact fK A x default R rfl
  have hA':b.cases=(A++[x])++R:=by rw[hA];simp
  simp only[List.length_cons]at hn;have hmB:∀ d:PrecedentsDecided,(acc++[d]).length*24<=c6:=fun d=>by
   simp only[List.length_append,List.length_singleton];unfold c6;omega
  have hp:ei b (a,c) A.length (acc,no,hr,w):=by
   unfold ei;rw[g];intro h;rw[Bool.or_eq_false_iff]at h;have hw:=(jg x.winner 1).1 (by simpa using h.2);refine fun _=>⟨Vm _ _,fun _=>⟨Vm _ _,fun _ _=>hmB _,fun h0=>⟨fun _ _=>hmB _,fun h1=>?_⟩⟩⟩;have h0:=of_decide_eq_false h0;have h1:=of_decide_eq_false h1;omega
  have key:(∃ t,eu b (a,c) A.length (acc,no,hr,w)=.inr (acc++[dec b.sides.length x],x.no,x.hour,t)/\(no<x.no/\hr<=x.hour/\CaseOk b.sides x))\/(eu b (a,c) A.length (acc,no,hr,w)=.inl acc/\¬ (no<x.no/\hr<=x.hour/\CaseOk b.sides x)):=by
   unfold eu;rw[g];cases h1:((((decide (x.no<=no)) ||(!(aT x.no 1048576))) ||(decide (x.hour<hr))) ||(!(aT x.hour 4096))) ||(!(aT x.winner 1))with
   |true=>
    refine .inr ⟨by simp only[h1,cond_true],fun⟨k1,k2,k3⟩ =>?_⟩;have n1:=(jg x.no 1048576).2 k3.no;have n2:=(jg x.hour 4096).2 k3.hr;have n3:=(jg x.winner 1).2 (by rcases k3.w with h|h <;>omega);rw[n1,n2,n3,decide_eq_false (by omega),decide_eq_false (by omega)]at h1;cases h1
   |false=>
    simp only[h1,cond_false];simp only[Bool.or_eq_false_iff,decide_eq_false_iff_not,Bool.not_eq_false']at h1;obtain⟨⟨⟨⟨k1,k2⟩,k3⟩,k4⟩,k5⟩:=h1;have k2:=(jg _ _).1 k2;have k4:=(jg _ _).1 k4;have k5:=(jg _ _).1 k5;have fin:∀ (v:Int),Fv b.sides x.winner v->((((!(aq x.facts (b.sides.length:Int)).2) ||(!(aq x.reason (b.sides.length:Int)).2)) ||(!(aR (aq x.reason (b.sides.length:Int)).1 (wi .u64 (aq x.facts (b.sides.length:Int)).1 v))))=false↔CaseOk b.sides x):=fun v hv=>by
     rw[Bool.or_eq_false_iff,Bool.or_eq_false_iff,Bool.not_eq_false',Bool.not_eq_false',Bool.not_eq_false',(sh x.facts hl).1,(sh x.reason hl).1];constructor
     ·rintro⟨⟨q1,q2⟩,q3⟩;exact⟨k2,k4,by omega,q1,q2,(Lc hl q1 q2 hv).1 q3⟩
     ·intro q;exact⟨⟨q.f,q.r⟩,(Lc hl q.f q.r hv).2 q.sub⟩
    by_cases w0:x.winner=0
    ·have fin:=fin a (by rw[w0];exact ha);rw[decide_eq_true w0];simp only[cond_true];cases h2:((!(aq x.facts (b.sides.length:Int)).2) ||(!(aq x.reason (b.sides.length:Int)).2)) ||(!(aR (aq x.reason (b.sides.length:Int)).1 (wi .u64 (aq x.facts (b.sides.length:Int)).1 a)))with
     |true=>
      refine .inr ⟨by simp only[h2,cond_true],fun q=>?_⟩;have:=fin.2 q.2.2;rw[h2]at this;cases this
     |false=>exact .inl ⟨_,by simp only[h2,cond_false];rfl,by omega,by omega,fin.1 h2⟩
    ·have w1:x.winner=1:=by omega
     have fin:=fin c (by rw[w1];exact hc);rw[decide_eq_false w0,decide_eq_true w1];simp only[cond_true,cond_false];cases h2:((!(aq x.facts (b.sides.length:Int)).2) ||(!(aq x.reason (b.sides.length:Int)).2)) ||(!(aR (aq x.reason (b.sides.length:Int)).1 (wi .u64 (aq x.facts (b.sides.length:Int)).1 c)))with
     |true=>
      refine .inr ⟨by simp only[h2,cond_true],fun q=>?_⟩;have:=fin.2 q.2.2;rw[h2]at this;cases this
     |false=>exact .inl ⟨_,by simp only[h2,cond_false];rfl,by omega,by omega,fin.1 h2⟩
  simp only[List.length_cons,an];rcases key with⟨t,k1,k2⟩ | ⟨k1,k2⟩
  ·have ih:=H3 b hl ha hc R (A++[x]) (acc++[dec b.sides.length x]) x.no x.hour t hA' (by simp only[List.length_append,List.length_singleton];omega);rw[List.length_append,List.length_singleton]at ih;obtain⟨i1,i2⟩:=ih;refine⟨⟨hp,fun s' e=>?_⟩,?_⟩
   ·rw[k1]at e;simp only[Sum.inr.injEq]at e;subst e;exact i1
   ·rw[k1];rcases i2 with⟨u,e1,e2⟩ | ⟨y,e1,e2⟩
    ·refine .inl ⟨u,?_,k2.1,k2.2.1,k2.2.2,e2⟩;simp only[e1,List.map_cons,List.append_assoc,List.singleton_append]
    ·exact .inr ⟨y,e1,fun h=>e2 h.2.2.2⟩
  ·refine⟨⟨hp,fun s' e=>?_⟩,.inr ⟨acc,by rw[k1],fun h=>k2 ⟨h.1,h.2.1,h.2.2.1⟩⟩⟩;rw[k1]at e;cases e
structure Rd (b:Cases):Prop where
 s:b.sides.length<=32
 c:b.cases.length<=64
 sd:∀ s∈b.sides,s=0\/s=1
 cs:qC b.sides (-1) 0 b.cases
theorem BM (b:Cases):fH b/\((av b).2=0↔Rd b)/\(Rd b->∃ a c,Fv b.sides 0 a/\Fv b.sides 1 c/\(av b).1= { favour:=(a,c),cases:=b.cases.map (dec b.sides.length)}):=by
 cases hz:(decide ((b.sides.length:Int) > 32)) ||(decide ((b.cases.length:Int) > 64))with
 |true=>
  have hn:¬Rd b:=fun h=>by
   have h1:=h.s;have h2:=h.c;rw[decide_eq_false (by omega),decide_eq_false (by omega)]at hz;cases hz
  refine⟨(fun _ h=>by rw[hz]at h;cases h),⟨fun h=>?_,fun h=>absurd h hn⟩,fun h=>absurd h hn⟩;unfold av at h;rw[hz]at h;cases h
 |false=>
  have hz2:=hz;rw[Bool.or_eq_false_iff,decide_eq_false_iff_not,decide_eq_false_iff_not]at hz2;have hl:b.sides.length<=32:=by omega
  obtain⟨f1,f2⟩:=Lb b hl b.sides [] 0 0 rfl (fun k _=>by rw[Gf];simp) (fun k _=>by rw[Gf];simp);rw[List.length_nil]at f1 f2;rcases f2 with⟨a,c,e1,e2,ha,hc⟩ | ⟨y,e1,e2⟩
  ·obtain⟨g1,g2⟩:=H3 b hl ha hc b.cases [] [] (-1) 0 0 rfl (by simp only[List.length_nil];omega);rw[List.length_nil]at g1 g2;rw[List.nil_append]at g2;refine⟨fun _ _ _=>⟨f1,fun s hs _=>?_⟩,?_⟩
   ·rw[e1]at hs;simp only[Sum.inr.injEq]at hs;subst hs;exact g1
   ·unfold av;rw[hz,e1];simp only[cond_false];rcases g2 with⟨t,h1,h2⟩ | ⟨y,h1,h2⟩
    ·rw[h1];exact⟨⟨fun _=>⟨hl,by omega,e2,h2⟩,fun _=>rfl⟩,fun _=>⟨a,c,ha,hc,rfl⟩⟩
    ·rw[h1];exact⟨⟨(fun h=>by cases h),fun h=>absurd h.cs h2⟩,fun h=>absurd h.cs h2⟩
  ·refine⟨fun _ _ _=>⟨f1,fun s hs _=>by rw[e1]at hs;cases hs⟩,?_⟩;unfold av;rw[hz,e1];exact⟨⟨(fun h=>by cases h),fun h=>absurd h.sd e2⟩,fun h=>absurd h.sd e2⟩
@[go_sem] def H4 (x:Int×PrecedentsDecided):List SV:=[.v (.int .i64 x.1),.agg (cellsOf .precedentsDecided x.2)]
@[go_sem] def pc:List SV->Option Con:=(pD .precedentsCourt fun c=>(pE (.det True (.fn 131 [] [.ep (cellsOf .precedentsCourt c) 0]))))
theorem uv:FnOk Tryz.prog 76 pc:=by
 have hG:ConsOk Tryz.prog (mkG [] []):=ar cg0 cg0;refine ay [.o] mixed ak hG (fn:=Tryz.f76) (c:=ae Tryz.f76) kr kr kr kr (bk fun c=>(ai (fun hp=>?_)));refine⟨nbl rfl,L0,ag _,?_⟩;unfold ae Tryz.f76;simp only[go_sem,Dk,Dl,Nat.reduceBEq,Nat.reduceLeDiff,Nat.reduceAdd,Nat.reduceSub,Nat.reduceMul]
@[go_sem] def dR (c:PrecedentsCourt)(k_0:Nat)(s_0:List (Int×PrecedentsDecided)):Empty⊕(List (Int×PrecedentsDecided)):=.inr (s_0++[((k_0:Int),(c.cases.getD k_0 default))])
def f5 (c:PrecedentsCourt)(items_:List (List SV))(k_0:Nat)(s_0:List (Int×PrecedentsDecided)):Prop:=(items_[s_0.length]? =some (H4 ((k_0:Int),(c.cases.getD k_0 default))))
def a7 (c:PrecedentsCourt):List (Int×PrecedentsDecided):=(match an (dR c) c.cases.length 0 ([]:List (Int×PrecedentsDecided))with| .inl x=>x.elim| .inr s_0=>s_0)
def hU (c:PrecedentsCourt)(items_:List (List SV)):Prop:=letI q0:=dR c;(c.cases.length<=aD->(okI q0 (f5 c items_) c.cases.length 0 ([]:List (Int×PrecedentsDecided))/\(∀ s_0,an q0 c.cases.length 0 ([]:List (Int×PrecedentsDecided))=.inr s_0->(items_.length=s_0.length))))
theorem sZ (c:PrecedentsCourt)(items_:List (List SV))(hp:hU c items_):FV Tryz.prog 131 (fun y=>[y,.ep (cellsOf .precedentsCourt c) 0]) [] items_:=by
 unfold hU at hp;refine JN mixed ak (fn:=Tryz.f131) (c:=ae Tryz.f131) kr kr kr kr rfl (n:=0) rfl (G:=fun r_=>C0 [] [] (HX items_ r_)) (fun r_ hy=>?_) (fun args w=>by kernel_rfl);have hG:ConsOk Tryz.prog (C0 [] [] (HX items_ r_)):=BI cg0 cg0 hy;refine⟨hG,nbl rfl,(fun id st=>bif Nat.beq id 0 then some (LCY (ρ:=Empty) (σ:=(List (Int×PrecedentsDecided))) 1 [] [0] (fun k_0 s_0=>⟨[(0,.os 0),(6,.rs .precedentsDecided c.cases),(7,.v (.int .i64 (c.cases.length:Int))),(8,.v (.int .i64 (k_0:Int)))],[.ab (r_.1 (s_0.length+1))]⟩) (dR c) (f5 c items_) c.cases.length ([]:List (Int×PrecedentsDecided)) (c.cases.length<=aD) ((·.elim)) ((·.elim)) ⟨[],[.ab (r_.1 0)]⟩ st)else none),?_,?_⟩
 ·unfold ae Tryz.f131;simp only[am,true_and,and_true]
  ·refine HY mixed ak hG kr (fun _=>rfl) (c.cases.length:Int) rfl gA (fun hb0 k_0 s_0 hlt0 hq0 hw hc=>⟨L0,ag _,?_⟩) (fun hb0 s_0 hc=>?_)
   ·unfold f5 at hq0;try simp only[hw,Int.toNat_natCast]at hq0
    exact H0 (jl [0])
   ·exact H1 (jl [0])
 ·unfold ae Tryz.f131;exact Sb (jl [0])
@[go_sem] def bO (l_:List PrecedentsDecided)(x_:PrecedentsDecided)(k_0:Nat)(s_0:Int):(Int⊕Unit)⊕Int:=(bif(decide (s_0< (l_.length:Int)))then(bif(aW x_ (l_.getD (Int.toNat s_0) default))then .inl (.inl s_0)else .inr (i64.wrap (s_0+1)))else .inl (.inr ()))
def cw (l_:List PrecedentsDecided)(x_:PrecedentsDecided)(k_0:Nat)(s_0:Int):Prop:=(l_.length<=aD->((decide (s_0< (l_.length:Int)))=true->(0<=s_0/\s_0< (l_.length:Int))))
def bB (l_:List PrecedentsDecided)(fr:Int)(x_:PrecedentsDecided):Int×Bool:=(match an (bO l_ x_) (l_.length+1) 0 fr with| .inl (.inl x_0_0) =>(x_0_0,true) | .inl (.inr x_0_1) =>(0,false) | .inr s_0=>default)
def da (l_:List PrecedentsDecided)(fr:Int)(x_:PrecedentsDecided):Prop:=(okI (bO l_ x_) (cw l_ x_) (l_.length+1) 0 fr/\(∀ z_,an (bO l_ x_) (l_.length+1) 0 fr≠ .inr z_))
@[go_sem] def io:List SV->Option Con:=(pR .precedentsDecided fun l_=>(pI fun fr=>(pFB 78 (pD .precedentsDecided fun x_=>(pE ((pE (.det (da l_ fr x_) (.tup [.v (.int .i64 ((bB l_ fr x_).1)),.v (.bool ((bB l_ fr x_).2))])))))))))
theorem lY:FnOk Tryz.prog 77 io:=by
 have hG:ConsOk Tryz.prog (mkG [(78,mO)] []):=ar (cgc sq cg0) cg0;refine ay [.o,.o] mixed ak hG (fn:=Tryz.f77) (c:=ae Tryz.f77) kr kr kr kr (bC fun l_=>(cI fun fr=>(KZ (bk fun x_=>(ai ((ai (fun hp=>?_))))))));dsimp only[ax]at hp;unfold da at hp;refine⟨nbl rfl,(fun id st=>bif Nat.beq id 0 then some (LCV (ρ:=(Int⊕Unit)) (σ:=Int) 0 [] [] (fun k_0 s_0=>⟨[(0,.rs .precedentsDecided l_),(2,.fn 78 [.agg (cellsOf .precedentsDecided x_)] []),(8,.v (.int .i64 s_0))],[]⟩) (bO l_ x_) (cw l_ x_) (l_.length+1) fr (fun x=>match x with|(.inl _) =>.ret|(.inr _) =>.normal) (fun x=>match x with|(.inl x_0_0) =>⟨[(6,.v (.int .i64 x_0_0)),(7,.v (.bool true))],[]⟩ |(.inr x_0_1) =>⟨[],[]⟩) st)else none),?_,?_⟩
 ·unfold ae Tryz.f77;simp only[am,true_and,and_true]
  ·refine rq mixed ak hG kr (fun _=>rfl) fun k_0 s_0 hq0=>⟨L0,ag _,?_⟩
   ·unfold cw at hq0;exact sS (jl [])
 ·unfold ae Tryz.f77;try unfold bB
  exact Zi
@[go_sem] noncomputable def b8:List SV->Option Con:=fun l=>(orC (fa l) (io l))
theorem mB:FnOk Tryz.prog 77 b8:=(FnOk.or ia lY)
@[go_sem] def bU (b:Cases)(z_0:Int×PrecedentsDecided)(s_0:Unit):(Int×Int)⊕Unit:=letI q0:=bB (((av b).1).cases) (i64.wrap (z_0.1+1)) z_0.2;(bif q0.2 then .inl (z_0.1,q0.1)else .inr ())
def fP (b:Cases)(z_0:Int×PrecedentsDecided)(s_0:Unit):Prop:=(da (((av b).1).cases) (i64.wrap (z_0.1+1)) z_0.2)
def bo (b:Cases):Int×Int×Bool×Int:=letI q0:=av b;(bif(q0.2 !=0)then(0,0,false,q0.2)else(match jO (bU b) (a7 (q0.1)) ()with| .inl x_0_0=>(x_0_0.1,x_0_0.2,true,0) | .inr s_0=>(0,0,false,0)))
def jh (b:Cases):Prop:=letI q0:=av b;letI q1:=a7 (q0.1);((fH b)/\((q0.2 !=0)=false->((hU (q0.1) (q1.map H4))/\okL (bU b) (fP b) q1 ())))
@[go_sem] def s4:List SV->Option Con:=(pD .cases fun b=>(pE (.det (jh b) (.tup [.v (.int .i64 ((bo b).1)),.v (.int .i64 ((bo b).2.1)),.v (.bool ((bo b).2.2.1)),.v (.int .i64 ((bo b).2.2.2))]))))
theorem zq80 {l0:List Nat}(a0:JL l0){p:Prop}(h:JL l0->p:=by intro ja;simp only[go_sem,Nat.reduceBEq,Nat.reduceLeDiff,Nat.reduceLT,decide_true,Nat.reduceAdd,Nat.reduceSub,Nat.reduceMul,Int.reduceLE,Int.reduceLT,Int.reduceToNat,Int.reduceNeg,reduceCtorEq,b8,bU,psT,H4,List.cons_append,List.nil_append];all_goals exact jA ja):p:=h a0
theorem ZA {l0:List Nat}(a0:JL l0){p:Prop}(h:JL l0->p:=by intro ja;simp only[go_sem,Nat.reduceBEq,Nat.reduceLeDiff,Nat.reduceLT,decide_true,Nat.reduceAdd,Nat.reduceSub,Nat.reduceMul,Int.reduceLE,Int.reduceLT,Int.reduceToNat,Int.reduceNeg,reduceCtorEq,b8];all_goals exact jA ja):p:=h a0
theorem zq83 {p:Prop}(h:p:=by simp only[go_sem,Nat.reduceBEq,Nat.reduceLeDiff,Nat.reduceLT,decide_true,Nat.reduceAdd,Nat.reduceSub,Nat.reduceMul,Int.reduceLE,Int.reduceLT,Int.reduceToNat,Int.reduceNeg,reduceCtorEq,b8];all_goals exact cl):p:=h
theorem xO:FnOk Tryz.prog 33 s4:=by
 have hG:ConsOk Tryz.prog (mkG [(75,fun l=>mm (bp [.st .cases] l)),(76,fun l=>pc (bp [.st .precedentsCourt] l)),(77,fun l=>b8 (bp [.sl .precedentsDecided,.o,.o] l))] []):=ar (cgc (oS.norm [.st .cases]) (cgc (uv.norm [.st .precedentsCourt]) (cgc (mB.norm [.sl .precedentsDecided,.o,.o]) cg0))) cg0;refine ay [.o,.o,.o,.o] mixed ak hG (fn:=Tryz.f33) (c:=ae Tryz.f33) kr kr kr kr (bk fun b=>(ai (fun hp=>?_)));dsimp only[ax]at hp;unfold jh at hp;refine⟨nbl rfl,(fun id st=>bif Nat.beq id 0 then some (LC (ρ:=Int×Int) (σ:=Unit) (lk 2 st.t=.ptr 1 0/\lk 3 st.t=.ptr 2 0/\lk 4 st.t=.ptr 3 0/\lk 5 st.t=.ptr 4 0/\lk 6 st.t=.ptr 5 0/\lk 20 st.t=.fn 131 [] [.ep (cellsOf .precedentsCourt ((av b).1)) 0]/\st.h=[.cells (cellsOf .cases b),.cells [.v (.int .i64 0)],.cells [.v (.int .i64 0)],.cells [.v (.bool false)],.cells [.v (.int .i64 ((av b).2))],.cells (cellsOf .precedentsCourt ((av b).1))]/\hU ((av b).1) ((a7 ((av b).1)).map H4)/\okL (bU b) (fP b) (a7 ((av b).1)) ()) (jO (bU b) (a7 ((av b).1)) ()) (fun _=>.ret) (fun x_0_0=>⟨[(2,.ptr 1 0),(3,.ptr 2 0),(4,.ptr 3 0),(5,.ptr 4 0),(6,.ptr 5 0)],[.dead,.cells [.v (.int .i64 x_0_0.1)],.cells [.v (.int .i64 x_0_0.2)],.cells [.v (.bool true)],.cells [.v (.int .i64 0)],.cells (cellsOf .precedentsCourt ((av b).1))]⟩) (fun s_0=>⟨[(2,.ptr 1 0),(3,.ptr 2 0),(4,.ptr 3 0),(5,.ptr 4 0),(6,.ptr 5 0)],[.dead,.cells [.v (.int .i64 0)],.cells [.v (.int .i64 0)],.cells [.v (.bool false)],.cells [.v (.int .i64 ((av b).2))],.cells (cellsOf .precedentsCourt ((av b).1))]⟩))else none),?_,?_⟩
 ·unfold ae Tryz.f33;simp only[am,true_and,and_true]
  ·refine xz mixed ak hG (by decide) (by decide) kr kr fun st lc hC hp=>?_;simp only[go_sem,Nat.reduceBEq,Option.some.injEq]at hC;subst hC;obtain⟨t,h⟩:=st;dsimp only[LC]at hp;obtain⟨e0_0,e0_1,e0_2,e0_3,e0_4,e0_5,rfl,hb0,hok0⟩:=hp;refine⟨131,[.ep (cellsOf .precedentsCourt ((av b).1)) 0],Int×PrecedentsDecided,_,_,(a7 ((av b).1)),H4,(bU b),(fP b),_,(),_,_,_,[(2,.ptr 1 0),(3,.ptr 2 0),(4,.ptr 3 0),(5,.ptr 4 0),(6,.ptr 5 0)],(fun s_0=>[.dead,.cells [.v (.int .i64 0)],.cells [.v (.int .i64 0)],.cells [.v (.bool false)],.cells [.v (.int .i64 ((av b).2))],.cells (cellsOf .precedentsCourt ((av b).1))]),(fun x_0_0=>[.dead,.cells [.v (.int .i64 x_0_0.1)],.cells [.v (.int .i64 x_0_0.2)],.cells [.v (.bool true)],.cells [.v (.int .i64 0)],.cells (cellsOf .precedentsCourt ((av b).1))]),[0,1,2,3,4,5],?_,rfl,hok0,nbl rfl,?_,sZ ((av b).1) _ hb0,fun z_0 s_0 hq0=>⟨rfl,L0,fun l=>?_,fun l=>?_,?_⟩,fun s_0=>?_,fun y=>?_⟩
   ·simp only[go_sem,e0_0,e0_1,e0_2,e0_3,e0_4,e0_5]
   ·simp only[go_sem,Nat.reduceBEq,Nat.reduceLeDiff,Nat.reduceLT,decide_true,Nat.reduceAdd,Nat.reduceSub,Nat.reduceMul,Int.reduceLE,Int.reduceLT,Int.reduceToNat,Int.reduceNeg,reduceCtorEq,v7,od,List.flatMap_cons,List.flatMap_nil,List.nil_append,List.append_nil,List.map_nil,e0_0,e0_1,e0_2,e0_3,e0_4,e0_5];all_goals (first|done|decide|(repeat' (first|refine And.intro ?_ ?_|rfl|decide)))
   ·simp only[am,and_self,true_and,and_true]
   ·simp only[am,and_self,true_and,and_true]
   ·unfold fP at hq0;exact zq80 (jl [0,1,2,3,4,5])
   ·exact ZA (jl [0,1,2,3,4,5])
   ·exact ZA (jl [0,1,2,3,4,5])
 ·unfold ae Tryz.f33;try unfold bo
  exact zq83
def Dp (sides F:List Int)(side:Int)(x:Case):Prop:=x.winner=side/\(∀ k∈x.reason,k∈F)/\∀ k∈F,sides.getD k.toNat 0=1 - side->k∈x.facts
def ClashC (x y:Case):Prop:=x.winner≠y.winner/\(∀ k∈x.reason,k∈y.facts)/\∀ k∈y.reason,k∈x.facts
theorem JT {m:Nat}(hm:m<=32){a b:List Int}(ha:OfOk a m)(hb:OfOk b m):aR (aq a (m:Int)).1 (aq b (m:Int)).1=true↔∀ k∈a,k∈b:=by
 rw[yO];constructor
 ·intro h k hk;have hk2:=ha.rg k hk;have:=h k.toNat (by omega) (by rw[(sh a hm).2 ha _ (by omega)];exact decide_eq_true (by rw[show((k.toNat:Nat):Int)=k by omega];exact hk));rw[(sh b hm).2 hb _ (by omega),decide_eq_true_eq,show((k.toNat:Nat):Int)=k by omega]at this;exact this
 ·intro h k hk ht;rw[(sh a hm).2 ha k hk,decide_eq_true_eq]at ht;rw[(sh b hm).2 hb k hk];exact decide_eq_true (h _ ht)
theorem EZ {sides:List Int}(hl:sides.length<=32){x y:Case}(hx:CaseOk sides x)(hy:CaseOk sides y):aW (dec sides.length x) (dec sides.length y)=true↔ClashC x y:=by
 unfold aW;rw[Bool.and_eq_true,Bool.and_eq_true,bne_iff_ne];show((x.winner≠y.winner/\aR (aq x.reason (sides.length:Int)).1 (aq y.facts (sides.length:Int)).1=true)/\aR (aq y.reason (sides.length:Int)).1 (aq x.facts (sides.length:Int)).1=true)↔_;rw[JT hl hx.r hy.f,JT hl hy.r hx.f];exact⟨fun h=>⟨h.1.1,h.1.2,h.2⟩,fun h=>⟨⟨h.1,h.2.1⟩,h.2.2⟩⟩
theorem JU {sides:List Int}(hl:sides.length<=32){a c:Int}(ha:Fv sides 0 a)(hc:Fv sides 1 c){x:Case}(hx:CaseOk sides x){F:List Int}(hF:OfOk F sides.length){side:Int}(hs:side=0\/side=1)(cs:List PrecedentsDecided):
  (gb (dec sides.length x) side (aq F (sides.length:Int)).1 { favour:=(a,c),cases:=cs} =true↔Dp sides F side x)/\gc (dec sides.length x) side (aq F (sides.length:Int)).1 { favour:=(a,c),cases:=cs}:=by
 have hw:i64.wrap (1 - x.winner)=1 - x.winner:=by rcases hx.w with h|h <;>rw[h] <;>exact fE (by omega) (by omega)
 have miss:∀ v:Int,Fv sides (1 - x.winner) v->((nJ .u64 (wi .u64 (aq F (sides.length:Int)).1 v) (aq x.facts (sides.length:Int)).1==0)=true↔∀ k∈F,sides.getD k.toNat 0=1 - x.winner->k∈x.facts):=fun v hv=>by
  have:=yO (wi .u64 (aq F (sides.length:Int)).1 v) (aq x.facts (sides.length:Int)).1;unfold aR at this;rw[this];constructor
  ·intro h k hk hk1;have hk2:=hF.rg k hk;have:=h k.toNat (by omega) (by
    rw[Ge,(sh F hl).2 hF _ (by omega),hv _ (by omega),Bool.and_eq_true,decide_eq_true_eq,decide_eq_true_eq,show((k.toNat:Nat):Int)=k by omega];exact⟨hk,by omega,hk1⟩)
   rw[(sh x.facts hl).2 hx.f _ (by omega),decide_eq_true_eq,show((k.toNat:Nat):Int)=k by omega]at this;exact this
  ·intro h k hk ht;rw[Ge,(sh F hl).2 hF _ hk,hv _ hk,Bool.and_eq_true,decide_eq_true_eq,decide_eq_true_eq]at ht;rw[(sh x.facts hl).2 hx.f k hk];exact decide_eq_true (h _ ht.1 (by rw[Int.toNat_natCast];exact ht.2.2))
 have hm:(fS { favour:=(a,c),cases:=cs} (dec sides.length x) (aq F (sides.length:Int)).1==0)=true↔∀ k∈F,sides.getD k.toNat 0=1 - x.winner->k∈x.facts:=by
  unfold fS;show((bif decide (i64.wrap (1 - x.winner)=0)then nJ .u64 (wi .u64 (aq F (sides.length:Int)).1 a) (aq x.facts (sides.length:Int)).1 else bif decide (i64.wrap (1 - x.winner)=1)then nJ .u64 (wi .u64 (aq F (sides.length:Int)).1 c) (aq x.facts (sides.length:Int)).1 else default) ==0)=true↔_;rw[hw];rcases hx.w with h|h
  ·rw[decide_eq_false (by omega:¬1 - x.winner=0),decide_eq_true (by omega:1 - x.winner=1)];exact miss c (by rw[show 1 - x.winner=1 by omega];exact hc)
  ·rw[decide_eq_true (by omega:1 - x.winner=0)];exact miss a (by rw[show 1 - x.winner=0 by omega];exact ha)
 refine⟨?_,fun _ h0 h1=>?_⟩
 ·unfold gb;rw[Bool.and_eq_true,Bool.and_eq_true,hm,beq_iff_eq];show((x.winner=side/\aR (aq x.reason (sides.length:Int)).1 (aq F (sides.length:Int)).1=true)/\_)↔_;rw[JT hl hx.r hF];unfold Dp;constructor
  ·rintro⟨⟨h1,h2⟩,h3⟩;exact⟨h1,h2,by rw[<-h1];exact h3⟩
  ·rintro⟨h1,h2,h3⟩;exact⟨⟨h1,h2⟩,by rw[h1];exact h3⟩
 ·have h0:¬i64.wrap (1 - x.winner)=0:=of_decide_eq_false h0;have h1:¬i64.wrap (1 - x.winner)=1:=of_decide_eq_false h1;rw[hw]at h0 h1;rcases hx.w with h|h <;>omega
theorem AE {l:List PrecedentsDecided}(hl:l.length<=64){P:PrecedentsDecided->Bool}{step:Nat->Int->(Int⊕Unit)⊕Int}{p:Nat->Int->Prop}(hst:∀ k s,step k s=bif decide (s< (l.length:Int))then(bif P (l.getD (Int.toNat s) default)then .inl (.inl s)else .inr (i64.wrap (s+1)))else .inl (.inr ()))(hp:∀ k (s:Nat),s<=l.length->p k s):
  ∀ (n i s:Nat),s<=l.length->l.length - s<n->okI step p n i (s:Int)/\((∃ j,an step n i (s:Int)=.inl (.inl j)/\(l.drop s).any P=true)\/(an step n i (s:Int)=.inl (.inr ())/\(l.drop s).any P=false))
 |0,_,_,_,h=>absurd h (Nat.not_lt_zero _)
 |n+1,i,s,hs,hn=>by
  have e:=hst i (s:Int);by_cases hlt:s<l.length
  ·have hd:l.drop s=l[s]::l.drop (s+1):=List.drop_eq_getElem_cons hlt;have g:l.getD (Int.toNat (s:Int)) default=l[s]:=by rw[Int.toNat_natCast,List.getD_eq_getElem?_getD,List.getElem?_eq_getElem hlt];rfl
   rw[decide_eq_true (by omega:(s:Int) < (l.length:Int)),g]at e;simp only[cond_true]at e;rw[hd,List.any_cons];cases hP:P l[s]with
   |true=>
    rw[hP]at e;simp only[cond_true]at e;refine⟨⟨hp i s hs,fun s' q=>by rw[e]at q;cases q⟩,.inl ⟨(s:Int),by simp only[an,e],rfl⟩⟩
   |false=>
    rw[hP]at e;simp only[cond_false]at e;rw[fE (by omega) (by omega),show(s:Int)+1=((s+1:Nat):Int) by omega]at e;obtain⟨i1,i2⟩:=AE hl hst hp n (i+1) (s+1) (by omega) (by omega);refine⟨⟨hp i s hs,fun s' q=>by rw[e]at q;simp only[Sum.inr.injEq]at q;subst q;exact i1⟩,?_⟩;simp only[an,e,Bool.false_or];exact i2
  ·rw[decide_eq_false (by omega:¬ (s:Int) < (l.length:Int))]at e;simp only[cond_false]at e;refine⟨⟨hp i s hs,fun s' q=>by rw[e]at q;cases q⟩,.inr ⟨by simp only[an,e],by rw[List.drop_eq_nil_of_le (by omega)];rfl⟩⟩
theorem iU {sides:List Int}:∀ {no hr:Int} {l:List Case},qC sides no hr l->∀ x∈l,CaseOk sides x
 |_,_,[],_,x,hx=>by cases hx
 |_,_,y::R,h,x,hx=>by
  rcases List.mem_cons.1 hx with rfl|hx
  ·exact h.2.2.1
  ·exact iU h.2.2.2 x hx
theorem u6 (b:Cases)(F:List Int){side:Int}(hs:side=0\/side=1):cT b F side/\((aj b F side).2.2=0↔Rd b/\OfOk F b.sides.length)/\(Rd b->OfOk F b.sides.length->((aj b F side).2.1=true↔∃ x∈b.cases,Dp b.sides F side x)):=by
 obtain⟨r1,r2,r3⟩:=BM b;have hask:iY b F side:=⟨r1,fun _ _=>Vm _ _⟩;by_cases hR:Rd b
 ·obtain⟨a,c,ha,hc,e⟩:=r3 hR;have e0:=r2.2 hR;have h32:=hR.s;by_cases hF:OfOk F b.sides.length
  ·have hof:=(sh F h32).1.2 hF;have hw:aT side 1=true:=(jg side 1).2 (by omega);have ea:cS b F side=((av b).1,(aq F (b.sides.length:Int)).1,0):=by
    unfold cS;rw[e0,hof,hw];rfl
   have hlen:(b.cases.map (dec b.sides.length)).length<=64:=by rw[List.length_map];exact hR.c
   have hb:=fun x (hx:x∈b.cases) =>JU h32 ha hc (iU hR.cs x hx) hF hs (b.cases.map (dec b.sides.length));obtain⟨f1,f2⟩:=AE hlen (P:=fun x=>gb x side (aq F (b.sides.length:Int)).1 { favour:=(a,c),cases:=b.cases.map (dec b.sides.length)})
    (step:=aO (b.cases.map (dec b.sides.length)) side (aq F (b.sides.length:Int)).1 { favour:=(a,c),cases:=b.cases.map (dec b.sides.length)})
    (p:=be (b.cases.map (dec b.sides.length)) side (aq F (b.sides.length:Int)).1 { favour:=(a,c),cases:=b.cases.map (dec b.sides.length)})
    (fun k s=>rfl) (fun k s hs2 _ hlt=>by
     have hlt:=of_decide_eq_true hlt;refine⟨⟨by omega,hlt⟩,?_⟩;have hl2:s< (b.cases.map (dec b.sides.length)).length:=by omega
     rw[Int.toNat_natCast,List.getD_eq_getElem?_getD,List.getElem?_eq_getElem hl2,Option.getD_some,List.getElem_map];exact(hb _ (List.getElem_mem _)).2) ((b.cases.map (dec b.sides.length)).length+1) 0 0 (Nat.zero_le _) (by omega)
   rw[List.drop_zero]at f2;have hany:(b.cases.map (dec b.sides.length)).any (fun x=>gb x side (aq F (b.sides.length:Int)).1 { favour:=(a,c),cases:=b.cases.map (dec b.sides.length)})=true↔∃ x∈b.cases,Dp b.sides F side x:=by
    rw[List.any_eq_true];constructor
    ·rintro⟨z,hz,h⟩;obtain⟨x,hx,rfl⟩:=List.mem_map.1 hz;exact⟨x,hx,(hb x hx).1.1 h⟩
    ·rintro⟨x,hx,h⟩;exact⟨_,List.mem_map_of_mem hx,(hb x hx).1.2 h⟩
   refine⟨⟨hask,fun _=>?_⟩,⟨fun _=>⟨hR,hF⟩,fun _=>?_⟩,fun _ _=>?_⟩
   ·rw[ea];dsimp only;rw[e];refine⟨f1,fun z hz=>?_⟩;rcases f2 with⟨j,e1,_⟩ | ⟨e1,_⟩
    ·have hz:an (aO (b.cases.map (dec b.sides.length)) side (aq F (b.sides.length:Int)).1 { favour:=(a,c),cases:=b.cases.map (dec b.sides.length)}) ((b.cases.map (dec b.sides.length)).length+1) 0 ((0:Nat):Int)=.inr z:=hz;rw[e1]at hz;cases hz
    ·have hz:an (aO (b.cases.map (dec b.sides.length)) side (aq F (b.sides.length:Int)).1 { favour:=(a,c),cases:=b.cases.map (dec b.sides.length)}) ((b.cases.map (dec b.sides.length)).length+1) 0 ((0:Nat):Int)=.inr z:=hz;rw[e1]at hz;cases hz
   ·unfold aj;rw[ea];rfl
   ·unfold aj;rw[ea];simp only[bne_self_eq_false,cond_false];rw[e,<-hany];unfold cg;dsimp only;rcases f2 with⟨j,e1,h2⟩ | ⟨e1,h2⟩
    ·have e1:an (aO (b.cases.map (dec b.sides.length)) side (aq F (b.sides.length:Int)).1 { favour:=(a,c),cases:=b.cases.map (dec b.sides.length)}) ((b.cases.map (dec b.sides.length)).length+1) 0 0=.inl (.inl j):=e1;rw[e1,h2]
    ·have e1:an (aO (b.cases.map (dec b.sides.length)) side (aq F (b.sides.length:Int)).1 { favour:=(a,c),cases:=b.cases.map (dec b.sides.length)}) ((b.cases.map (dec b.sides.length)).length+1) 0 0=.inl (.inr ()):=e1;rw[e1,h2]
  ·have hof:(aq F (b.sides.length:Int)).2=false:=Bool.not_eq_true _▸fun h=>hF ((sh F h32).1.1 h);have ea:cS b F side=((av b).1,0,520):=by
    unfold cS;rw[e0,hof];rfl
   refine⟨⟨hask,fun h=>by rw[ea]at h;cases h⟩,⟨fun h=>?_,fun h=>absurd h.2 hF⟩,fun _ h=>absurd h hF⟩;unfold aj at h;rw[ea]at h;cases h
 ·have e0:((av b).2 !=0)=true:=by
   rw[bne_iff_ne];exact fun h=>hR (r2.1 h)
  have ea:cS b F side=((av b).1,0,(av b).2):=by
   unfold cS;rw[e0];rfl
  refine⟨⟨hask,fun h=>?_⟩,⟨fun h=>?_,fun h=>absurd h.1 hR⟩,fun h=>absurd h hR⟩
  ·rw[ea]at h;have h:((av b).2 !=0)=false:=h;rw[e0]at h;cases h
  ·unfold aj at h;rw[ea]at h;have h:(bif((av b).2 !=0)then((0:Int),false,(av b).2)else _).2.2=0:=h;rw[e0]at h;exact absurd (r2.1 h) hR
def iV (q:Int):Bool:=(((decide ((-32)<=q))&&(decide (q<=32)))&&(q !=0))
@[go_sem] def oH:List SV->Option Con:=(pI fun q=>(pE (.det True (.v (.bool (iV q))))))
theorem qD:FnOk Tryz.prog 83 oH:=by
 have hG:ConsOk Tryz.prog (mkG [] []):=ar cg0 cg0;refine ay [.o] mixed ak hG (fn:=Tryz.f83) (c:=ae Tryz.f83) kr kr kr kr (cI fun q=>(ai (fun hp=>?_)));dsimp only[ax]at hp;refine⟨nbl rfl,L0,ag _,?_⟩
 ·unfold ae Tryz.f83;try unfold iV
  exact zq1
@[go_sem] def rU (l_:List Int)(k_0:Nat)(s_0:Unit):Unit⊕Unit:=(bif((!(iV (l_.getD k_0 0))) ||((decide ((k_0:Int) > 0))&&(decide ((l_.getD k_0 0)<=(l_.getD (Int.toNat (i64.wrap ((k_0:Int) - 1))) 0)))))then .inl ()else .inr ())
def jK (l_:List Int)(k_0:Nat)(s_0:Unit):Prop:=((!(iV (l_.getD k_0 0)))=false->((decide ((k_0:Int) > 0))=true->(0<=(i64.wrap ((k_0:Int) - 1))/\(i64.wrap ((k_0:Int) - 1)) < (l_.length:Int))))
def nU (l_:List Int):Bool:=(match an (rU l_) l_.length 0 ()with| .inl x_0_0=>false| .inr s_0=>true)
def ji (l_:List Int):Prop:=(l_.length<=aD->okI (rU l_) (jK l_) l_.length 0 ())
@[go_sem] def xh:List SV->Option Con:=(pR .int fun l_=>(pE (.det (ji l_) (.v (.bool (nU l_))))))
theorem Bx:FnOk Tryz.prog 117 xh:=by
 have hG:ConsOk Tryz.prog (mkG [(83,oH)] []):=ar (cgc qD cg0) cg0;refine ay [.o] mixed ak hG (fn:=Tryz.f117) (c:=ae Tryz.f117) kr kr kr kr (bC fun l_=>(ai (fun hp=>?_)));dsimp only[ax]at hp;unfold ji at hp;refine⟨nbl rfl,(fun id st=>bif Nat.beq id 0 then some (LCR (ρ:=Unit) (σ:=Unit) 0 [] [] (fun k_0 s_0=>⟨[(0,.rs .int l_),(5,.rs .int l_),(6,.v (.int .i64 (l_.length:Int))),(7,.v (.int .i64 (k_0:Int)))],[]⟩) (rU l_) (jK l_) l_.length () (l_.length<=aD) (fun _=>.ret) (fun x_0_0=>⟨[(2,.v (.bool false))],[]⟩) st)else none),?_,?_⟩
 ·unfold ae Tryz.f117;simp only[am,true_and,and_true]
  ·refine a_ mixed ak hG kr (fun _=>rfl) (l_.length:Int) rfl gA (fun hb0 k_0 s_0 hlt0 hq0 hw hc=>⟨L0,ag _,?_⟩) (fun hb0 s_0 hc=>?_)
   ·unfold jK at hq0;try simp only[hw,Int.toNat_natCast]at hq0
    exact bi (jl [])
   ·exact ba (jl [])
 ·unfold ae Tryz.f117;try unfold nU
  exact zq1
def uw (c:Clause):Bool:=(decide ((c.if_.length:Int) > 8))
@[go_sem] def we:List SV->Option Con:=(pD .clause fun c=>(pE (.det True (.v (.bool (uw c))))))
theorem AF:FnOk Tryz.prog 115 we:=by
 have hG:ConsOk Tryz.prog (mkG [] []):=ar cg0 cg0;refine ay [.o] mixed ak hG (fn:=Tryz.f115) (c:=ae Tryz.f115) kr kr kr kr (bk fun c=>(ai (fun hp=>?_)));dsimp only[ax]at hp;refine⟨nbl rfl,L0,ag _,?_⟩
 ·unfold ae Tryz.f115;try unfold uw
  exact zq1
def qE (q:Int)(k_:PleasCourt):Bool:=((dS .int .int k_.known q) !=1)
@[go_sem] def s5:List SV->Option Con:=(pI fun q=>(pXX .pleasCourt fun k_=>(pE (.det True (.v (.bool (qE q k_)))))))
theorem xP:FnOk Tryz.prog 208 s5:=by
 have hG:ConsOk Tryz.prog (mkG [] []):=ar cg0 cg0;refine ay [.o] mixed ak hG (fn:=Tryz.f208) (c:=ae Tryz.f208) kr kr kr kr (cI fun q=>(bK fun k_=>(ai (fun hp=>?_))));dsimp only[ax]at hp;refine⟨nbl rfl,L0,ag _,?_⟩
 ·unfold ae Tryz.f208;try unfold qE
  exact zq1
def pO (q:Int)(k_:PleasCourt):Bool:=((dS .int .int k_.known q) ==2)
@[go_sem] def sj:List SV->Option Con:=(pI fun q=>(pXX .pleasCourt fun k_=>(pE (.det True (.v (.bool (pO q k_)))))))
theorem xi:FnOk Tryz.prog 209 sj:=by
 have hG:ConsOk Tryz.prog (mkG [] []):=ar cg0 cg0;refine ay [.o] mixed ak hG (fn:=Tryz.f209) (c:=ae Tryz.f209) kr kr kr kr (cI fun q=>(bK fun k_=>(ai (fun hp=>?_))));dsimp only[ax]at hp;refine⟨nbl rfl,L0,ag _,?_⟩
 ·unfold ae Tryz.f209;try unfold pO
  exact zq1
@[go_sem] def mu (s_:List Int)(k_:PleasCourt)(k_0:Nat)(s_0:Unit):Int⊕Unit:=(bif(qE (s_.getD k_0 0) k_)then .inl (k_0:Int)else .inr ())
def jT (s_:List Int)(k_:PleasCourt):Int:=(match an (mu s_ k_) s_.length 0 ()with| .inl x_0_0=>x_0_0| .inr s_0=>(-1))
@[go_sem] def jk:List SV->Option Con:=(pR .int fun s_=>(pFn 208 (pXX .pleasCourt fun k_=>(pE ((pE (.det True (.v (.int .i64 (jT s_ k_))))))))))
theorem mv:FnOk Tryz.prog 203 jk:=by
 have hG:ConsOk Tryz.prog (mkG [(208,s5)] []):=ar (cgc xP cg0) cg0;refine ay [.o] mixed ak hG (fn:=Tryz.f203) (c:=ae Tryz.f203) kr kr kr kr (bC fun s_=>(bJ (bK fun k_=>(ai ((ai (fun hp=>?_)))))));dsimp only[ax]at hp;refine⟨nbl rfl,(fun id st=>bif Nat.beq id 0 then some (LCR (ρ:=Int) (σ:=Unit) 0 [] [] (fun k_0 s_0=>⟨[(0,.rs .int s_),(1,.fn 208 [] [.ep [.ep (cellsOf .pleasCourt k_) 0] 0]),(7,.v (.int .i64 (s_.length:Int))),(8,.v (.int .i64 (k_0:Int)))],[]⟩) (mu s_ k_) pT s_.length () (s_.length<=aD) (fun _=>.ret) (fun x_0_0=>⟨[(4,.v (.int .i64 x_0_0))],[]⟩) st)else none),?_,?_⟩
 ·unfold ae Tryz.f203;simp only[am,true_and,and_true]
  ·refine a_ mixed ak hG kr (fun _=>rfl) (s_.length:Int) rfl gA (fun hb0 k_0 s_0 hlt0 _ hw hc=>⟨L0,ag _,?_⟩) (fun hb0 s_0 hc=>?_)
   ·exact bi (jl [])
   ·exact ba (jl [])
 ·unfold ae Tryz.f203;try unfold jT
  exact zq1
@[go_sem] def kX (s_:List Int)(k_:PleasCourt)(k_0:Nat)(s_0:Unit):Int⊕Unit:=(bif(pO (s_.getD k_0 0) k_)then .inl (k_0:Int)else .inr ())
def jm (s_:List Int)(k_:PleasCourt):Int:=(match an (kX s_ k_) s_.length 0 ()with| .inl x_0_0=>x_0_0| .inr s_0=>(-1))
@[go_sem] def iG:List SV->Option Con:=(pR .int fun s_=>(pFn 209 (pXX .pleasCourt fun k_=>(pE ((pE (.det True (.v (.int .i64 (jm s_ k_))))))))))
theorem kY:FnOk Tryz.prog 203 iG:=by
 have hG:ConsOk Tryz.prog (mkG [(209,sj)] []):=ar (cgc xi cg0) cg0;refine ay [.o] mixed ak hG (fn:=Tryz.f203) (c:=ae Tryz.f203) kr kr kr kr (bC fun s_=>(bJ (bK fun k_=>(ai ((ai (fun hp=>?_)))))));dsimp only[ax]at hp;refine⟨nbl rfl,(fun id st=>bif Nat.beq id 0 then some (LCR (ρ:=Int) (σ:=Unit) 0 [] [] (fun k_0 s_0=>⟨[(0,.rs .int s_),(1,.fn 209 [] [.ep [.ep (cellsOf .pleasCourt k_) 0] 0]),(7,.v (.int .i64 (s_.length:Int))),(8,.v (.int .i64 (k_0:Int)))],[]⟩) (kX s_ k_) pT s_.length () (s_.length<=aD) (fun _=>.ret) (fun x_0_0=>⟨[(4,.v (.int .i64 x_0_0))],[]⟩) st)else none),?_,?_⟩
 ·unfold ae Tryz.f203;simp only[am,true_and,and_true]
  ·refine a_ mixed ak hG kr (fun _=>rfl) (s_.length:Int) rfl gA (fun hb0 k_0 s_0 hlt0 _ hw hc=>⟨L0,ag _,?_⟩) (fun hb0 s_0 hc=>?_)
   ·exact bi (jl [])
   ·exact ba (jl [])
 ·unfold ae Tryz.f203;try unfold jm
  exact zq1
@[go_sem] noncomputable def gu:List SV->Option Con:=fun l=>(orC (jk l) (iG l))
theorem lM:FnOk Tryz.prog 203 gu:=(FnOk.or mv kY)
def iN (s_:List Int)(k_:PleasCourt):Bool:=(decide ((jT s_ k_)>=0))
@[go_sem] def iv:List SV->Option Con:=(pR .int fun s_=>(pFn 208 (pXX .pleasCourt fun k_=>(pE ((pE (.det True (.v (.bool (iN s_ k_))))))))))
theorem ZB {p:Prop}(h:p:=by simp only[go_sem,Nat.reduceBEq,Nat.reduceLeDiff,Nat.reduceLT,decide_true,Nat.reduceAdd,Nat.reduceSub,Nat.reduceMul,Int.reduceLE,Int.reduceLT,Int.reduceToNat,Int.reduceNeg,reduceCtorEq,gu];all_goals exact cl):p:=h
theorem kE:FnOk Tryz.prog 157 iv:=by
 have hG:ConsOk Tryz.prog (mkG [(203,fun l=>gu (bp [.sl .int,.o] l))] []):=ar (cgc (lM.norm [.sl .int,.o]) cg0) cg0;refine ay [.o] mixed ak hG (fn:=Tryz.f157) (c:=ae Tryz.f157) kr kr kr kr (bC fun s_=>(bJ (bK fun k_=>(ai ((ai (fun hp=>?_)))))));dsimp only[ax]at hp;refine⟨nbl rfl,L0,ag _,?_⟩
 ·unfold ae Tryz.f157;try unfold iN
  exact ZB
def iw (s_:List Int)(k_:PleasCourt):Bool:=(decide ((jm s_ k_)>=0))
@[go_sem] def g_:List SV->Option Con:=(pR .int fun s_=>(pFn 209 (pXX .pleasCourt fun k_=>(pE ((pE (.det True (.v (.bool (iw s_ k_))))))))))
theorem jL:FnOk Tryz.prog 157 g_:=by
 have hG:ConsOk Tryz.prog (mkG [(203,fun l=>gu (bp [.sl .int,.o] l))] []):=ar (cgc (lM.norm [.sl .int,.o]) cg0) cg0;refine ay [.o] mixed ak hG (fn:=Tryz.f157) (c:=ae Tryz.f157) kr kr kr kr (bC fun s_=>(bJ (bK fun k_=>(ai ((ai (fun hp=>?_)))))));dsimp only[ax]at hp;refine⟨nbl rfl,L0,ag _,?_⟩
 ·unfold ae Tryz.f157;try unfold iw
  exact ZB
@[go_sem] noncomputable def fv:List SV->Option Con:=fun l=>(orC (iv l) (g_ l))
theorem jZ:FnOk Tryz.prog 157 fv:=(FnOk.or kE jL)
def kF (k_:PleasCourt)(c:Clause):Bool:=(!(iN c.if_ k_))
@[go_sem] def kG:List SV->Option Con:=(pX .pleasCourt fun k_=>(pD .clause fun c=>(pE (.det True (.v (.bool (kF k_ c)))))))
theorem ZC {p:Prop}(h:p:=by simp only[go_sem,Nat.reduceBEq,Nat.reduceLeDiff,Nat.reduceLT,decide_true,Nat.reduceAdd,Nat.reduceSub,Nat.reduceMul,Int.reduceLE,Int.reduceLT,Int.reduceToNat,Int.reduceNeg,reduceCtorEq,fv];all_goals exact cl):p:=h
theorem mw:FnOk Tryz.prog 165 kG:=by
 have hG:ConsOk Tryz.prog (mkG [(157,fun l=>fv (bp [.sl .int,.o] l))] []):=ar (cgc (jZ.norm [.sl .int,.o]) cg0) cg0;refine ay [.o] mixed ak hG (fn:=Tryz.f165) (c:=ae Tryz.f165) kr kr kr kr (aQ fun k_=>(bk fun c=>(ai (fun hp=>?_))));dsimp only[ax]at hp;refine⟨nbl rfl,L0,ag _,?_⟩
 ·unfold ae Tryz.f165;try unfold kF
  exact ZC
def lN (k_:PleasCourt)(c:Clause):Bool:=(iw c.if_ k_)
@[go_sem] def my:List SV->Option Con:=(pX .pleasCourt fun k_=>(pD .clause fun c=>(pE (.det True (.v (.bool (lN k_ c)))))))
theorem oX:FnOk Tryz.prog 167 my:=by
 have hG:ConsOk Tryz.prog (mkG [(157,fun l=>fv (bp [.sl .int,.o] l))] []):=ar (cgc (jZ.norm [.sl .int,.o]) cg0) cg0;refine ay [.o] mixed ak hG (fn:=Tryz.f167) (c:=ae Tryz.f167) kr kr kr kr (aQ fun k_=>(bk fun c=>(ai (fun hp=>?_))));dsimp only[ax]at hp;refine⟨nbl rfl,L0,ag _,?_⟩
 ·unfold ae Tryz.f167;try unfold lN
  exact ZC
def mZ (c:Clause)(q:Int)(k_:PleasCourt):Bool:=((c.then_==q)&&(kF k_ c))
@[go_sem] def pP:List SV->Option Con:=(pD .clause fun c=>(pX .int fun q=>(pXX .pleasCourt fun k_=>(pE (.det True (.v (.bool (mZ c q k_))))))))
theorem u7:FnOk Tryz.prog 169 pP:=by
 have hG:ConsOk Tryz.prog (mkG [(165,fun l=>kG (bp [.o,.st .clause] l))] []):=ar (cgc (mw.norm [.o,.st .clause]) cg0) cg0;refine ay [.o] mixed ak hG (fn:=Tryz.f169) (c:=ae Tryz.f169) kr kr kr kr (bk fun c=>(aQ fun q=>(bK fun k_=>(ai (fun hp=>?_)))));dsimp only[ax]at hp;refine⟨nbl rfl,L0,ag _,?_⟩
 ·unfold ae Tryz.f169;try unfold mZ
  exact zq1
@[go_sem] def gC (s_:List Clause)(q:Int)(k_:PleasCourt)(k_0:Nat)(s_0:Unit):Int⊕Unit:=(bif(mZ (s_.getD k_0 default) q k_)then .inl (k_0:Int)else .inr ())
def eK (s_:List Clause)(q:Int)(k_:PleasCourt):Int:=(match an (gC s_ q k_) s_.length 0 ()with| .inl x_0_0=>x_0_0| .inr s_0=>(-1))
@[go_sem] def bF:List SV->Option Con:=(pR .clause fun s_=>(pFn 169 (pX .int fun q=>(pXX .pleasCourt fun k_=>(pE ((pE (.det True (.v (.int .i64 (eK s_ q k_)))))))))))
theorem cn:FnOk Tryz.prog 156 bF:=by
 have hG:ConsOk Tryz.prog (mkG [(169,fun l=>pP (bp [.st .clause,.o,.o] l))] []):=ar (cgc (u7.norm [.st .clause,.o,.o]) cg0) cg0;refine ay [.o] mixed ak hG (fn:=Tryz.f156) (c:=ae Tryz.f156) kr kr kr kr (bC fun s_=>(bJ (aQ fun q=>(bK fun k_=>(ai ((ai (fun hp=>?_))))))));dsimp only[ax]at hp;refine⟨nbl rfl,(fun id st=>bif Nat.beq id 0 then some (LCR (ρ:=Int) (σ:=Unit) 0 [] [] (fun k_0 s_0=>⟨[(0,.rs .clause s_),(1,.fn 169 [] [.ep [.v (.int .i64 q)] 0,.ep [.ep (cellsOf .pleasCourt k_) 0] 0]),(7,.v (.int .i64 (s_.length:Int))),(8,.v (.int .i64 (k_0:Int)))],[]⟩) (gC s_ q k_) pT s_.length () (s_.length<=aD) (fun _=>.ret) (fun x_0_0=>⟨[(4,.v (.int .i64 x_0_0))],[]⟩) st)else none),?_,?_⟩
 ·unfold ae Tryz.f156;simp only[am,true_and,and_true]
  ·refine a_ mixed ak hG kr (fun _=>rfl) (s_.length:Int) rfl gA (fun hb0 k_0 s_0 hlt0 _ hw hc=>⟨L0,ag _,?_⟩) (fun hb0 s_0 hc=>?_)
   ·exact bi (jl [])
   ·exact ba (jl [])
 ·unfold ae Tryz.f156;try unfold eK
  exact zq1
@[go_sem] noncomputable def eD:List SV->Option Con:=fun l=>(bF l)
theorem lr:FnOk Tryz.prog 156 eD:=cn
def lu (k_:PleasCourt)(q:Int):Int:=(i64.wrap (1+(eK k_.plea.clauses q k_)))
@[go_sem] def rB:List SV->Option Con:=(pX .pleasCourt fun k_=>(pI fun q=>(pE (.det True (.v (.int .i64 (lu k_ q)))))))
theorem zq97 {p:Prop}(h:p:=by simp only[go_sem,Nat.reduceBEq,Nat.reduceLeDiff,Nat.reduceLT,decide_true,Nat.reduceAdd,Nat.reduceSub,Nat.reduceMul,Int.reduceLE,Int.reduceLT,Int.reduceToNat,Int.reduceNeg,reduceCtorEq,eD];all_goals exact cl):p:=h
theorem wn:FnOk Tryz.prog 133 rB:=by
 have hG:ConsOk Tryz.prog (mkG [(156,fun l=>eD (bp [.sl .clause,.o] l))] []):=ar (cgc (lr.norm [.sl .clause,.o]) cg0) cg0;refine ay [.o] mixed ak hG (fn:=Tryz.f133) (c:=ae Tryz.f133) kr kr kr kr (aQ fun k_=>(cI fun q=>(ai (fun hp=>?_))));dsimp only[ax]at hp;refine⟨nbl rfl,L0,ag _,?_⟩
 ·unfold ae Tryz.f133;try unfold lu
  exact zq97
def lv (c:Clause)(k_:PleasCourt)(w_:Clause):Bool:=((kF k_ c)&&(decide (c.rank > w_.rank)))
@[go_sem] def oy:List SV->Option Con:=(pD .clause fun c=>(pXX .pleasCourt fun k_=>(pX .clause fun w_=>(pE (.det True (.v (.bool (lv c k_ w_))))))))
theorem tD:FnOk Tryz.prog 168 oy:=by
 have hG:ConsOk Tryz.prog (mkG [(165,fun l=>kG (bp [.o,.st .clause] l))] []):=ar (cgc (mw.norm [.o,.st .clause]) cg0) cg0;refine ay [.o] mixed ak hG (fn:=Tryz.f168) (c:=ae Tryz.f168) kr kr kr kr (bk fun c=>(bK fun k_=>(aQ fun w_=>(ai (fun hp=>?_)))));dsimp only[ax]at hp;refine⟨nbl rfl,L0,ag _,?_⟩
 ·unfold ae Tryz.f168;try unfold lv
  exact zq1
def kH (c:Clause)(k_:PleasCourt):Bool:=(!(lN k_ c))
@[go_sem] def nY:List SV->Option Con:=(pD .clause fun c=>(pXX .pleasCourt fun k_=>(pE (.det True (.v (.bool (kH c k_)))))))
theorem s6:FnOk Tryz.prog 172 nY:=by
 have hG:ConsOk Tryz.prog (mkG [(167,fun l=>my (bp [.o,.st .clause] l))] []):=ar (cgc (oX.norm [.o,.st .clause]) cg0) cg0;refine ay [.o] mixed ak hG (fn:=Tryz.f172) (c:=ae Tryz.f172) kr kr kr kr (bk fun c=>(bK fun k_=>(ai (fun hp=>?_))));dsimp only[ax]at hp;refine⟨nbl rfl,L0,ag _,?_⟩
 ·unfold ae Tryz.f172;try unfold kH
  exact zq1
def jw (c:Clause)(k_:PleasCourt)(w_:Clause):Bool:=((!(lN k_ c))&&(decide (c.rank > w_.rank)))
@[go_sem] def mz:List SV->Option Con:=(pD .clause fun c=>(pXX .pleasCourt fun k_=>(pX .clause fun w_=>(pE (.det True (.v (.bool (jw c k_ w_))))))))
theorem rV:FnOk Tryz.prog 175 mz:=by
 have hG:ConsOk Tryz.prog (mkG [(167,fun l=>my (bp [.o,.st .clause] l))] []):=ar (cgc (oX.norm [.o,.st .clause]) cg0) cg0;refine ay [.o] mixed ak hG (fn:=Tryz.f175) (c:=ae Tryz.f175) kr kr kr kr (bk fun c=>(bK fun k_=>(aQ fun w_=>(ai (fun hp=>?_)))));dsimp only[ax]at hp;refine⟨nbl rfl,L0,ag _,?_⟩
 ·unfold ae Tryz.f175;try unfold jw
  exact zq1
def m_ (c:Clause)(q0:Int)(k2:PleasCourt):Bool:=((c.then_==q0)&&(kF k2 c))
@[go_sem] def lw:List SV->Option Con:=(pD .clause fun c=>(pX .int fun q0=>(JA 165 (pX .pleasCourt fun k2=>(pE ((pE (.det True (.v (.bool (m_ c q0 k2)))))))))))
theorem pd:FnOk Tryz.prog 207 lw:=by
 have hG:ConsOk Tryz.prog (mkG [(165,fun l=>kG (bp [.o,.st .clause] l))] []):=ar (cgc (mw.norm [.o,.st .clause]) cg0) cg0;refine ay [.o] mixed ak hG (fn:=Tryz.f207) (c:=ae Tryz.f207) kr kr kr kr (bk fun c=>(aQ fun q0=>(C3 (aQ fun k2=>(ai ((ai (fun hp=>?_))))))));dsimp only[ax]at hp;refine⟨nbl rfl,L0,ag _,?_⟩
 ·unfold ae Tryz.f207;try unfold m_
  exact zq1
def na (c:Clause)(q0:Int)(k2:PleasCourt)(w_:Clause):Bool:=((c.then_==q0)&&(lv c k2 w_))
@[go_sem] def lz:List SV->Option Con:=(pD .clause fun c=>(pX .int fun q0=>(pXF 168 (pXX .pleasCourt fun k2=>(pX .clause fun w_=>(pE ((pE (.det True (.v (.bool (na c q0 k2 w_))))))))))))
theorem pe:FnOk Tryz.prog 207 lz:=by
 have hG:ConsOk Tryz.prog (mkG [(168,fun l=>oy (bp [.st .clause,.o,.o] l))] []):=ar (cgc (tD.norm [.st .clause,.o,.o]) cg0) cg0;refine ay [.o] mixed ak hG (fn:=Tryz.f207) (c:=ae Tryz.f207) kr kr kr kr (bk fun c=>(aQ fun q0=>(lf (bK fun k2=>(aQ fun w_=>(ai ((ai (fun hp=>?_)))))))));dsimp only[ax]at hp;refine⟨nbl rfl,L0,ag _,?_⟩
 ·unfold ae Tryz.f207;try unfold na
  exact zq1
def nf (c:Clause)(q0:Int)(k2:PleasCourt):Bool:=((c.then_==q0)&&(kH c k2))
@[go_sem] def lA:List SV->Option Con:=(pD .clause fun c=>(pX .int fun q0=>(pXF 172 (pXX .pleasCourt fun k2=>(pE ((pE (.det True (.v (.bool (nf c q0 k2)))))))))))
theorem pf:FnOk Tryz.prog 207 lA:=by
 have hG:ConsOk Tryz.prog (mkG [(172,fun l=>nY (bp [.st .clause,.o] l))] []):=ar (cgc (s6.norm [.st .clause,.o]) cg0) cg0;refine ay [.o] mixed ak hG (fn:=Tryz.f207) (c:=ae Tryz.f207) kr kr kr kr (bk fun c=>(aQ fun q0=>(lf (bK fun k2=>(ai ((ai (fun hp=>?_))))))));dsimp only[ax]at hp;refine⟨nbl rfl,L0,ag _,?_⟩
 ·unfold ae Tryz.f207;try unfold nf
  exact zq1
def nh (c:Clause)(q0:Int)(k2:PleasCourt)(w_:Clause):Bool:=((c.then_==q0)&&(jw c k2 w_))
@[go_sem] def lB:List SV->Option Con:=(pD .clause fun c=>(pX .int fun q0=>(pXF 175 (pXX .pleasCourt fun k2=>(pX .clause fun w_=>(pE ((pE (.det True (.v (.bool (nh c q0 k2 w_))))))))))))
theorem pg:FnOk Tryz.prog 207 lB:=by
 have hG:ConsOk Tryz.prog (mkG [(175,fun l=>mz (bp [.st .clause,.o,.o] l))] []):=ar (cgc (rV.norm [.st .clause,.o,.o]) cg0) cg0;refine ay [.o] mixed ak hG (fn:=Tryz.f207) (c:=ae Tryz.f207) kr kr kr kr (bk fun c=>(aQ fun q0=>(lf (bK fun k2=>(aQ fun w_=>(ai ((ai (fun hp=>?_)))))))));dsimp only[ax]at hp;refine⟨nbl rfl,L0,ag _,?_⟩
 ·unfold ae Tryz.f207;try unfold nh
  exact zq1
@[go_sem] noncomputable def fQ:List SV->Option Con:=fun l=>(orC (lw l) (orC (lz l) (orC (lA l) (lB l))))
theorem iO:FnOk Tryz.prog 207 fQ:=(FnOk.or pd (FnOk.or pe (FnOk.or pf pg)))
@[go_sem] def gD (s_:List Clause)(q0:Int)(k2:PleasCourt)(k_0:Nat)(s_0:Unit):Int⊕Unit:=(bif(m_ (s_.getD k_0 default) q0 k2)then .inl (k_0:Int)else .inr ())
def eL (s_:List Clause)(q0:Int)(k2:PleasCourt):Int:=(match an (gD s_ q0 k2) s_.length 0 ()with| .inl x_0_0=>x_0_0| .inr s_0=>(-1))
@[go_sem] def cA:List SV->Option Con:=(pR .clause fun s_=>(pFn 207 (pX .int fun q0=>(JA 165 (pX .pleasCourt fun k2=>(pE ((pE ((pE (.det True (.v (.int .i64 (eL s_ q0 k2))))))))))))))
theorem Ld {p:Prop}(h:p:=by simp only[go_sem,Nat.reduceBEq,Nat.reduceLeDiff,Nat.reduceLT,decide_true,Nat.reduceAdd,Nat.reduceSub,Nat.reduceMul,Int.reduceLE,Int.reduceLT,Int.reduceToNat,Int.reduceNeg,reduceCtorEq,fQ];all_goals exact cl):p:=h
theorem dW:FnOk Tryz.prog 156 cA:=by
 have hG:ConsOk Tryz.prog (mkG [(207,fun l=>fQ (bp [.st .clause,.o,.o] l))] []):=ar (cgc (iO.norm [.st .clause,.o,.o]) cg0) cg0;refine ay [.o] mixed ak hG (fn:=Tryz.f156) (c:=ae Tryz.f156) kr kr kr kr (bC fun s_=>(bJ (aQ fun q0=>(C3 (aQ fun k2=>(ai ((ai ((ai (fun hp=>?_)))))))))));dsimp only[ax]at hp;refine⟨nbl rfl,(fun id st=>bif Nat.beq id 0 then some (LCR (ρ:=Int) (σ:=Unit) 0 [] [] (fun k_0 s_0=>⟨[(0,.rs .clause s_),(1,.fn 207 [] [.ep [.v (.int .i64 q0)] 0,.ep [.fn 165 [.ep (cellsOf .pleasCourt k2) 0] []] 0]),(7,.v (.int .i64 (s_.length:Int))),(8,.v (.int .i64 (k_0:Int)))],[]⟩) (gD s_ q0 k2) pT s_.length () (s_.length<=aD) (fun _=>.ret) (fun x_0_0=>⟨[(4,.v (.int .i64 x_0_0))],[]⟩) st)else none),?_,?_⟩
 ·unfold ae Tryz.f156;simp only[am,true_and,and_true]
  ·refine a_ mixed ak hG kr (fun _=>rfl) (s_.length:Int) rfl gA (fun hb0 k_0 s_0 hlt0 _ hw hc=>⟨L0,ag _,?_⟩) (fun hb0 s_0 hc=>?_)
   ·exact bi (jl [])
   ·exact ba (jl [])
 ·unfold ae Tryz.f156;try unfold eL
  exact Ld
@[go_sem] def gE (s_:List Clause)(q0:Int)(k2:PleasCourt)(w_:Clause)(k_0:Nat)(s_0:Unit):Int⊕Unit:=(bif(na (s_.getD k_0 default) q0 k2 w_)then .inl (k_0:Int)else .inr ())
def eM (s_:List Clause)(q0:Int)(k2:PleasCourt)(w_:Clause):Int:=(match an (gE s_ q0 k2 w_) s_.length 0 ()with| .inl x_0_0=>x_0_0| .inr s_0=>(-1))
@[go_sem] def cB:List SV->Option Con:=(pR .clause fun s_=>(pFn 207 (pX .int fun q0=>(pXF 168 (pXX .pleasCourt fun k2=>(pX .clause fun w_=>(pE ((pE ((pE (.det True (.v (.int .i64 (eM s_ q0 k2 w_)))))))))))))))
theorem dX:FnOk Tryz.prog 156 cB:=by
 have hG:ConsOk Tryz.prog (mkG [(207,fun l=>fQ (bp [.st .clause,.o,.o] l))] []):=ar (cgc (iO.norm [.st .clause,.o,.o]) cg0) cg0;refine ay [.o] mixed ak hG (fn:=Tryz.f156) (c:=ae Tryz.f156) kr kr kr kr (bC fun s_=>(bJ (aQ fun q0=>(lf (bK fun k2=>(aQ fun w_=>(ai ((ai ((ai (fun hp=>?_))))))))))));dsimp only[ax]at hp;refine⟨nbl rfl,(fun id st=>bif Nat.beq id 0 then some (LCR (ρ:=Int) (σ:=Unit) 0 [] [] (fun k_0 s_0=>⟨[(0,.rs .clause s_),(1,.fn 207 [] [.ep [.v (.int .i64 q0)] 0,.ep [.fn 168 [] [.ep [.ep (cellsOf .pleasCourt k2) 0] 0,.ep (cellsOf .clause w_) 0]] 0]),(7,.v (.int .i64 (s_.length:Int))),(8,.v (.int .i64 (k_0:Int)))],[]⟩) (gE s_ q0 k2 w_) pT s_.length () (s_.length<=aD) (fun _=>.ret) (fun x_0_0=>⟨[(4,.v (.int .i64 x_0_0))],[]⟩) st)else none),?_,?_⟩
 ·unfold ae Tryz.f156;simp only[am,true_and,and_true]
  ·refine a_ mixed ak hG kr (fun _=>rfl) (s_.length:Int) rfl gA (fun hb0 k_0 s_0 hlt0 _ hw hc=>⟨L0,ag _,?_⟩) (fun hb0 s_0 hc=>?_)
   ·exact bi (jl [])
   ·exact ba (jl [])
 ·unfold ae Tryz.f156;try unfold eM
  exact Ld
@[go_sem] def gF (s_:List Clause)(q0:Int)(k2:PleasCourt)(k_0:Nat)(s_0:Unit):Int⊕Unit:=(bif(nf (s_.getD k_0 default) q0 k2)then .inl (k_0:Int)else .inr ())
def eN (s_:List Clause)(q0:Int)(k2:PleasCourt):Int:=(match an (gF s_ q0 k2) s_.length 0 ()with| .inl x_0_0=>x_0_0| .inr s_0=>(-1))
@[go_sem] def cC:List SV->Option Con:=(pR .clause fun s_=>(pFn 207 (pX .int fun q0=>(pXF 172 (pXX .pleasCourt fun k2=>(pE ((pE ((pE (.det True (.v (.int .i64 (eN s_ q0 k2))))))))))))))
theorem dY:FnOk Tryz.prog 156 cC:=by
 have hG:ConsOk Tryz.prog (mkG [(207,fun l=>fQ (bp [.st .clause,.o,.o] l))] []):=ar (cgc (iO.norm [.st .clause,.o,.o]) cg0) cg0;refine ay [.o] mixed ak hG (fn:=Tryz.f156) (c:=ae Tryz.f156) kr kr kr kr (bC fun s_=>(bJ (aQ fun q0=>(lf (bK fun k2=>(ai ((ai ((ai (fun hp=>?_)))))))))));dsimp only[ax]at hp;refine⟨nbl rfl,(fun id st=>bif Nat.beq id 0 then some (LCR (ρ:=Int) (σ:=Unit) 0 [] [] (fun k_0 s_0=>⟨[(0,.rs .clause s_),(1,.fn 207 [] [.ep [.v (.int .i64 q0)] 0,.ep [.fn 172 [] [.ep [.ep (cellsOf .pleasCourt k2) 0] 0]] 0]),(7,.v (.int .i64 (s_.length:Int))),(8,.v (.int .i64 (k_0:Int)))],[]⟩) (gF s_ q0 k2) pT s_.length () (s_.length<=aD) (fun _=>.ret) (fun x_0_0=>⟨[(4,.v (.int .i64 x_0_0))],[]⟩) st)else none),?_,?_⟩
 ·unfold ae Tryz.f156;simp only[am,true_and,and_true]
  ·refine a_ mixed ak hG kr (fun _=>rfl) (s_.length:Int) rfl gA (fun hb0 k_0 s_0 hlt0 _ hw hc=>⟨L0,ag _,?_⟩) (fun hb0 s_0 hc=>?_)
   ·exact bi (jl [])
   ·exact ba (jl [])
 ·unfold ae Tryz.f156;try unfold eN
  exact Ld
@[go_sem] def gG (s_:List Clause)(q0:Int)(k2:PleasCourt)(w_:Clause)(k_0:Nat)(s_0:Unit):Int⊕Unit:=(bif(nh (s_.getD k_0 default) q0 k2 w_)then .inl (k_0:Int)else .inr ())
def eO (s_:List Clause)(q0:Int)(k2:PleasCourt)(w_:Clause):Int:=(match an (gG s_ q0 k2 w_) s_.length 0 ()with| .inl x_0_0=>x_0_0| .inr s_0=>(-1))
@[go_sem] def cD:List SV->Option Con:=(pR .clause fun s_=>(pFn 207 (pX .int fun q0=>(pXF 175 (pXX .pleasCourt fun k2=>(pX .clause fun w_=>(pE ((pE ((pE (.det True (.v (.int .i64 (eO s_ q0 k2 w_)))))))))))))))
theorem dZ:FnOk Tryz.prog 156 cD:=by
 have hG:ConsOk Tryz.prog (mkG [(207,fun l=>fQ (bp [.st .clause,.o,.o] l))] []):=ar (cgc (iO.norm [.st .clause,.o,.o]) cg0) cg0;refine ay [.o] mixed ak hG (fn:=Tryz.f156) (c:=ae Tryz.f156) kr kr kr kr (bC fun s_=>(bJ (aQ fun q0=>(lf (bK fun k2=>(aQ fun w_=>(ai ((ai ((ai (fun hp=>?_))))))))))));dsimp only[ax]at hp;refine⟨nbl rfl,(fun id st=>bif Nat.beq id 0 then some (LCR (ρ:=Int) (σ:=Unit) 0 [] [] (fun k_0 s_0=>⟨[(0,.rs .clause s_),(1,.fn 207 [] [.ep [.v (.int .i64 q0)] 0,.ep [.fn 175 [] [.ep [.ep (cellsOf .pleasCourt k2) 0] 0,.ep (cellsOf .clause w_) 0]] 0]),(7,.v (.int .i64 (s_.length:Int))),(8,.v (.int .i64 (k_0:Int)))],[]⟩) (gG s_ q0 k2 w_) pT s_.length () (s_.length<=aD) (fun _=>.ret) (fun x_0_0=>⟨[(4,.v (.int .i64 x_0_0))],[]⟩) st)else none),?_,?_⟩
 ·unfold ae Tryz.f156;simp only[am,true_and,and_true]
  ·refine a_ mixed ak hG kr (fun _=>rfl) (s_.length:Int) rfl gA (fun hb0 k_0 s_0 hlt0 _ hw hc=>⟨L0,ag _,?_⟩) (fun hb0 s_0 hc=>?_)
   ·exact bi (jl [])
   ·exact ba (jl [])
 ·unfold ae Tryz.f156;try unfold eO
  exact Ld
@[go_sem] noncomputable def bj:List SV->Option Con:=fun l=>(orC (bF l) (orC (cA l) (orC (cB l) (orC (cC l) (cD l)))))
theorem cF:FnOk Tryz.prog 156 bj:=(FnOk.or cn (FnOk.or dW (FnOk.or dX (FnOk.or dY dZ))))
def d5 (s_:List Clause)(q0:Int)(k2:PleasCourt):Bool:=(decide ((eL s_ q0 k2)>=0))
@[go_sem] def b9:List SV->Option Con:=(pR .clause fun s_=>(pFn 207 (pX .int fun q0=>(JA 165 (pX .pleasCourt fun k2=>(pE ((pE ((pE (.det True (.v (.bool (d5 s_ q0 k2))))))))))))))
theorem Le {p:Prop}(h:p:=by simp only[go_sem,Nat.reduceBEq,Nat.reduceLeDiff,Nat.reduceLT,decide_true,Nat.reduceAdd,Nat.reduceSub,Nat.reduceMul,Int.reduceLE,Int.reduceLT,Int.reduceToNat,Int.reduceNeg,reduceCtorEq,bj];all_goals exact cl):p:=h
theorem dB:FnOk Tryz.prog 116 b9:=by
 have hG:ConsOk Tryz.prog (mkG [(156,fun l=>bj (bp [.sl .clause,.o] l))] []):=ar (cgc (cF.norm [.sl .clause,.o]) cg0) cg0;refine ay [.o] mixed ak hG (fn:=Tryz.f116) (c:=ae Tryz.f116) kr kr kr kr (bC fun s_=>(bJ (aQ fun q0=>(C3 (aQ fun k2=>(ai ((ai ((ai (fun hp=>?_)))))))))));dsimp only[ax]at hp;refine⟨nbl rfl,L0,ag _,?_⟩
 ·unfold ae Tryz.f116;try unfold d5
  exact Le
def d6 (s_:List Clause)(q0:Int)(k2:PleasCourt)(w_:Clause):Bool:=(decide ((eM s_ q0 k2 w_)>=0))
@[go_sem] def b_:List SV->Option Con:=(pR .clause fun s_=>(pFn 207 (pX .int fun q0=>(pXF 168 (pXX .pleasCourt fun k2=>(pX .clause fun w_=>(pE ((pE ((pE (.det True (.v (.bool (d6 s_ q0 k2 w_)))))))))))))))
theorem dC:FnOk Tryz.prog 116 b_:=by
 have hG:ConsOk Tryz.prog (mkG [(156,fun l=>bj (bp [.sl .clause,.o] l))] []):=ar (cgc (cF.norm [.sl .clause,.o]) cg0) cg0;refine ay [.o] mixed ak hG (fn:=Tryz.f116) (c:=ae Tryz.f116) kr kr kr kr (bC fun s_=>(bJ (aQ fun q0=>(lf (bK fun k2=>(aQ fun w_=>(ai ((ai ((ai (fun hp=>?_))))))))))));dsimp only[ax]at hp;refine⟨nbl rfl,L0,ag _,?_⟩
 ·unfold ae Tryz.f116;try unfold d6
  exact Le
def d7 (s_:List Clause)(q0:Int)(k2:PleasCourt):Bool:=(decide ((eN s_ q0 k2)>=0))
@[go_sem] def ca:List SV->Option Con:=(pR .clause fun s_=>(pFn 207 (pX .int fun q0=>(pXF 172 (pXX .pleasCourt fun k2=>(pE ((pE ((pE (.det True (.v (.bool (d7 s_ q0 k2))))))))))))))
theorem dD:FnOk Tryz.prog 116 ca:=by
 have hG:ConsOk Tryz.prog (mkG [(156,fun l=>bj (bp [.sl .clause,.o] l))] []):=ar (cgc (cF.norm [.sl .clause,.o]) cg0) cg0;refine ay [.o] mixed ak hG (fn:=Tryz.f116) (c:=ae Tryz.f116) kr kr kr kr (bC fun s_=>(bJ (aQ fun q0=>(lf (bK fun k2=>(ai ((ai ((ai (fun hp=>?_)))))))))));dsimp only[ax]at hp;refine⟨nbl rfl,L0,ag _,?_⟩
 ·unfold ae Tryz.f116;try unfold d7
  exact Le
def d8 (s_:List Clause)(q0:Int)(k2:PleasCourt)(w_:Clause):Bool:=(decide ((eO s_ q0 k2 w_)>=0))
@[go_sem] def cd:List SV->Option Con:=(pR .clause fun s_=>(pFn 207 (pX .int fun q0=>(pXF 175 (pXX .pleasCourt fun k2=>(pX .clause fun w_=>(pE ((pE ((pE (.det True (.v (.bool (d8 s_ q0 k2 w_)))))))))))))))
theorem dE:FnOk Tryz.prog 116 cd:=by
 have hG:ConsOk Tryz.prog (mkG [(156,fun l=>bj (bp [.sl .clause,.o] l))] []):=ar (cgc (cF.norm [.sl .clause,.o]) cg0) cg0;refine ay [.o] mixed ak hG (fn:=Tryz.f116) (c:=ae Tryz.f116) kr kr kr kr (bC fun s_=>(bJ (aQ fun q0=>(lf (bK fun k2=>(aQ fun w_=>(ai ((ai ((ai (fun hp=>?_))))))))))));dsimp only[ax]at hp;refine⟨nbl rfl,L0,ag _,?_⟩
 ·unfold ae Tryz.f116;try unfold d8
  exact Le
@[go_sem] noncomputable def a8:List SV->Option Con:=fun l=>(orC (b9 l) (orC (b_ l) (orC (ca l) (cd l))))
theorem ce:FnOk Tryz.prog 116 a8:=(FnOk.or dB (FnOk.or dC (FnOk.or dD dE)))
def oY (k_:PleasCourt)(q:Int)(k2:PleasCourt):Bool:=(d5 k_.plea.clauses q k2)
@[go_sem] def ni:List SV->Option Con:=(pX .pleasCourt fun k_=>(pI fun q=>(pFB 165 (pX .pleasCourt fun k2=>(pE ((pE (.det True (.v (.bool (oY k_ q k2)))))))))))
theorem Lf {p:Prop}(h:p:=by simp only[go_sem,Nat.reduceBEq,Nat.reduceLeDiff,Nat.reduceLT,decide_true,Nat.reduceAdd,Nat.reduceSub,Nat.reduceMul,Int.reduceLE,Int.reduceLT,Int.reduceToNat,Int.reduceNeg,reduceCtorEq,a8];all_goals exact cl):p:=h
theorem qj:FnOk Tryz.prog 164 ni:=by
 have hG:ConsOk Tryz.prog (mkG [(116,fun l=>a8 (bp [.sl .clause,.o] l))] []):=ar (cgc (ce.norm [.sl .clause,.o]) cg0) cg0;refine ay [.o] mixed ak hG (fn:=Tryz.f164) (c:=ae Tryz.f164) kr kr kr kr (aQ fun k_=>(cI fun q=>(KZ (aQ fun k2=>(ai ((ai (fun hp=>?_))))))));dsimp only[ax]at hp;refine⟨nbl rfl,L0,ag _,?_⟩
 ·unfold ae Tryz.f164;try unfold oY
  exact Lf
def oZ (k_:PleasCourt)(q:Int)(k2:PleasCourt)(w_:Clause):Bool:=(d6 k_.plea.clauses q k2 w_)
@[go_sem] def nj:List SV->Option Con:=(pX .pleasCourt fun k_=>(pI fun q=>(pFn 168 (pXX .pleasCourt fun k2=>(pX .clause fun w_=>(pE ((pE (.det True (.v (.bool (oZ k_ q k2 w_))))))))))))
theorem qk:FnOk Tryz.prog 164 nj:=by
 have hG:ConsOk Tryz.prog (mkG [(116,fun l=>a8 (bp [.sl .clause,.o] l))] []):=ar (cgc (ce.norm [.sl .clause,.o]) cg0) cg0;refine ay [.o] mixed ak hG (fn:=Tryz.f164) (c:=ae Tryz.f164) kr kr kr kr (aQ fun k_=>(cI fun q=>(bJ (bK fun k2=>(aQ fun w_=>(ai ((ai (fun hp=>?_)))))))));dsimp only[ax]at hp;refine⟨nbl rfl,L0,ag _,?_⟩
 ·unfold ae Tryz.f164;try unfold oZ
  exact Lf
def o4 (k_:PleasCourt)(q:Int)(k2:PleasCourt):Bool:=(d7 k_.plea.clauses q k2)
@[go_sem] def nk:List SV->Option Con:=(pX .pleasCourt fun k_=>(pI fun q=>(pFn 172 (pXX .pleasCourt fun k2=>(pE ((pE (.det True (.v (.bool (o4 k_ q k2)))))))))))
theorem ql:FnOk Tryz.prog 164 nk:=by
 have hG:ConsOk Tryz.prog (mkG [(116,fun l=>a8 (bp [.sl .clause,.o] l))] []):=ar (cgc (ce.norm [.sl .clause,.o]) cg0) cg0;refine ay [.o] mixed ak hG (fn:=Tryz.f164) (c:=ae Tryz.f164) kr kr kr kr (aQ fun k_=>(cI fun q=>(bJ (bK fun k2=>(ai ((ai (fun hp=>?_))))))));dsimp only[ax]at hp;refine⟨nbl rfl,L0,ag _,?_⟩
 ·unfold ae Tryz.f164;try unfold o4
  exact Lf
def o5 (k_:PleasCourt)(q:Int)(k2:PleasCourt)(w_:Clause):Bool:=(d8 k_.plea.clauses q k2 w_)
@[go_sem] def nq:List SV->Option Con:=(pX .pleasCourt fun k_=>(pI fun q=>(pFn 175 (pXX .pleasCourt fun k2=>(pX .clause fun w_=>(pE ((pE (.det True (.v (.bool (o5 k_ q k2 w_))))))))))))
theorem qm:FnOk Tryz.prog 164 nq:=by
 have hG:ConsOk Tryz.prog (mkG [(116,fun l=>a8 (bp [.sl .clause,.o] l))] []):=ar (cgc (ce.norm [.sl .clause,.o]) cg0) cg0;refine ay [.o] mixed ak hG (fn:=Tryz.f164) (c:=ae Tryz.f164) kr kr kr kr (aQ fun k_=>(cI fun q=>(bJ (bK fun k2=>(aQ fun w_=>(ai ((ai (fun hp=>?_)))))))));dsimp only[ax]at hp;refine⟨nbl rfl,L0,ag _,?_⟩
 ·unfold ae Tryz.f164;try unfold o5
  exact Lf
@[go_sem] noncomputable def j_:List SV->Option Con:=fun l=>(orC (ni l) (orC (nj l) (orC (nk l) (nq l))))
theorem rC:FnOk Tryz.prog 164 j_:=(FnOk.or qj (FnOk.or qk (FnOk.or ql qm)))
end Go.Sx
end
