/- Part of the proof that the law JudgementRight returns true and leaves its arguments as they were, for all arguments of bulk at most 1048576 (the Upto form). -/
import Derived.Test.YtnanafpgfihjfaaGreatJ210
import Derived.Test.YtnanafpgfihjfaaGreatJ209
import Derived.Test.YtnanafpgfihjfaaGreatJ208
set_option linter.all false
set_option maxHeartbeats 4000000
set_option maxRecDepth 100000
section
namespace Go.Sx
open Go.Proofs
open IntKind (i64 u64)
theorem Gd {l0 l1:List Nat}(a0:JL l0)(a1:JL l1){p:Prop}(h:JL l0→JL l1→p:=by intro ja jb;simp only[go_sem,Nat.reduceBEq,Nat.reduceLeDiff,Nat.reduceLT,decide_true,Nat.reduceAdd,Nat.reduceSub,Nat.reduceMul,Int.reduceLE,Int.reduceLT,Int.reduceToNat,Int.reduceNeg,reduceCtorEq];all_goals exact rU ja jb):p:=h a0 a1
@[go_sem] def qv:List SV→Option Con:=pR .claim fun l=>pE (.det (l.length*40≤dq) (.nw .claim l))
theorem u9:FnOk Tryz.prog 45 qv:=by
 have hG:ConsOk Tryz.prog (mkG [] []):=av cg0 cg0;refine Ef [(.tmp 2,.claim)] mixed ap hG (fn:=Tryz.f45) (c:=ae Tryz.f45) kr kr kr kr (bY fun l=>ak fun hp=>?_);dsimp only[ax]at hp;refine⟨nbl rfl,L0,ah _,?_⟩;unfold ae Tryz.f45;simp only[go_sem,Nat.reduceBEq,Nat.reduceLeDiff,Nat.reduceAdd,Nat.reduceSub,Nat.reduceMul,Int.reduceLE,Int.reduceLT,Int.reduceToNat,Int.reduceNeg,reduceCtorEq];intro b hb;refine⟨fun h=>?_,fun _=>⟨hp,fun _=>rfl⟩⟩;have hl:=hb h;subst hl;rfl
def m_ (y:Claim)(r_:List Claim):Bool:=(y.hour !=(r_.getD 0 (default:Claim)).hour)
def kV (y:Claim)(r_:List Claim):Prop:=(0≤0∧0< (r_.length:Int))
@[go_sem] noncomputable def ph:List SV→Option Con:=(pD .claim fun y=>(pXR .claim fun r_=>(pE (.det (kV y r_) (.v (.bool (m_ y r_)))))))
theorem uM:FnOk Tryz.prog 44 ph:=by
 have hG:ConsOk Tryz.prog (mkG [] []):=av cg0 cg0;refine ay [.o] mixed ap hG (fn:=Tryz.f44) (c:=ae Tryz.f44) kr kr kr kr (bF fun y=>(Ag fun r_=>(ak (fun hp=>?_))));dsimp only[ax]at hp;unfold kV at hp;refine⟨nbl rfl,L0,ah _,?_⟩
 ·unfold ae Tryz.f44;try unfold m_
  exact zq1
def bL (y:Claim):Bool:=(decide (y.litres > 1073741824))
@[go_sem] def pi:List SV→Option Con:=(pD .claim fun y=>(pE (.det True (.v (.bool (bL y))))))
theorem uN:FnOk Tryz.prog 49 pi:=by
 have hG:ConsOk Tryz.prog (mkG [] []):=av cg0 cg0;refine ay [.o] mixed ap hG (fn:=Tryz.f49) (c:=ae Tryz.f49) kr kr kr kr (bF fun y=>(ak (fun hp=>?_)));dsimp only[ax]at hp;refine⟨nbl rfl,L0,ah _,?_⟩
 ·unfold ae Tryz.f49;try unfold bL
  exact zq1
@[go_sem] def cA (s_:List Claim)(r_:List Claim)(k_0:Nat)(s_0:Unit):Int⊕Unit:=(bif(m_ (s_.getD k_0 (default:Claim)) r_)then .inl (k_0:Int)else .inr ())
def dC (s_:List Claim)(r_:List Claim)(k_0:Nat)(s_0:Unit):Prop:=(kV (s_.getD k_0 (default:Claim)) r_)
def ag (s_:List Claim)(r_:List Claim):Int:=(match aw (cA s_ r_) s_.length 0 ()with| .inl x_0_0=>x_0_0| .inr s_0=>(-1))
def cG (s_:List Claim)(r_:List Claim):Prop:=(s_.length≤aQ→okI (cA s_ r_) (dC s_ r_) s_.length 0 ())
@[go_sem] noncomputable def gA:List SV→Option Con:=(pR .claim fun s_=>(pFn 44 (pXR .claim fun r_=>(pE ((pE (.det (cG s_ r_) (.v (.int .i64 (ag s_ r_))))))))))
theorem kH:FnOk Tryz.prog 43 gA:=by
 have hG:ConsOk Tryz.prog (mkG [(44,ph)] []):=av (cgc uM cg0) cg0;refine ay [.o] mixed ap hG (fn:=Tryz.f43) (c:=ae Tryz.f43) kr kr kr kr (bY fun s_=>(bB (Ag fun r_=>(ak ((ak (fun hp=>?_)))))));dsimp only[ax]at hp;unfold cG at hp;refine⟨nbl rfl,(fun id st=>bif Nat.beq id 0 then some (LCR (ρ:=Int) (σ:=Unit) 0 [] [] (fun k_0 s_0=>⟨[(0,.rs .claim s_),(1,.fn 44 [] [.ep [.rs .claim r_] 0]),(7,.v (.int .i64 (s_.length:Int))),(8,.v (.int .i64 (k_0:Int)))],[]⟩) (cA s_ r_) (dC s_ r_) s_.length () (s_.length≤aQ) (fun _=>.ret) (fun x_0_0=>⟨[(4,.v (.int .i64 x_0_0))],[]⟩) st)else none),?_,?_⟩
 ·unfold ae Tryz.f43;simp only[aq,true_and,and_true]
  ·refine aY mixed ap hG kr (fun _=>rfl) (s_.length:Int) rfl im (fun hb0 k_0 s_0 hlt0 hq0 hw hc=>⟨L0,ah _,?_⟩) (fun hb0 s_0 hc=>?_)
   ·unfold dC at hq0;try simp only[hw,Int.toNat_natCast]at hq0
    exact bZ (jl [])
   ·exact bQ (jl [])
 ·unfold ae Tryz.f43;try unfold ag
  exact zq1
@[go_sem] def dZ (s_:List Claim)(k_0:Nat)(s_0:Unit):Int⊕Unit:=(bif(bL (s_.getD k_0 (default:Claim)))then .inl (k_0:Int)else .inr ())
def cW (s_:List Claim):Int:=(match aw (dZ s_) s_.length 0 ()with| .inl x_0_0=>x_0_0| .inr s_0=>(-1))
@[go_sem] def gB:List SV→Option Con:=(pR .claim fun s_=>(pFn 49 (pE ((pE (.det True (.v (.int .i64 (cW s_)))))))))
theorem kI:FnOk Tryz.prog 43 gB:=by
 have hG:ConsOk Tryz.prog (mkG [(49,pi)] []):=av (cgc uN cg0) cg0;refine ay [.o] mixed ap hG (fn:=Tryz.f43) (c:=ae Tryz.f43) kr kr kr kr (bY fun s_=>(bB (ak ((ak (fun hp=>?_))))));dsimp only[ax]at hp;refine⟨nbl rfl,(fun id st=>bif Nat.beq id 0 then some (LCR (ρ:=Int) (σ:=Unit) 0 [] [] (fun k_0 s_0=>⟨[(0,.rs .claim s_),(1,.fn 49 [] []),(7,.v (.int .i64 (s_.length:Int))),(8,.v (.int .i64 (k_0:Int)))],[]⟩) (dZ s_) pT s_.length () (s_.length≤aQ) (fun _=>.ret) (fun x_0_0=>⟨[(4,.v (.int .i64 x_0_0))],[]⟩) st)else none),?_,?_⟩
 ·unfold ae Tryz.f43;simp only[aq,true_and,and_true]
  ·refine aY mixed ap hG kr (fun _=>rfl) (s_.length:Int) rfl im (fun hb0 k_0 s_0 hlt0 _ hw hc=>⟨L0,ah _,?_⟩) (fun hb0 s_0 hc=>?_)
   ·exact bZ (jl [])
   ·exact bQ (jl [])
 ·unfold ae Tryz.f43;try unfold cW
  exact zq1
@[go_sem] noncomputable def aB:List SV→Option Con:=fun l=>(orC (gA l) (gB l))
theorem gC:FnOk Tryz.prog 43 aB:=(FnOk.or kH kI)
def bw (s_:List Claim):Bool:=(decide ((cW s_)≥0))
@[go_sem] def fM:List SV→Option Con:=(pR .claim fun s_=>(pFn 49 (pE ((pE (.det True (.v (.bool (bw s_)))))))))
theorem zq56 {p:Prop}(h:p:=by simp only[go_sem,Nat.reduceBEq,Nat.reduceLeDiff,Nat.reduceLT,decide_true,Nat.reduceAdd,Nat.reduceSub,Nat.reduceMul,Int.reduceLE,Int.reduceLT,Int.reduceToNat,Int.reduceNeg,reduceCtorEq,aB];all_goals exact cl):p:=h
theorem jF:FnOk Tryz.prog 48 fM:=by
 have hG:ConsOk Tryz.prog (mkG [(43,fun l=>aB (bA [.sl .claim,.o] l))] []):=av (cgc (gC.norm [.sl .claim,.o]) cg0) cg0;refine ay [.o] mixed ap hG (fn:=Tryz.f48) (c:=ae Tryz.f48) kr kr kr kr (bY fun s_=>(bB (ak ((ak (fun hp=>?_))))));dsimp only[ax]at hp;refine⟨nbl rfl,L0,ah _,?_⟩
 ·unfold ae Tryz.f48;try unfold bw
  exact zq56
@[go_sem] noncomputable def aM:List SV→Option Con:=fun l=>(fM l)
theorem jV:FnOk Tryz.prog 48 aM:=jF
@[go_sem] def aT (a2:List Judgement)(s_0:List Claim×List Claim)(z_1:Judgement)(s_1:List Claim):Empty⊕(List Claim):=(bif(z_1.kind==1)then .inr (cF (bi z_1 s_1))else(bif(z_1.kind==2)then .inr (cF (bi z_1 s_1))else(bif(z_1.kind==3)then .inr (cF (ca z_1 s_1))else(bif(z_1.kind==4)then .inr (cF s_1)else .inr default))))
def co (a2:List Judgement)(s_0:List Claim×List Claim)(z_1:Judgement)(s_1:List Claim):Prop:=(((z_1.kind==1)=true→((bO z_1 s_1)∧(b8 (bi z_1 s_1))))∧((z_1.kind==1)=false→(((z_1.kind==2)=true→((bO z_1 s_1)∧(b8 (bi z_1 s_1))))∧((z_1.kind==2)=false→(((z_1.kind==3)=true→((cJ z_1 s_1)∧(b8 (ca z_1 s_1))))∧((z_1.kind==3)=false→(((z_1.kind==4)=true→(b8 s_1))∧((z_1.kind==4)=false→False))))))))
@[go_sem] def bS (a1:List Claim)(a2:List Judgement)(k_0:Nat)(s_0:List Claim×List Claim):(List Claim)⊕(List Claim×List Claim):=(bif(decide ((s_0.1.length:Int) > 0))then(match mZ (aT a2 s_0) (az a2 ((s_0.1.getD 0 (default:Claim)).hour)) ((s_0.1.take (Int.toNat (bif(decide ((ag s_0.1 s_0.1) <0))then(s_0.1.length:Int)else(ag s_0.1 s_0.1)))).drop 0)with| .inl x=>x.elim| .inr s_1=>.inr (((s_0.1.take (Int.toNat (s_0.1.length:Int))).drop (Int.toNat (bif(decide ((ag s_0.1 s_0.1) <0))then(s_0.1.length:Int)else(ag s_0.1 s_0.1)))),(s_0.2++s_1)))else .inl s_0.2)
def f_ (a1:List Claim)(a2:List Judgement)(k_0:Nat)(s_0:List Claim×List Claim):Prop:=(s_0.1.length≤aQ→((decide ((s_0.1.length:Int) > 0))=true→((cG s_0.1 s_0.1)∧((0≤0∧0≤(bif(decide ((ag s_0.1 s_0.1) <0))then(s_0.1.length:Int)else(ag s_0.1 s_0.1))∧(bif(decide ((ag s_0.1 s_0.1) <0))then(s_0.1.length:Int)else(ag s_0.1 s_0.1))≤(s_0.1.length:Int))∧((((s_0.1.take (Int.toNat (bif(decide ((ag s_0.1 s_0.1) <0))then(s_0.1.length:Int)else(ag s_0.1 s_0.1)))).drop 0).length*40≤dq)∧((0≤0∧0< (s_0.1.length:Int))∧((gz a2 ((s_0.1.getD 0 (default:Claim)).hour) ((az a2 ((s_0.1.getD 0 (default:Claim)).hour)).map tq))∧okL (aT a2 s_0) (co a2 s_0) (az a2 ((s_0.1.getD 0 (default:Claim)).hour)) ((s_0.1.take (Int.toNat (bif(decide ((ag s_0.1 s_0.1) <0))then(s_0.1.length:Int)else(ag s_0.1 s_0.1)))).drop 0)∧(∀ s_1,mZ (aT a2 s_0) (az a2 ((s_0.1.getD 0 (default:Claim)).hour)) ((s_0.1.take (Int.toNat (bif(decide ((ag s_0.1 s_0.1) <0))then(s_0.1.length:Int)else(ag s_0.1 s_0.1)))).drop 0)=.inr s_1→(((s_0.2++s_1).length*40≤dq)∧((s_0.2++s_1).length≤aQ→(0≤(bif(decide ((ag s_0.1 s_0.1) <0))then(s_0.1.length:Int)else(ag s_0.1 s_0.1))∧(bif(decide ((ag s_0.1 s_0.1) <0))then(s_0.1.length:Int)else(ag s_0.1 s_0.1))≤(s_0.1.length:Int)∧(s_0.1.length:Int)≤(s_0.1.length:Int))))))))))))
def aX (a0:District)(a1:List Claim)(a2:List Judgement):List Claim×Int:=(bif((aO a0 a2) !=0)then([],(aO a0 a2))else(bif((bf a0 a1) !=0)then([],(bf a0 a1))else(match aw (bS a1 a2) (a1.length+1) 0 (a1,[])with| .inl x_0_0=>(bif((decide ((x_0_0.length:Int) > 4096)) ||(bw x_0_0))then([],2)else(x_0_0,0)) | .inr s_0=>default)))
def du (a0:District)(a1:List Claim)(a2:List Judgement):Prop:=((gT a0 a2)∧(((aO a0 a2) !=0)=false→((lU a0 a1)∧(((bf a0 a1) !=0)=false→(okI (bS a1 a2) (f_ a1 a2) (a1.length+1) 0 (a1,[])∧(∀ z_,aw (bS a1 a2) (a1.length+1) 0 (a1,[])≠ .inr z_))))))
@[go_sem] def na:List SV→Option Con:=(pD .district fun a0=>(pR .claim fun a1=>(pR .judgement fun a2=>(pE (.det (du a0 a1 a2) (.tup [.nw .claim ((aX a0 a1 a2).1),.v (.int .i64 ((aX a0 a1 a2).2))]))))))
theorem zq57 {l0 l1 l2:List Nat}(a0:JL l0)(a1:JL l1)(a2:JL l2){p:Prop}(h:JL l0→JL l1→JL l2→p:=by intro ja jb jc;simp only[go_sem,Nat.reduceBEq,Nat.reduceLeDiff,Nat.reduceLT,decide_true,Nat.reduceAdd,Nat.reduceSub,Nat.reduceMul,Int.reduceLE,Int.reduceLT,Int.reduceToNat,Int.reduceNeg,reduceCtorEq,aB,aM,pO,aT,psT,tq,List.cons_append,List.nil_append,hk0];all_goals exact tY ja jb jc):p:=h a0 a1 a2
theorem zq58 {l0 l1 l2:List Nat}(a0:JL l0)(a1:JL l1)(a2:JL l2){p:Prop}(h:JL l0→JL l1→JL l2→p:=by intro ja jb jc;simp only[go_sem,Nat.reduceBEq,Nat.reduceLeDiff,Nat.reduceLT,decide_true,Nat.reduceAdd,Nat.reduceSub,Nat.reduceMul,Int.reduceLE,Int.reduceLT,Int.reduceToNat,Int.reduceNeg,reduceCtorEq,aB,aM,pO,aT,psT,tq,List.cons_append,List.nil_append,hk0,hk1];all_goals exact tY ja jb jc):p:=h a0 a1 a2
theorem zq59 {l0 l1 l2:List Nat}(a0:JL l0)(a1:JL l1)(a2:JL l2){p:Prop}(h:JL l0→JL l1→JL l2→p:=by intro ja jb jc;simp only[go_sem,Nat.reduceBEq,Nat.reduceLeDiff,Nat.reduceLT,decide_true,Nat.reduceAdd,Nat.reduceSub,Nat.reduceMul,Int.reduceLE,Int.reduceLT,Int.reduceToNat,Int.reduceNeg,reduceCtorEq,aB,aM,pO,aT,psT,tq,List.cons_append,List.nil_append,hk0,hk1,hk2];all_goals exact tY ja jb jc):p:=h a0 a1 a2
theorem Xw {l0 l1 l2:List Nat}(a0:JL l0)(a1:JL l1)(a2:JL l2){p:Prop}(h:JL l0→JL l1→JL l2→p:=by intro ja jb jc;simp only[go_sem,Nat.reduceBEq,Nat.reduceLeDiff,Nat.reduceLT,decide_true,Nat.reduceAdd,Nat.reduceSub,Nat.reduceMul,Int.reduceLE,Int.reduceLT,Int.reduceToNat,Int.reduceNeg,reduceCtorEq,aB,aM,pO,aT,psT,tq,List.cons_append,List.nil_append,hk0,hk1,hk2,hk3];all_goals exact tY ja jb jc):p:=h a0 a1 a2
theorem Xx {l0 l1 l2:List Nat}(a0:JL l0)(a1:JL l1)(a2:JL l2){p:Prop}(h:JL l0→JL l1→JL l2→p:=by intro ja jb jc;simp only[go_sem,Nat.reduceBEq,Nat.reduceLeDiff,Nat.reduceLT,decide_true,Nat.reduceAdd,Nat.reduceSub,Nat.reduceMul,Int.reduceLE,Int.reduceLT,Int.reduceToNat,Int.reduceNeg,reduceCtorEq,aB,aM,pO];all_goals exact tY ja jb jc):p:=h a0 a1 a2
theorem zq64 {p:Prop}(h:p:=by simp only[go_sem,Nat.reduceBEq,Nat.reduceLeDiff,Nat.reduceLT,decide_true,Nat.reduceAdd,Nat.reduceSub,Nat.reduceMul,Int.reduceLE,Int.reduceLT,Int.reduceToNat,Int.reduceNeg,reduceCtorEq,aB,aM,pO];all_goals exact cl):p:=h
theorem qw:FnOk Tryz.prog 12 na:=by
 have hG:ConsOk Tryz.prog (mkG [(16,fun l=>lB (bA [.st .district,.sl .judgement] l)),(32,fun l=>rS (bA [.st .district,.sl .claim] l)),(42,sW),(43,fun l=>aB (bA [.sl .claim,.o] l)),(45,fun l=>qv (bA [.sl .claim] l)),(46,fun l=>ri (bA [.sl .judgement,.o] l)),(48,fun l=>aM (bA [.sl .claim,.o] l))] [(47,pN),(88,i7),(89,jD),(90,jE)]):=av (cgc (n_.norm [.st .district,.sl .judgement]) (cgc (uW.norm [.st .district,.sl .claim]) (cgc xB (cgc (gC.norm [.sl .claim,.o]) (cgc (u9.norm [.sl .claim]) (cgc (wd.norm [.sl .judgement,.o]) (cgc (jV.norm [.sl .claim,.o]) cg0))))))) (cgc yk (cgc sw (cgc tn (cgc tp cg0))));refine Ef [(.tmp 6,.claim)] mixed ap hG (fn:=Tryz.f12) (c:=ae Tryz.f12) kr kr kr kr (bF fun a0=>(bY fun a1=>(bY fun a2=>(ak (fun hp=>?_)))));dsimp only[ax]at hp;unfold du at hp;refine⟨nbl rfl,(fun id st=>bif Nat.beq id 0 then some (LCV (ρ:=(List Claim)) (σ:=(List Claim×List Claim)) 4 [.slot 6 (.row .claim ([]))] [0,1,2,3,4] (fun k_0 s_0=>⟨[(2,.rs .judgement a2),(4,.ptr 1 0),(6,.os 4),(8,.ptr 3 0)],[.dead,.cells [.rs .claim s_0.1],.mp .int .fnc ft none,.cells [.os 2],.row .claim s_0.2]⟩) (bS a1 a2) (f_ a1 a2) (a1.length+1) (a1,[]) (fun _=>.normal) (fun x_0_0=>⟨[(6,.os 4)],[.dead,.dead,.dead,.dead,.row .claim x_0_0]⟩) st)else none),?_,?_⟩
 ·unfold ae Tryz.f12;simp only[aq,true_and,and_true]
  ·refine tT mixed ap hG kr (fun _=>rfl) fun k_0 s_0 hq0=>⟨(fun id st=>bif Nat.beq id 1000032 then some (JC (⟨[(2,.rs .judgement a2),(4,.ptr 1 0),(6,.os 4),(8,.ptr 3 0),(9,.v (.int .i64 (bif(decide ((ag s_0.1 s_0.1) <0))then(s_0.1.length:Int)else(ag s_0.1 s_0.1))))],[.dead,.cells [.rs .claim s_0.1],.mp .int .fnc ft none,.cells [.os 2],.row .claim s_0.2]⟩))else bif Nat.beq id 2 then some (LC (ρ:=Empty) (σ:=List Claim) (lk 2 st.t=.rs .judgement a2∧lk 4 st.t=.ptr 1 0∧lk 6 st.t=.os 4∧lk 8 st.t=.ptr 3 0∧lk 9 st.t=.v (.int .i64 (bif(decide ((ag s_0.1 s_0.1) <0))then(s_0.1.length:Int)else(ag s_0.1 s_0.1)))∧lk 10 st.t=.ptr 6 0∧lk 44 st.t=.fn 91 [] [.ep [.rs .judgement a2] 0,.ep [.v (.int .i64 ((s_0.1.getD 0 (default:Claim)).hour))] 0]∧st.h=[.dead,.cells [.rs .claim s_0.1],.mp .int .fnc ft none,.cells [.os 2],.row .claim s_0.2,.row .claim ((s_0.1.take (Int.toNat (bif(decide ((ag s_0.1 s_0.1) <0))then(s_0.1.length:Int)else(ag s_0.1 s_0.1)))).drop 0),.cells [.os 5]]∧gz a2 ((s_0.1.getD 0 (default:Claim)).hour) ((az a2 ((s_0.1.getD 0 (default:Claim)).hour)).map tq)∧okL (aT a2 s_0) (co a2 s_0) (az a2 ((s_0.1.getD 0 (default:Claim)).hour)) ((s_0.1.take (Int.toNat (bif(decide ((ag s_0.1 s_0.1) <0))then(s_0.1.length:Int)else(ag s_0.1 s_0.1)))).drop 0)) (mZ (aT a2 s_0) (az a2 ((s_0.1.getD 0 (default:Claim)).hour)) ((s_0.1.take (Int.toNat (bif(decide ((ag s_0.1 s_0.1) <0))then(s_0.1.length:Int)else(ag s_0.1 s_0.1)))).drop 0)) (fun x=>x.elim) (fun x=>x.elim) (fun s_1=>⟨[(2,.rs .judgement a2),(4,.ptr 1 0),(6,.os 4),(8,.ptr 3 0),(9,.v (.int .i64 (bif(decide ((ag s_0.1 s_0.1) <0))then(s_0.1.length:Int)else(ag s_0.1 s_0.1)))),(10,.ptr 6 0)],[.dead,.cells [.rs .claim s_0.1],.mp .int .fnc ft none,.cells [.os 2],.row .claim s_0.2,.dead,.cells [.os 7],.row .claim s_1]⟩))else none),?_,?_⟩
   ·simp only[aq,true_and,and_true]
    ·refine yY mixed ap hG (by decide) (by decide) kr kr fun st lc hC hp=>?_;simp only[go_sem,Nat.reduceBEq,Option.some.injEq]at hC;subst hC;obtain⟨t,h⟩:=st;dsimp only[LC]at hp;obtain⟨e1_0,e1_1,e1_2,e1_3,e1_4,e1_5,e1_6,rfl,hb1,hok1⟩:=hp;refine⟨91,[.ep [.rs .judgement a2] 0,.ep [.v (.int .i64 ((s_0.1.getD 0 (default:Claim)).hour))] 0],Judgement,_,_,(az a2 ((s_0.1.getD 0 (default:Claim)).hour)),tq,(aT a2 s_0),(co a2 s_0),_,((s_0.1.take (Int.toNat (bif(decide ((ag s_0.1 s_0.1) <0))then(s_0.1.length:Int)else(ag s_0.1 s_0.1)))).drop 0),_,_,_,[(2,.rs .judgement a2),(4,.ptr 1 0),(6,.os 4),(8,.ptr 3 0),(9,.v (.int .i64 (bif(decide ((ag s_0.1 s_0.1) <0))then(s_0.1.length:Int)else(ag s_0.1 s_0.1)))),(10,.ptr 6 0)],(fun s_1=>[.dead,.cells [.rs .claim s_0.1],.mp .int .fnc ft none,.cells [.os 2],.row .claim s_0.2,.dead,.cells [.os 7],.row .claim s_1]),(fun x=>x.elim),[0,1,2,3,4,5,6,5],?_,rfl,hok1,nbl rfl,?_,uL a2 ((s_0.1.getD 0 (default:Claim)).hour) _ hb1,fun z_1 s_1 hq1=>⟨rfl,L0,fun l=>?_,fun l=>?_,?_⟩,fun s_1=>?_,fun y=>?_⟩
     ·simp only[go_sem,e1_0,e1_1,e1_2,e1_3,e1_4,e1_5,e1_6]
     ·simp only[go_sem,Nat.reduceBEq,Nat.reduceLeDiff,Nat.reduceLT,decide_true,Nat.reduceAdd,Nat.reduceSub,Nat.reduceMul,Int.reduceLE,Int.reduceLT,Int.reduceToNat,Int.reduceNeg,reduceCtorEq,vO,nW,List.flatMap_cons,List.flatMap_nil,List.nil_append,List.append_nil,List.map_nil,e1_0,e1_1,e1_2,e1_3,e1_4,e1_5,e1_6];all_goals (first|done|decide|(repeat' (first|refine And.intro ?_ ?_|rfl|decide)))
     ·simp only[aq,and_self,true_and,and_true]
     ·simp only[aq,and_self,true_and,and_true]
     ·unfold co at hq1;rcases Bool.eq_false_or_eq_true (z_1.kind==1)with hk0|hk0
      ·exact zq57 (jl [0,1,2,3,4,5,6,9]) (jl [0,1,2,3,4,5,6,10]) (jl [0,1,2,3,4,5,6,7])
      rcases Bool.eq_false_or_eq_true (z_1.kind==2)with hk1|hk1
      ·exact zq58 (jl [0,1,2,3,4,5,6,9]) (jl [0,1,2,3,4,5,6,10]) (jl [0,1,2,3,4,5,6,7])
      rcases Bool.eq_false_or_eq_true (z_1.kind==3)with hk2|hk2
      ·exact zq59 (jl [0,1,2,3,4,5,6,9]) (jl [0,1,2,3,4,5,6,10]) (jl [0,1,2,3,4,5,6,7])
      rcases Bool.eq_false_or_eq_true (z_1.kind==4)with hk3|hk3
      ·exact Xw (jl [0,1,2,3,4,5,6,9]) (jl [0,1,2,3,4,5,6,10]) (jl [0,1,2,3,4,5,6,7])
      exact Xw (jl [0,1,2,3,4,5,6,9]) (jl [0,1,2,3,4,5,6,10]) (jl [0,1,2,3,4,5,6,7])
     ·exact Xx (jl [0,1,2,3,4,5,6,9]) (jl [0,1,2,3,4,5,6,10]) (jl [0,1,2,3,4,5,6,7])
     ·exact Xx (jl [0,1,2,3,4,5,6,9]) (jl [0,1,2,3,4,5,6,10]) (jl [0,1,2,3,4,5,6,7])
   ·unfold f_ at hq0;exact Gd (jl [0,1,2,3,8]) (jl [0,1,2,3,4])
 ·unfold ae Tryz.f12;try unfold aX
  exact zq64
theorem Ge (x:Int)(l:List Int):ia (x::l)=if x=0 then ia l else x:=by
 have key:∀ l:List Int,ia l=match mZ (ρ:=Int) (fun(x:Int) (_:Unit) =>bif(x !=0)then .inl x else .inr ()) l ()with| .inl y=>y| .inr _=>0:=fun l=>by
  unfold ia;have:=ya (ρ:=Int) (fun(x:Int) (_:Unit) =>bif(x !=0)then .inl x else .inr ()) 0 l ();rw[←this];rfl
 rw[key,key];simp only[mZ];by_cases h:x=0
 ·subst h;rfl
 ·have:(x !=0)=true:=by simpa using h
  rw[if_neg h,this];rfl
theorem H2:ia []=0:=rfl
theorem BN:∀ l:List (Int×Int),(ia (l.map fun p=>cy p.1 p.2) <0↔su l)
 | [] =>by simp[H2,su]
 |(a,b)::r=>by
  have hc:=v6 a b;simp only[List.map_cons,Ge,hc,su];rcases Int.lt_trichotomy a b with h|h|h
  ·simp[h]
  ·subst h;simp only[Int.lt_irrefl,if_false,if_true,true_and,false_or,gt_iff_lt];exact BN r
  ·have h1:¬a<b:=by omega
   have h2:a≠b:=by omega
   simp[h1,h2,h]
def wG (a b:Claim):Prop:=su [(a.hour,b.hour),(a.rank,b.rank),(a.right,b.right),(a.farm,b.farm)]
theorem yl (a b:Claim):ka a b<0↔wG a b:=BN [(a.hour,b.hour),(a.rank,b.rank),(a.right,b.right),(a.farm,b.farm)]
theorem xC (a b:Claim):aK a b=decide (ka a b<0):=by
 rw[Bool.eq_iff_iff,decide_eq_true_eq,yl];unfold aK;simp only[wG,su,and_false,or_false];by_cases h1:a.hour=b.hour
 ·rw[show(a.hour !=b.hour)=false by simpa using h1,cond_false];by_cases h2:a.rank=b.rank
  ·rw[show(a.rank !=b.rank)=false by simpa using h2,cond_false];by_cases h3:a.right=b.right
   ·rw[show(a.right !=b.right)=false by simpa using h3,cond_false,decide_eq_true_eq];omega
   ·rw[show(a.right !=b.right)=true by simpa using h3,cond_true,decide_eq_true_eq];omega
  ·rw[show(a.rank !=b.rank)=true by simpa using h2,cond_true,decide_eq_true_eq];omega
 ·rw[show(a.hour !=b.hour)=true by simpa using h1,cond_true,decide_eq_true_eq];omega
theorem t_ {α:Type}(l:List α)(d:α){k:Nat}(hk:k<l.length):l.getD k d∈l:=by rw[qe l d hk];exact List.getElem_mem hk
theorem H3 {a b c:Claim}(h1:wG a b)(h2:wG b c):wG a c:=by simp only[wG,su,and_false,or_false]at *;omega
structure FineC (d:District)(x:Claim):Prop where
 r0:0≤x.right
 r1:x.right< (d.rights.length:Int)
 f0:0≤x.farm
 f1:x.farm< (d.farms.length:Int)
 h0:0≤x.hour
 h1:x.hour<d.hours
 l0:1≤x.litres
 l1:x.litres≤1073741824
 kind:(d.rights.getD x.right.toNat default).kind=1
 rank:(d.rights.getD x.right.toNat default).rank=x.rank
def ym (d:District)(x:Claim):Bool:=(((((((decide (x.right≥0))&&(decide (x.right< (d.rights.length:Int))))&&(decide (x.farm≥0)))&&(decide (x.farm< (d.farms.length:Int))))&&(decide (x.hour≥0)))&&(decide (x.hour<d.hours)))&&(decide (x.litres≥1)))&&(decide (x.litres≤1073741824))
theorem wA (d:District)(x:Claim):ym d x=true↔(0≤x.right∧x.right< (d.rights.length:Int))∧(0≤x.farm∧x.farm< (d.farms.length:Int))∧(0≤x.hour∧x.hour<d.hours)∧(1≤x.litres∧x.litres≤1073741824):=by
 unfold ym;simp only[Bool.and_eq_true,decide_eq_true_eq];omega
theorem De (d:District)(x:Claim):FineC d x↔ym d x=true∧(d.rights.getD x.right.toNat default).kind=1∧(d.rights.getD x.right.toNat default).rank=x.rank:=by
 rw[wA];exact⟨fun h=>⟨⟨⟨h.r0,h.r1⟩,⟨h.f0,h.f1⟩,⟨h.h0,h.h1⟩,h.l0,h.l1⟩,h.kind,h.rank⟩,fun h=>⟨h.1.1.1,h.1.1.2,h.1.2.1.1,h.1.2.1.2,h.1.2.2.1.1,h.1.2.2.1.2,h.1.2.2.2.1,h.1.2.2.2.2,h.2.1,h.2.2⟩⟩
theorem not8 (d:District)(x:Claim):((((((((decide (x.right<0)) ||(decide (x.right≥(d.rights.length:Int)))) ||(decide (x.farm<0))) ||(decide (x.farm≥(d.farms.length:Int)))) ||(decide (x.hour<0))) ||(decide (x.hour≥d.hours))) ||(decide (x.litres<1))) ||(decide (x.litres > 1073741824)))= !ym d x:=by
 rw[Bool.eq_iff_iff,Bool.not_eq_true',←Bool.not_eq_true,wA];simp only[Bool.or_eq_true,decide_eq_true_eq];omega
theorem Ep (d:District)(x:Claim):tg d x∧(lW d x=true↔FineC d x):=by
 unfold tg lW;rw[not8,De];cases h:ym d x with
 |false=>exact⟨(fun h=>by cases h),by simp⟩
 |true=>
  have:=(wA d x).1 h;exact⟨fun _=>⟨this.1,fun _=>this.1⟩,by simp⟩
theorem Nl (d:District)(c:List Claim)(k:Nat)(hk:k<4097):gk d c k ()=oU d c k ()∧(gk d c k ()=.inr ()↔FineC d (c.getD k default)∧(0<k→ka (c.getD (k - 1) default) (c.getD k default) <0)):=by
 have hw:0<k→Int.toNat (i64.wrap ((k:Int) - 1))=k - 1:=fun h=>by rw[f6 (by omega) (by omega)];omega
 have e:(((((!(ym d (c.getD k default))) ||((d.rights.getD (Int.toNat (c.getD k default).right) default).kind !=1)) ||((d.rights.getD (Int.toNat (c.getD k default).right) default).rank !=(c.getD k default).rank)) ||((decide ((k:Int) > 0))&&(decide ((ka (c.getD (Int.toNat (i64.wrap ((k:Int) - 1))) default) (c.getD k default))≥0)))))=(((!(lW d (c.getD k default))) ||((decide ((k:Int) > 0))&&(!(aK (c.getD (Int.toNat (i64.wrap ((k:Int) - 1))) default) (c.getD k default)))))):=by
  rw[xC];have h1:(((!(ym d (c.getD k default))) ||((d.rights.getD (Int.toNat (c.getD k default).right) default).kind !=1)) ||((d.rights.getD (Int.toNat (c.getD k default).right) default).rank !=(c.getD k default).rank))= !(lW d (c.getD k default)):=by
   rw[Bool.eq_iff_iff,Bool.not_eq_true',←Bool.not_eq_true,(Ep _ _).2,De];simp only[Bool.or_eq_true,Bool.not_eq_true',bne_iff_ne,ne_eq];cases ym d (c.getD k default) <;>simp;constructor
   ·rintro (h|h) h2 h3
    ·exact h h2
    ·exact h h3
   ·intro h;by_cases h2:(d.rights.getD (Int.toNat (c.getD k default).right) default).kind=1
    ·exact .inr (h h2)
    ·exact .inl h2
  rw[h1];congr 2
  rw[←decide_not];exact decide_eq_decide.2 (by omega)
 refine⟨?_,?_⟩
 ·show(bif _ then Sum.inl ()else Sum.inr ())=(bif _ then Sum.inl ()else Sum.inr ());exact congrArg (fun b=>(bif b then Sum.inl ()else Sum.inr ():Unit⊕Unit)) e
 ·show(bif _ then Sum.inl ()else Sum.inr ())=_↔_;rw[uy];refine Iff.trans (b:=(((!(lW d (c.getD k default))) ||((decide ((k:Int) > 0))&&(!(aK (c.getD (Int.toNat (i64.wrap ((k:Int) - 1))) default) (c.getD k default))))))=false) (by rw[←e];rfl) ?_;rw[xC];rw[Bool.or_eq_false_iff,Bool.not_eq_false',(Ep _ _).2];by_cases hk0:0<k
  ·rw[hw hk0,decide_eq_true (show(k:Int) > 0 by omega)];simp[hk0]
  ·rw[decide_eq_false (show ¬ (k:Int) > 0 by omega)];simp[hk0]
theorem Gf (d:District)(c:List Claim):lU d c:=fun _ _ h _=>mL _ _ _ fun j _ _ hj=>by
 have hle:c.length≤4096:=by have:=of_decide_eq_false h;omega
 have h8:=wA d (c.getD j default);unfold ym at h8;unfold lv;refine⟨fun h=>?_,fun h=>?_,fun h h0=>?_⟩
 ·rw[Bool.not_eq_false']at h;exact(h8.1 h).1
 ·rw[Bool.or_eq_false_iff,Bool.not_eq_false']at h;exact(h8.1 h.1).1
 ·have h0:=of_decide_eq_true h0;rw[f6 (by omega) (by omega)];omega
theorem KH (d:District)(c:List Claim):wX d c:=⟨C_ d,fun _ _ h=>mL _ _ _ fun j _ _ hj=>fun _=>⟨(Ep _ _).1,fun _ h0=>by
 have h0:=of_decide_eq_true h0;have hle:c.length≤4096:=by have:=of_decide_eq_false h;omega
 rw[f6 (by omega) (by omega)];omega⟩⟩
theorem Df {ρ σ:Type}{f g:Nat→σ→ρ⊕σ}:∀ (n i:Nat) (s:σ),(∀ j s,i≤j→j<i+n→f j s=g j s)→aw f n i s=aw g n i s
 |0,_,_,_=>rfl
 |n+1,i,s,h=>by
  rw[aw,aw,h i s (Nat.le_refl _) (by omega)];cases g i s with
  |inl x=>rfl
  |inr s'=>exact Df n (i+1) s' fun j s h1 h2=>h j s (by omega) (by omega)
theorem Dg (d:District)(c:List Claim):bf d c=qt d c:=by
 unfold bf qt;rw[←tX];cases bN d !=0 with
 |true=>rfl
 |false=>
  simp only[cond_false];by_cases hl:(c.length:Int) > 4096
  ·rw[decide_eq_true hl];rfl
  ·rw[decide_eq_false hl];simp only[cond_false];rw[Df (f:=gk d c) (g:=oU d c) c.length 0 () fun j s _ hj=>(Nl d c j (by omega)).1];try rfl
theorem H4 {d:District}{c:List Claim}(he:bN d=0)(hl:c.length≤4096)(h1:∀ x∈c,FineC d x)(h2:c.Pairwise wG):bf d c=0:=by
 unfold bf;rw[he,decide_eq_false (show ¬ (c.length:Int) > 4096 by omega)];simp only[bne_self_eq_false,cond_false];have:aw (gk d c) c.length 0 ()=.inr ():=jC.2 fun j hj=>((Nl d c j (by omega)).2).2 ⟨h1 _ (t_ _ default hj),fun h0=>by
  rw[List.pairwise_iff_getElem]at h2;rw[yl,qe c default (show j - 1<c.length by omega),qe c default hj];exact h2 (j - 1) j (by omega) hj (by omega)⟩
 rw[this]
theorem xD {d:District}{c:List Claim}(h:bf d c=0):bN d=0∧c.length≤4096∧(∀ x∈c,FineC d x)∧c.Pairwise wG:=by
 unfold bf at h;cases he:(bN d !=0)with
 |true=>rw[he]at h;simp only[cond_true]at h;rw[h]at he;cases he
 |false=>
  rw[he]at h;simp only[cond_false]at h;by_cases hl:c.length≤4096
  ·rw[decide_eq_false (show ¬ (c.length:Int) > 4096 by omega)]at h;simp only[cond_false]at h;cases hr:aw (gk d c) c.length 0 ()with
   |inl y=>rw[hr]at h;cases h
   |inr s=>
    have h1:∀ k,k<c.length→FineC d (c.getD k default)∧(0<k→wG (c.getD (k - 1) default) (c.getD k default)):=fun k hk=>by
     have h2:=(Nl d c k (by omega)).2.1 (ov hr k (by omega) (by omega));exact⟨h2.1,fun h0=>(yl _ _).1 (h2.2 h0)⟩
    have hlt:∀ k i,i<k→k<c.length→wG (c.getD i default) (c.getD k default):=fun k=>by
     induction k with
     |zero=>intro i hi;omega
     |succ k ih=>
      intro i hi hk;have h2:=(h1 (k+1) hk).2 (by omega);rw[Nat.add_sub_cancel]at h2;by_cases hik:i=k
      ·subst hik;exact h2
      ·exact H3 (ih i (by omega) (by omega)) h2
    refine⟨by simpa using he,hl,fun x hx=>?_,?_⟩
    ·obtain⟨k,hk,rfl⟩:=List.getElem_of_mem hx;have:=(h1 k hk).1
     rwa[qe _ _ hk]at this
    ·rw[List.pairwise_iff_getElem];intro i j hi hj hij;have:=hlt j i hij hj
     rwa[qe _ _ hi,qe _ _ hj]at this
  ·rw[decide_eq_true (show(c.length:Int) > 4096 by omega)]at h;cases h
theorem Xy {ρ σ:Type}{step:Nat→σ→ρ⊕σ}{p:Nat→σ→Prop}(m:σ→Nat)(J:σ→Prop)(Q:ρ→Prop)(h:∀ k s,J s→p k s∧((∃ r,step k s=.inl r∧Q r)∨∃ s',step k s=.inr s'∧m s'<m s∧J s')):∀ (n i:Nat) (s:σ),J s→m s<n→okI step p n i s∧∃ r,aw step n i s=.inl r∧Q r
 |0,_,_,_,hm=>absurd hm (Nat.not_lt_zero _)
 |n+1,i,s,hJ,hm=>by
  obtain⟨h1,h2⟩:=h i s hJ;rcases h2 with⟨r,e,hq⟩ | ⟨s',e,hlt,hJ'⟩
  ·refine⟨⟨h1,fun s'' e'=>?_⟩,r,?_,hq⟩
   ·rw[e]at e';cases e'
   ·simp only[aw,e]
  ·obtain⟨q1,q2⟩:=Xy m J Q h n (i+1) s' hJ' (by omega);refine⟨⟨h1,fun s'' e'=>?_⟩,?_⟩
   ·rw[e]at e';cases e';exact q1
   ·simp only[aw,e];exact q2
theorem Xz {ρ σ:Type}{x:ρ⊕σ}{Q:ρ→Prop}(h:∃ r,x=.inl r∧Q r):∀ z,x≠ .inr z:=fun z e=>by
 obtain⟨r,e1,_⟩:=h;rw[e1]at e;cases e
theorem gV {α:Type}(A:List α)(x d:α)(T:List α){i:Nat}(h:i=A.length):(A++x::T).getD i d=x:=by
 subst h;simp[List.getD_eq_getElem?_getD]
theorem Nm {α:Type}(A:List α)(x y:α)(T:List α){i:Nat}(h:i=A.length):(A++x::T).set i y=A++y::T:=by
 subst h;simp
theorem Nn (K G:List Claim):((AD .claim (K++G) (K.length:Int) ((K++G).length:Int)).take K.length)=K:=by
 unfold AD;simp only[Int.toNat_natCast];split
 ·rename_i h;rw[List.length_append]at h;have:G=[]:=List.eq_nil_of_length_eq_zero (by omega);subst this;simp
 ·simp
theorem yn {α:Type}{step:Nat→Unit→Int⊕Unit}(l:List α)(d:α)(P:α→Bool)(h:∀ k,k<l.length→step k ()=bif P (l.getD k d)then .inl (k:Int)else .inr ()):(aw step l.length 0 ()=.inr ()∧∀ x∈l,P x=false)∨∃ K x R,l=K++x::R∧aw step l.length 0 ()=.inl (K.length:Int)∧P x=true∧∀ y∈K,P y=false:=by
 have key:∀ (R K:List α),l=K++R→(∀ y∈K,P y=false)→(aw step R.length K.length ()=.inr ()∧∀ x∈l,P x=false)∨∃ K' x R',l=K'++x::R'∧aw step R.length K.length ()=.inl (K'.length:Int)∧P x=true∧∀ y∈K',P y=false:=fun R=>by
  induction R with
  |nil=>exact fun K h hK=>.inl ⟨rfl,fun x hx=>hK x (by rw[h]at hx;simpa using hx)⟩
  |cons x R ih=>
   intro K hl hK;have e:=h K.length (by rw[hl];simp);have g:l.getD K.length d=x:=by rw[hl];simp[List.getD_eq_getElem?_getD]
   rw[g]at e;simp only[List.length_cons,aw,e];cases hx:P x with
   |true=>exact .inr ⟨K,x,R,hl,rfl,hx,hK⟩
   |false=>
    simp only[cond_false];have:=ih (K++[x]) (by rw[hl];simp) (fun y hy=>by
     rcases List.mem_append.1 hy with hy|hy
     ·exact hK y hy
     ·simp at hy;subst hy;exact hx)
    rw[List.length_append]at this;exact this
 exact key l [] rfl (by simp)
theorem KI (l:List Claim)(hl:l.length<2 ^ 47):aN l∧aH l=l.filter fun x=>!an x:=by
 have hI:(aj l= -1∧∀ x∈l,an x=false)∨∃ K x R,l=K++x::R∧aj l=(K.length:Int)∧an x=true∧∀ y∈K,an y=false:=by
  unfold aj;rcases yn (step:=cO l) l default (fun x=>an x) (fun k _=>rfl)with⟨e,h⟩ | ⟨K,x,R,h1,e,h2,h3⟩
  ·rw[e];exact .inl ⟨rfl,h⟩
  ·rw[e];exact .inr ⟨K,x,R,h1,rfl,h2,h3⟩
 unfold aN aH;rcases hI with⟨e,h⟩ | ⟨K,x,R,hl0,e,h2,h3⟩
 ·rw[e];refine⟨(fun h=>by cases h),?_⟩;simp only[BEq.rfl,cond_true];exact(List.filter_eq_self.2 fun x hx=>by rw[h x hx];rfl).symm
 ·have b:((K.length:Int) == -1)=false:=by simp only[beq_eq_false_iff_ne];omega
  have hlen:l.length=K.length+(R.length+1):=by rw[hl0];simp
  have w:i64.wrap ((K.length:Int)+1)=((K.length+1:Nat):Int):=by rw[f6 (by omega) (by omega)];omega
  rw[e,w];simp only[b,cond_false];obtain⟨k1,r,k2,K',G',rfl,k3⟩:okI (aC l) (aZ l) (l.length+1) 0 (l,(K.length:Int),((K.length+1:Nat):Int))∧∃ r,aw (aC l) (l.length+1) 0 (l,(K.length:Int),((K.length+1:Nat):Int))=.inl r∧∃ K' G',r=((K'.length:Int),K'++G')∧K'=l.filter fun x=>!an x:=by
   refine Xy (fun s:List Claim×Int×Int=>((l.length:Int) - s.2.2).toNat) (fun s:List Claim×Int×Int=>∃ K' g G' R',s=(K'++g::(G'++R'),(K'.length:Int),((K'.length+(G'.length+1):Nat):Int))∧K'.length+(G'.length+1)+R'.length=l.length∧(l.filter fun x=>!an x)=K'++R'.filter fun x=>!an x) _ ?_ _ _ _ ⟨K,x,[],R,by rw[hl0];simp,by rw[hlen];simp;omega,?_⟩ (by simp only;omega)
   ·rintro k s ⟨K',g,G',R',rfl,hn,hF⟩;have hL:(K'++g::(G'++R')).length=l.length:=by rw[←hn];simp;omega
    unfold aZ aC;simp only[hL];cases R' with
    |nil=>
     have e1:decide (((K'.length+(G'.length+1):Nat):Int) < (l.length:Int))=false:=by rw[decide_eq_false_iff_not];simp only[List.length_nil]at hn;omega
     simp only[e1,cond_false];exact⟨(fun _ h=>by cases h),.inl ⟨_,rfl,K',g::(G'++[]),rfl,by simpa using hF.symm⟩⟩
    |cons y R'=>
     simp only[List.length_cons]at hn;have e1:decide (((K'.length+(G'.length+1):Nat):Int) < (l.length:Int))=true:=by rw[decide_eq_true_eq];omega
     have gy:(K'++g::(G'++y::R')).getD (K'.length+(G'.length+1)) default=y:=by
      have:K'++g::(G'++y::R')=(K'++g::G')++y::R':=by simp
      rw[this];exact gV _ _ _ _ (by simp)
     have w1:i64.wrap (((K'.length+(G'.length+1):Nat):Int)+1)=((K'.length+(G'.length+1)+1:Nat):Int):=by rw[f6 (by omega) (by omega)];omega
     have w2:i64.wrap ((K'.length:Int)+1)=((K'.length+1:Nat):Int):=by rw[f6 (by omega) (by omega)];omega
     simp only[e1,cond_true,Int.toNat_natCast,gy,w1,w2];refine⟨fun _ _=>⟨by omega,fun _=>by omega⟩,.inr ?_⟩;cases hy:an y with
     |false=>
      obtain⟨g',G2,hG⟩:∃ g' G2,G'++[y]=g'::G2:=by
       cases G' with
       |nil=>exact⟨y,[],rfl⟩
       |cons a b=>exact⟨a,b++[y],rfl⟩
      have hGl:G'.length+1=G2.length+1:=by have:=congrArg List.length hG;simpa using this
      refine⟨_,rfl,by simp only;omega,K'++[y],g',G2,R',?_,?_,?_⟩
      ·rw[Nm K' g y _ rfl];have h1:g'::(G2++R')=G'++y::R':=by rw[←List.cons_append,←hG];simp
       rw[List.append_assoc,h1,Prod.mk.injEq,Prod.mk.injEq];refine⟨by simp,by simp,?_⟩;rw[List.length_append];simp only[List.length_cons,List.length_nil];omega
      ·rw[List.length_append];simp only[List.length_cons,List.length_nil];omega
      ·rw[hF,List.filter_cons_of_pos (by rw[hy];rfl)];simp
     |true=>
      refine⟨_,rfl,by simp only;omega,K',g,G'++[y],R',?_,by rw[List.length_append];simp only[List.length_cons,List.length_nil];omega,?_⟩
      ·have:(G'++[y])++R'=G'++y::R':=by simp
       rw[this,List.length_append,Prod.mk.injEq,Prod.mk.injEq];exact⟨rfl,rfl,by simp only[List.length_cons,List.length_nil];omega⟩
      ·rw[hF,List.filter_cons_of_neg (by rw[hy];simp)]
   ·rw[hl0,List.filter_append,List.filter_cons_of_neg (by rw[h2];simp)];congr 1
    exact List.filter_eq_self.2 fun y hy=>by rw[h3 y hy];rfl
  refine⟨fun _=>⟨k1,Xz (Q:=fun _=>True) ⟨_,k2,trivial⟩,fun z hz=>?_⟩,?_⟩
  ·rw[k2]at hz;cases hz;have:(AD .claim (K'++G') (K'.length:Int) ((K'++G').length:Int)).length=(K'++G').length:=by
    unfold AD;simp only[Int.toNat_natCast];split
    ·rfl
    ·simp <;>omega
   simp only[this];simp only[List.length_append];omega
  ·rw[k2];simp only[Int.toNat_natCast,List.drop_zero];rw[Nn,k3]
open Go.Shelf Go.Sort in
theorem H5 {α:Type}{cf:α→α→Int}(hO:SWO (ltOf cf)){s m:List α}(hp:s.Perm m)(hm:m.Pairwise fun x y=>cf x y<0):apart cf s∧srt cf s=m:=by
 have e1:∀ x y,ltOf cf x y=true↔cf x y<0:=fun x y=>by unfold ltOf;rw[decide_eq_true_eq]
 have hex:∀ x∈m,∀ y∈m,ltOf cf x y=false→ltOf cf y x=false→x=y:=fun x hx y hy h1 h2=>by
  obtain⟨i,hi,rfl⟩:=List.mem_iff_getElem.1 hx;obtain⟨j,hj,rfl⟩:=List.mem_iff_getElem.1 hy;rw[List.pairwise_iff_getElem]at hm;rcases Nat.lt_trichotomy i j with h|h|h
  ·rw[(e1 _ _).2 (hm i j hi hj h)]at h1;cases h1
  ·subst h;rfl
  ·rw[(e1 _ _).2 (hm j i hj hi h)]at h2;cases h2
 refine⟨fun x hx y hy h1 h2=>hex x (hp.subset hx) y (hp.subset hy) h1 h2,?_⟩;unfold srt;have hq:(s.mergeSort fun x y=>!(ltOf cf y x)).Perm m:=(List.mergeSort_perm _ _).trans hp;refine List.Perm.eq_of_pairwise (le:=fun x y=>(!ltOf cf y x)=true) ?_ ?_ ?_ hq
 ·intro x y hx hy h1 h2;simp only[Bool.not_eq_true']at h1 h2;exact hex x (hq.subset hx) y hy h2 h1
 ·refine List.pairwise_mergeSort ?_ ?_ s
  ·intro a b c h1 h2;simp only[Bool.not_eq_true']at h1 h2 ⊢;exact hO.3 c b a h2 h1
  ·intro a b;simp only[Bool.or_eq_true,Bool.not_eq_true'];cases h1:ltOf cf b a with
   |false=>exact .inl rfl
   |true=>
    right;cases h2:ltOf cf a b with
    |false=>rfl
    |true=>have:=hO.2 _ _ _ h1 h2;rw[hO.1]at this;cases this
 ·refine hm.imp fun {a b} hab=>?_;simp only[Bool.not_eq_true'];cases h2:ltOf cf b a with
  |false=>rfl
  |true=>have:=hO.2 _ _ _ ((e1 _ _).2 hab) h2;rw[hO.1]at this;cases this
theorem KJ {n:Nat}(h:n<2 ^ 47):0≤((Go.Lib.bitLen n:Nat):Int)∧((Go.Lib.bitLen n:Nat):Int) <4611686018427387904:=by
 have:Go.Lib.bitLen n≤47:=Go.Lib.bitLen_le n 47 (by omega) h;omega
theorem Er {l m:List Claim}(hl:l.length<2 ^ 46)(hp:(l.filter fun x=>!an x).Perm m)(hm:m.Pairwise tlt):b8 l∧cF l=m:=by
 obtain⟨h1,h2⟩:=KI l (by omega);obtain⟨h3,h4⟩:=H5 FU hp (hm.imp fun {a b} h=>(I9 a b).2 h);unfold b8 cF aV a7;rw[h2];refine⟨⟨h1,fun hL=>?_⟩,h4⟩;have hw:u64.wrap ((l.filter fun x=>!an x).length:Int)=((l.filter fun x=>!an x).length:Int):=MX (by omega) (by unfold aQ at hL;omega);rw[hw];have hb:=KJ (n:=(l.filter fun x=>!an x).length) (by have:=List.length_filter_le (fun x=>!an x) l;omega);refine⟨⟨by omega,by unfold aQ at hL;omega⟩,rfl,rfl,?_,?_,h3⟩
 ·rw[Int.toNat_natCast];exact hb.1
 ·rw[Int.toNat_natCast];exact hb.2
def lH (x:Claim)(n:Int):Claim:= { right:=x.right,farm:=x.farm,hour:=x.hour,litres:=n,rank:=x.rank}
def bE (a b:Int):Int:=if a<b then a else b
theorem oW {a b:Int}:bE a b≤a∧bE a b≤b∧(bE a b=a∨bE a b=b):=by unfold bE;split <;>omega
def nG (f:Int):Int→List Claim→List Claim
 |_,[] =>[]
 |n,x::r=>if x.farm=f then lH x (bE n x.litres)::nG f (n - bE n x.litres) r else x::nG f n r
abbrev Lit (l:List Claim):Prop:= ∀ y∈l,0≤y.litres∧y.litres<4611686018427387904
theorem za (x:Judgement)(l0:List Claim):∀ (R A:List Claim) (n:Int) (k:Nat),A.length=k→0≤n→n<4611686018427387904→Lit R→
  okI (cP x l0) (eC x l0) R.length k (A++R,n)∧∃ m,aw (cP x l0) R.length k (A++R,n)=.inr (A++nG x.farm n R,m)
 | [],A,n,k,hk,h0,h1,hR=>⟨trivial,n,by simp[aw,nG]⟩
 |y::R,A,n,k,hk,h0,h1,hR=>by
  have hy:=hR y (by simp);have hR':Lit R:=fun z hz=>hR z (by simp[hz]);have e:(A++y::R).getD k default=y:=gV A y default R hk.symm;have e2:∀ z:Claim,(A++y::R).set k z=A++z::R:=fun z=>Nm A y z R hk.symm;have e3:∀ z:Claim,(A++z::R).getD k default=z:=fun z=>gV A z default R hk.symm;have hm:=oW (a:=n) (b:=y.litres);have hlen:(k:Int) < ((A++y::R).length:Int):=by rw[List.length_append,List.length_cons];omega
  have hlen2:∀ z:Claim,(k:Int) < ((A++z::R).length:Int):=fun z=>by rw[List.length_append,List.length_cons];omega
  simp only[List.length_cons,okI,aw,cP,eC,e,e2,e3];by_cases hf:y.farm=x.farm
  ·rw[show(y.farm==x.farm)=true by simpa using hf];simp only[cond_true];have hw:i64.wrap (n - bE n y.litres)=n - bE n y.litres:=f6 (by omega) (by omega);change _∧∃ m,aw (cP x l0) R.length (k+1) (A++lH y (bE n y.litres)::R,i64.wrap (n - bE n y.litres))=_;rw[hw];obtain⟨q1,m,q2⟩:=za x l0 R (A++[lH y (bE n y.litres)]) (n - bE n y.litres) (k+1) (by simp[hk]) (by omega) (by omega) hR';rw[List.append_assoc,List.singleton_append]at q1 q2;refine⟨⟨⟨⟨by omega,hlen⟩,fun _=>⟨⟨by omega,hlen⟩,⟨by omega,hlen⟩,by omega,hlen2 _⟩⟩,fun s' hs=>?_⟩,m,?_⟩
   ·cases hs;change okI _ _ R.length (k+1) (A++lH y (bE n y.litres)::R,i64.wrap (n - bE n y.litres));rw[hw];exact q1
   ·rw[q2,nG,if_pos hf];simp
  ·rw[show(y.farm==x.farm)=false by simpa using hf];simp only[cond_false];obtain⟨q1,m,q2⟩:=za x l0 R (A++[y]) n (k+1) (by simp[hk]) h0 h1 hR';rw[List.append_assoc,List.singleton_append]at q1 q2;refine⟨⟨⟨⟨by omega,hlen⟩,fun h=>(by cases h)⟩,fun s' hs=>?_⟩,m,?_⟩
   ·cases hs;exact q1
   ·rw[q2,nG,if_neg hf];simp
theorem No (x:Judgement)(l:List Claim)(h0:0≤x.n)(h1:x.n<4611686018427387904)(hl:Lit l):bO x l∧bi x l=nG x.farm x.n l:=by
 obtain⟨q1,m,q2⟩:=za x l l [] x.n 0 rfl h0 h1 hl;rw[List.nil_append]at q1 q2;unfold bO bi;rw[q2];exact⟨fun _=>q1,rfl⟩
theorem yo (f:Int):∀ (l:List Claim) (n:Int),0≤n→Lit l→Lit (nG f n l)∧(nG f n l).length=l.length
 | [],n,h0,hl=>⟨(fun y hy=>by cases hy),rfl⟩
 |x::r,n,h0,hl=>by
  have hx:=hl x (by simp);have hm:=oW (a:=n) (b:=x.litres);unfold nG;by_cases hf:x.farm=f
  ·rw[if_pos hf];obtain⟨q1,q2⟩:=yo f r (n - bE n x.litres) (by omega) fun z hz=>hl z (by simp[hz]);refine⟨fun y hy=>?_,by simp[q2]⟩;rcases List.mem_cons.1 hy with rfl|hy
   ·show 0≤bE n x.litres∧bE n x.litres<_;unfold bE;split <;>omega
   ·exact q1 y hy
  ·rw[if_neg hf];obtain⟨q1,q2⟩:=yo f r n h0 fun z hz=>hl z (by simp[hz]);refine⟨fun y hy=>?_,by simp[q2]⟩;rcases List.mem_cons.1 hy with rfl|hy
   ·exact hx
   ·exact q1 y hy
theorem yp (f:Int):∀ (l:List Claim) (n:Int),(nG f n l).map (fun x=>lH x 0)=l.map fun x=>lH x 0
 | [],n=>rfl
 |x::r,n=>by
  unfold nG;by_cases hf:x.farm=f
  ·rw[if_pos hf,List.map_cons,List.map_cons,yp f r];rfl
  ·rw[if_neg hf,List.map_cons,List.map_cons,yp f r]
theorem Gg {l m:List Claim}(e:m.map (fun x=>lH x 0)=l.map fun x=>lH x 0)(h:l.Pairwise tlt):m.Pairwise tlt:=by
 have h1:(l.map fun x=>lH x 0).Pairwise tlt:=List.pairwise_map.2 (h.imp fun {a b} h=>h);rw[←e]at h1;exact(List.pairwise_map.1 h1).imp fun {a b} h=>h
theorem nH (l:List Claim)(f:Int):∀ (R A:List Claim) (n:Int) (acc:List Claim) (k:Nat),l=A++R→A.length=k→0≤n→n<4611686018427387904→Lit R→(acc.length+R.length)*40≤dq→
  okI (l6 l f) (pJ l f) R.length k (n,acc)∧∃ m,aw (l6 l f) R.length k (n,acc)=.inr (m,acc++(nG f n R).filter fun x=>!an x)
 | [],A,n,acc,k,hl,hk,h0,h1,hR,hb=>⟨trivial,n,by simp[aw,nG]⟩
 |y::R,A,n,acc,k,hl,hk,h0,h1,hR,hb=>by
  have hy:=hR y (by simp);have hR':Lit R:=fun z hz=>hR z (by simp[hz]);have e:l.getD k default=y:=by rw[hl];exact gV A y default R hk.symm
  have hm:=oW (a:=n) (b:=y.litres);simp only[List.length_cons]at hb;have hbd:∀ z:Claim,(acc++[z]).length*40≤dq:=fun z=>by rw[List.length_append];simp only[List.length_cons,List.length_nil];omega
  have hbn:∀ z:Claim,((acc++[z]).length+R.length)*40≤dq:=fun z=>by rw[List.length_append];simp only[List.length_cons,List.length_nil];omega
  have hl':l=(A++[y])++R:=by rw[hl];simp
  have e4:(if n<y.litres then n else y.litres)=bE n y.litres:=rfl;simp only[List.length_cons,okI,aw,l6,pJ,e,e4];by_cases hf:y.farm=f
  ·rw[show(y.farm==f)=true by simpa using hf];simp only[cond_true];have hw:i64.wrap (n - bE n y.litres)=n - bE n y.litres:=f6 (by omega) (by omega);rw[hw,nG,if_pos hf];by_cases hp:bE n y.litres > 0
   ·rw[decide_eq_true hp];simp only[cond_true];obtain⟨q1,m,q2⟩:=nH l f R (A++[y]) (n - bE n y.litres) (acc++[lH y (bE n y.litres)]) (k+1) hl' (by simp[hk]) (by omega) (by omega) hR' (hbn _);refine⟨⟨fun _=>⟨fun _ _=>hbd _,fun h=>(by cases h)⟩,fun s' hs=>?_⟩,m,?_⟩
    ·cases hs;exact q1
    ·rw[List.filter_cons_of_pos (by unfold an lH;simp;omega)];refine Eq.trans q2 ?_;simp
   ·rw[decide_eq_false hp];simp only[cond_false];obtain⟨q1,m,q2⟩:=nH l f R (A++[y]) (n - bE n y.litres) acc (k+1) hl' (by simp[hk]) (by omega) (by omega) hR' (by omega);refine⟨⟨fun _=>⟨fun _ h=>(by cases h),fun h=>(by cases h)⟩,fun s' hs=>?_⟩,m,?_⟩
    ·cases hs;exact q1
    ·rw[List.filter_cons_of_neg (by unfold an lH;simp;omega)];exact q2
  ·rw[show(y.farm==f)=false by simpa using hf];simp only[cond_false];rw[nG,if_neg hf];by_cases hp:y.litres > 0
   ·rw[decide_eq_true hp];simp only[cond_true];obtain⟨q1,m,q2⟩:=nH l f R (A++[y]) n (acc++[y]) (k+1) hl' (by simp[hk]) h0 h1 hR' (hbn _);refine⟨⟨fun _=>⟨fun h=>(by cases h),fun _ _=>hbd _⟩,fun s' hs=>?_⟩,m,?_⟩
    ·cases hs;exact q1
    ·rw[List.filter_cons_of_pos (by unfold an;simp;omega)];refine Eq.trans q2 ?_;simp
   ·rw[decide_eq_false hp];simp only[cond_false];obtain⟨q1,m,q2⟩:=nH l f R (A++[y]) n acc (k+1) hl' (by simp[hk]) h0 h1 hR' (by omega);refine⟨⟨fun _=>⟨fun h=>(by cases h),fun _ h=>(by cases h)⟩,fun s' hs=>?_⟩,m,?_⟩
    ·cases hs;exact q1
    ·rw[List.filter_cons_of_neg (by unfold an;simp;omega)];exact q2
theorem r7 (x:Judgement)(l:List Claim)(h0:0≤x.n)(h1:x.n<4611686018427387904)(hl:Lit l)(hs:l.Pairwise tlt)(hb:l.length*40≤dq):
  (bO x l∧b8 (bi x l)∧tl l x.farm x.n)∧cF (bi x l)=eI l x.farm x.n∧eI l x.farm x.n=(nG x.farm x.n l).filter fun y=>!an y:=by
 obtain⟨q1,q2⟩:=No x l h0 h1 hl;obtain⟨r1,m,r2⟩:=nH l x.farm l [] x.n [] 0 rfl rfl h0 h1 hl (by simpa using hb);have e:eI l x.farm x.n=(nG x.farm x.n l).filter fun y=>!an y:=by
  unfold eI;rw[r2,List.nil_append]
 obtain⟨t1,t2⟩:=Er (l:=nG x.farm x.n l) (by rw[(yo x.farm l x.n h0 hl).2];unfold dq at hb;omega) (List.Perm.refl _) (List.Pairwise.filter _ (Gg (yp x.farm l x.n) hs));rw[q2,e];exact⟨⟨q1,t1,r1⟩,t2,rfl⟩
def qx (x:Claim):List Claim→List Claim
 | [] =>[x]
 |y::r=>if aK x y=true then x::y::r else lH x (x.litres+y.litres)::r
def gb (l:List Claim)(x:Claim):List Claim:=l.takeWhile (fun y=>aK y x)++qx x (l.dropWhile fun y=>aK y x)
theorem Jg (l:List Claim)(x:Claim)(hb:(l.length+1)*40≤dq):∀ (R A:List Claim) (k:Nat),l=A++R→
  okI (gF l x) (lZ l x) (R.length+1) k (A,(A.length:Int))∧aw (gF l x) (R.length+1) k (A,(A.length:Int))=.inl (((A++R.takeWhile fun y=>aK y x).length:Int),A++R.takeWhile fun y=>aK y x)
 | [],A,k,hl=>by
  have hA:l.length=A.length:=by rw[hl];simp
  have e:decide ((A.length:Int) < (l.length:Int))=false:=decide_eq_false (by omega);simp only[List.length_nil,okI,aw,gF,lZ,e,Bool.false_and,cond_false,List.takeWhile_nil,List.append_nil];exact⟨⟨fun _=>⟨fun h=>(by cases h),fun h=>(by cases h)⟩,fun s h=>(by cases h)⟩,by simp⟩
 |y::R,A,k,hl=>by
  have hA:l.length=A.length+(R.length+1):=by rw[hl];simp
  have e:decide ((A.length:Int) < (l.length:Int))=true:=decide_eq_true (by omega);have g:l.getD (Int.toNat (A.length:Int)) default=y:=by rw[hl,Int.toNat_natCast];exact gV A y default R rfl
  have hw:i64.wrap ((A.length:Int)+1)=((A++[y]).length:Int):=by
   rw[f6 (by omega) (by unfold dq at hb;omega)];simp
  have hl2:(A++[y]).length*40≤dq:=by rw[List.length_append];simp only[List.length_cons,List.length_nil];omega
  simp only[List.length_cons];rw[okI,aw];simp only[gF,lZ,e,g,Bool.true_and,hw];cases hB:aK y x with
  |false=>
   simp only[cond_false];rw[List.takeWhile_cons_of_neg (p:=fun y=>aK y x) (by rw[hB];simp),List.append_nil];exact⟨⟨fun _=>⟨fun _=>⟨by omega,by omega⟩,fun h=>(by cases h)⟩,fun s h=>(by cases h)⟩,by simp⟩
  |true=>
   simp only[cond_true];obtain⟨q1,q2⟩:=Jg l x hb R (A++[y]) (k+1) (by rw[hl];simp);rw[List.takeWhile_cons_of_pos (p:=fun y=>aK y x) hB];refine⟨⟨fun _=>⟨fun _=>⟨by omega,by omega⟩,fun _=>⟨⟨by omega,by omega⟩,hl2⟩⟩,fun s h=>?_⟩,?_⟩
   ·cases h;exact q1
   ·rw[q2];simp
theorem Np (l:List Claim)(x:Claim)(hb:(l.length+1)*40≤dq)(hx:0≤x.litres∧x.litres<4611686018427387904)(hl:Lit l):l5 l x∧pH l x=gb l x:=by
 obtain⟨q1,q2⟩:=Jg l x hb l [] 0 rfl;simp only[List.length_nil,List.nil_append]at q1 q2;generalize hT:l.takeWhile (fun y=>aK y x)=T at q2;generalize hD:l.dropWhile (fun y=>aK y x)=D;have hTD:l=T++D:=by rw[←hT,←hD,List.takeWhile_append_dropWhile]
 have hlen:l.length=T.length+D.length:=by rw[hTD];simp
 have q2':aw (gF l x) (l.length+1) 0 ([],0)=.inl ((T.length:Int),T):=q2;have q1':okI (gF l x) (lZ l x) (l.length+1) 0 ([],0):=q1;have hbT:∀ (z:Claim) (m:List Claim),T.length+1+m.length≤l.length+1→((T++[z])++m).length*40≤dq:=fun z m h=>by simp only[List.length_append,List.length_cons,List.length_nil];omega
 unfold l5 pH gb;rw[hT,hD,q2'];have t1:l.take l.length=l:=List.take_length;have d1:l.drop T.length=D:=by rw[hTD];simp
 have hLD:Lit D:=fun y hy=>hl y (by rw[hTD];simp[hy]);cases D with
 |nil=>
  simp only[List.length_nil]at hlen;have e0:decide ((T.length:Int) < (l.length:Int))=false:=decide_eq_false (by omega);refine⟨⟨q1',fun z h=>(by cases h),fun r hr=>?_⟩,?_⟩
  ·cases hr;simp only[e0,Bool.false_and,Int.toNat_natCast,t1,d1];refine fun _=>⟨fun h=>(by cases h),fun h=>(by cases h),fun _=>⟨?_,fun _=>⟨⟨by omega,by omega,Int.le_refl _⟩,hbT x [] (by simp only[List.length_nil];omega)⟩⟩⟩;have:=hbT x [] (by simp only[List.length_nil];omega)
   rwa[List.append_nil]at this
  ·simp only[e0,Bool.false_and,cond_false,Int.toNat_natCast,t1,d1,qx,List.append_nil]
 |cons y r=>
  simp only[List.length_cons]at hlen;have e1:decide ((T.length:Int) < (l.length:Int))=true:=decide_eq_true (by omega);have g:l.getD T.length default=y:=by rw[hTD];exact gV T y default r rfl
  have w1:i64.wrap ((T.length:Int)+1)=((T.length+1:Nat):Int):=by rw[f6 (by omega) (by unfold dq at hb;omega)];omega
  have d2:l.drop (T.length+1)=r:=by rw[←List.drop_drop,d1];rfl
  have hy:=hLD y (by simp);have w2:i64.wrap (x.litres+y.litres)=x.litres+y.litres:=f6 (by omega) (by omega);have b1:∀ z:Claim,(T++[z]).length*40≤dq:=fun z=>by
   have:=hbT z [] (by simp only[List.length_nil];omega)
   rwa[List.append_nil]at this
  refine⟨⟨q1',fun z h=>(by cases h),fun r' hr=>?_⟩,?_⟩
  ·cases hr;simp only[e1,g,Bool.true_and,w1,w2,Int.toNat_natCast,t1,d1,d2];exact fun _=>⟨fun _=>⟨by omega,by omega⟩,fun _=>⟨⟨by omega,by omega⟩,b1 _,fun _=>⟨⟨by omega,by omega,Int.le_refl _⟩,hbT _ r (by omega)⟩⟩,fun _=>⟨b1 _,fun _=>⟨⟨by omega,by omega,Int.le_refl _⟩,hbT _ (y::r) (by simp only[List.length_cons];omega)⟩⟩⟩
  ·simp only[e1,g,Bool.true_and,w1,w2,Int.toNat_natCast,t1,d1,d2,qx];cases hB:aK x y with
   |false=>
    simp only[Bool.not_false,cond_true,Bool.false_eq_true,if_false];rw[List.append_assoc,List.singleton_append];rfl
   |true=>
    simp only[Bool.not_true,cond_false,if_true];rw[List.append_assoc,List.singleton_append]
def Cl (a b:Claim):Prop:=a.rank=b.rank∧a.right=b.right∧a.farm=b.farm
def amt:List Claim→Int→Int→Int
 | [],_,_=>0
 |x::l,r,p=>(if x.right=r∧x.farm=p then x.litres else 0)+amt l r p
theorem Aj:∀ (l m:List Claim) (r p:Int),amt (l++m) r p=amt l r p+amt m r p
 | [],m,r,p=>by simp[amt]
 |x::l,m,r,p=>by rw[List.cons_append,amt,amt,Aj l m r p];omega
theorem pP {a b:Claim}(h:a.hour=b.hour):aK a b=true↔tlt a b:=by
 rw[xC,decide_eq_true_eq,yl];simp only[wG,tlt,su,and_false,or_false];omega
theorem zb {a b c:Claim}(h1:tlt a b)(h2:tlt b c):tlt a c:=by simp only[tlt,su,and_false,or_false]at *;omega
theorem Es {a b:Claim}(h1:¬tlt a b)(h2:¬tlt b a):Cl a b:=by simp only[tlt,su,and_false,or_false,Cl]at *;omega
theorem Gh {a b c:Claim}(h1:tlt a b)(h2:Cl c b):tlt a c:=by simp only[tlt,su,and_false,or_false,Cl]at *;omega
theorem Nq {a b c:Claim}(h1:tlt a b)(h2:Cl c a):tlt c b:=by simp only[tlt,su,and_false,or_false,Cl]at *;omega
theorem r8 (y:Claim)(l:List Claim)(x:Claim):gb (y::l) x=if aK y x=true then y::gb l x else qx x (y::l):=by
 unfold gb;by_cases h:aK y x=true
 ·rw[if_pos h,List.takeWhile_cons_of_pos (p:=fun y=>aK y x) h,List.dropWhile_cons_of_pos (p:=fun y=>aK y x) h];rfl
 ·rw[if_neg h,List.takeWhile_cons_of_neg (p:=fun y=>aK y x) h,List.dropWhile_cons_of_neg (p:=fun y=>aK y x) h];rfl
theorem BO (x:Claim):∀ (l:List Claim),l.Pairwise tlt→(∀ y∈l,y.hour=x.hour)→
  (gb l x).Pairwise tlt∧(∀ z∈gb l x,z.hour=x.hour∧(Cl z x∨∃ w∈l,Cl z w))∧∀ r p,amt (gb l x) r p=amt l r p+if x.right=r∧x.farm=p then x.litres else 0
 | [],_,_=>by
  refine⟨List.pairwise_singleton _ _,fun z hz=>?_,fun r p=>?_⟩
  ·have:z=x:=by simpa[gb,qx]using hz
   subst this;exact⟨rfl,.inl ⟨rfl,rfl,rfl⟩⟩
  ·simp[gb,qx,amt]
 |y::l,hs,hh=>by
  have hs':=List.pairwise_cons.1 hs;have hy:=hh y (by simp);have hh':∀ z∈l,z.hour=x.hour:=fun z hz=>hh z (by simp[hz]);rw[r8];by_cases h1:aK y x=true
  ·rw[if_pos h1];have t1:=(pP hy).1 h1;obtain⟨q1,q2,q3⟩:=BO x l hs'.2 hh';refine⟨List.pairwise_cons.2 ⟨fun z hz=>?_,q1⟩,fun z hz=>?_,fun r p=>?_⟩
   ·rcases(q2 z hz).2 with h| ⟨w,hw,h⟩
    ·exact Gh t1 h
    ·exact Gh (hs'.1 w hw) h
   ·rcases List.mem_cons.1 hz with rfl|hz
    ·exact⟨hy,.inr ⟨z,by simp,rfl,rfl,rfl⟩⟩
    ·obtain⟨g1,g2⟩:=q2 z hz;refine⟨g1,?_⟩;rcases g2 with h| ⟨w,hw,h⟩
     ·exact .inl h
     ·exact .inr ⟨w,by simp[hw],h⟩
   ·rw[amt,amt,q3];omega
  ·rw[if_neg h1];have t1:¬tlt y x:=fun h=>h1 ((pP hy).2 h);by_cases h2:aK x y=true
   ·have t2:=(pP hy.symm).1 h2;rw[qx,if_pos h2];refine⟨List.pairwise_cons.2 ⟨fun z hz=>?_,hs⟩,fun z hz=>?_,fun r p=>?_⟩
    ·rcases List.mem_cons.1 hz with rfl|hz
     ·exact t2
     ·exact zb t2 (hs'.1 z hz)
    ·rcases List.mem_cons.1 hz with rfl|hz
     ·exact⟨rfl,.inl ⟨rfl,rfl,rfl⟩⟩
     ·exact⟨hh z hz,.inr ⟨z,hz,rfl,rfl,rfl⟩⟩
    ·rw[amt];omega
   ·have t2:¬tlt x y:=fun h=>h2 ((pP hy.symm).2 h);have hk:=Es t2 t1;rw[qx,if_neg h2];refine⟨List.pairwise_cons.2 ⟨fun z hz=>Nq (hs'.1 z hz) hk,hs'.2⟩,fun z hz=>?_,fun r p=>?_⟩
    ·rcases List.mem_cons.1 hz with rfl|hz
     ·exact⟨rfl,.inl ⟨rfl,rfl,rfl⟩⟩
     ·exact⟨hh' z hz,.inr ⟨z,by simp[hz],rfl,rfl,rfl⟩⟩
    ·rw[amt,amt];obtain⟨_,k2,k3⟩:=hk;show(if x.right=r∧x.farm=p then x.litres+y.litres else 0)+_=_;rw[k2,k3];split <;>omega
theorem yq:∀ {l:List Claim} {r p:Int},(∀ y∈l,¬ (y.right=r∧y.farm=p))→amt l r p=0
 | [],_,_,_=>rfl
 |x::l,r,p,h=>by rw[amt,if_neg (h x (by simp)),yq fun y hy=>h y (by simp[hy])];rfl
structure Dock (ρ:Int→Int)(h:Int)(l:List Claim):Prop where
 s:l.Pairwise tlt
 rk:∀ y∈l,y.rank=ρ y.right
 hr:∀ y∈l,y.hour=h
 pos:∀ y∈l,0<y.litres
section
variable {ρ:Int→Int}{h:Int}
theorem Dock.tail {x:Claim}{l:List Claim}(d:Dock ρ h (x::l)):Dock ρ h l:=⟨(List.pairwise_cons.1 d.s).2,fun y hy=>d.rk y (by simp[hy]),fun y hy=>d.hr y (by simp[hy]),fun y hy=>d.pos y (by simp[hy])⟩
theorem H6 {x y:Claim}(h1:tlt x y)(hx:x.rank=ρ x.right)(hy:y.rank=ρ y.right):¬ (y.right=x.right∧y.farm=x.farm):=by
 rintro⟨e1,e2⟩;rw[e1]at hy;simp only[tlt,su,and_false,or_false]at h1;omega
theorem Dock.head {x:Claim}{l:List Claim}(d:Dock ρ h (x::l)):amt (x::l) x.right x.farm=x.litres:=by
 rw[amt,if_pos ⟨rfl,rfl⟩,yq fun y hy=>H6 ((List.pairwise_cons.1 d.s).1 y hy) (d.rk x (by simp)) (d.rk y (by simp[hy]))];omega
theorem Dock.below {x:Claim}{l:List Claim}(d:Dock ρ h l)(hx:x.rank=ρ x.right)(hl:∀ y∈l,tlt x y):amt l x.right x.farm=0:=yq fun y hy=>H6 (hl y hy) hx (d.rk y hy)
theorem zc:∀ {l m:List Claim},Dock ρ h l→Dock ρ h m→(∀ r p,amt l r p=amt m r p)→l=m
 | [],[],_,_,_=>rfl
 | [],b::m,_,dm,e=>by
  have h1:=e b.right b.farm;rw[dm.head]at h1;have h2:=dm.pos b (by simp);simp only[amt]at h1;omega
 |a::l,[],dl,_,e=>by
  have h1:=e a.right a.farm;rw[dl.head]at h1;have h2:=dl.pos a (by simp);simp only[amt]at h1;omega
 |a::l,b::m,dl,dm,e=>by
  have ra:=dl.rk a (by simp);have rb:=dm.rk b (by simp);have la:=List.pairwise_cons.1 dl.s;have lb:=List.pairwise_cons.1 dm.s;by_cases h1:tlt a b
  ·have h2:=e a.right a.farm;rw[dl.head,dm.below ra fun y hy=>by
    rcases List.mem_cons.1 hy with rfl|hy
    ·exact h1
    ·exact zb h1 (lb.1 y hy)]at h2
   have:=dl.pos a (by simp);omega
  ·by_cases h2:tlt b a
   ·have h3:=e b.right b.farm;rw[dm.head,dl.below rb fun y hy=>by
     rcases List.mem_cons.1 hy with rfl|hy
     ·exact h2
     ·exact zb h2 (la.1 y hy)]at h3
    have:=dm.pos b (by simp);omega
   ·obtain⟨k1,k2,k3⟩:=Es h1 h2;have h3:=e a.right a.farm;have h4:=dm.head;rw[dl.head,k2,k3,h4]at h3;have hab:a=b:=by
     have e1:=(dl.hr a (by simp)).trans (dm.hr b (by simp)).symm;cases a;cases b;simp only at k1 k2 k3 h3 e1;subst k1 k2 k3 h3 e1;rfl
    subst hab;rw[zc dl.tail dm.tail fun r p=>by have:=e r p;rw[amt,amt]at this;omega]
theorem xE:∀ (l:List Claim) (r p:Int),amt (l.filter fun x=>!an x) r p=amt l r p
 | [],_,_=>rfl
 |x::l,r,p=>by
  by_cases hx:x.litres=0
  ·rw[List.filter_cons_of_neg (by unfold an;simp[hx]),xE l,amt,hx];split <;>omega
  ·rw[List.filter_cons_of_pos (by unfold an;simp[hx]),amt,amt,xE l]
theorem BP {l m:List Claim}(h:l.Perm m)(r p:Int):amt l r p=amt m r p:=by
 induction h with
 |nil=>rfl
 |cons x _ ih=>rw[amt,amt,ih]
 |swap x y l=>rw[amt,amt,amt,amt];omega
 |trans _ _ h1 h2=>rw[h1,h2]
end
abbrev nc (b:Int)(l:List Claim):Prop:= ∀ y∈l,0≤y.litres∧y.litres≤b
theorem Gi {b c:Int}{x:Claim}{l:List Claim}(hb:0≤b)(hl:nc b l)(hx:0≤x.litres∧x.litres≤c):nc (b+c) (qx x l)∧(qx x l).length≤l.length+1:=by
 cases l with
 |nil=>
  refine⟨fun y hy=>?_,by simp[qx]⟩;have:y=x:=by simpa[qx]using hy
  subst this;omega
 |cons y r=>
  have hy:=hl y (by simp);rw[qx];by_cases h:aK x y=true
  ·rw[if_pos h];refine⟨fun z hz=>?_,by simp⟩;rcases List.mem_cons.1 hz with rfl|hz
   ·omega
   ·have:=hl z hz;omega
  ·rw[if_neg h];refine⟨fun z hz=>?_,by simp⟩;rcases List.mem_cons.1 hz with rfl|hz
   ·show 0≤x.litres+y.litres∧x.litres+y.litres≤b+c;omega
   ·have:=hl z (by simp[hz]);omega
theorem Ak {b c:Int}{x:Claim}(hb:0≤b)(hx:0≤x.litres∧x.litres≤c):∀ {l:List Claim},nc b l→nc (b+c) (gb l x)∧(gb l x).length≤l.length+1
 | [],hl=>Gi hb hl hx
 |y::l,hl=>by
  rw[r8];split
  ·obtain⟨q1,q2⟩:=Ak hb hx (l:=l) fun z hz=>hl z (by simp[hz]);have hy:=hl y (by simp);refine⟨fun z hz=>?_,by simp only[List.length_cons];omega⟩;rcases List.mem_cons.1 hz with rfl|hz
   ·omega
   ·exact q1 z hz
  ·exact Gi hb hl hx
def yr (y:Claim)(o n:Int):Claim:= { right:=y.right,farm:=o,hour:=y.hour,litres:=n,rank:=y.rank}
def gv (f o:Int):List Claim→Int→List Claim→List Claim→List Claim×List Claim
 | [],_,K,G=>(K,G)
 |y::r,n,K,G=>if y.farm=f then gv f o r (n - bE n y.litres) (if y.litres - bE n y.litres > 0 then gb K (lH y (y.litres - bE n y.litres))else K) (if bE n y.litres > 0 then G++[yr y o (bE n y.litres)]else G)
  else gv f o r n (if y.litres > 0 then gb K y else K) G
theorem Nr (l:List Claim)(f o b0:Int)(hb0:0≤b0∧b0≤4398046511104)(hll:l.length≤8192)(hmB:(l.length+2)*40≤dq):∀ (R B:List Claim) (n:Int) (K G:List Claim) (k:Nat),l=R.reverse++B→0≤n→n<4611686018427387904→nc b0 R→
  nc ((B.length:Int)*b0) K→K.length≤B.length→G.length≤B.length→
  okI (fX l f o) (kG l f o) (R.length+1) k (n,K,G,(R.length:Int) - 1)∧aw (fX l f o) (R.length+1) k (n,K,G,(R.length:Int) - 1)=.inl (gv f o R n K G)
 | [],B,n,K,G,k,hl,h0,h1,hR,hK,hKl,hGl=>by
  have e:decide (((0:Nat):Int) - 1≥0)=false:=decide_eq_false (by omega);simp only[List.length_nil,okI,aw,fX,kG,e,cond_false,gv];exact⟨⟨fun h=>(by cases h),fun s h=>(by cases h)⟩,by simp⟩
 |y::R,B,n,K,G,k,hl,h0,h1,hR,hK,hKl,hGl=>by
  have hy:=hR y (by simp);have hR':nc b0 R:=fun z hz=>hR z (by simp[hz]);have hlen:l.length=R.length+1+B.length:=by rw[hl];simp;omega
  have hl':l=R.reverse++(y::B):=by rw[hl];simp
  have hi:(((y::R).length:Nat):Int) - 1=(R.length:Int):=by simp
  have g:l.getD (Int.toNat (R.length:Int)) default=y:=by rw[hl',Int.toNat_natCast];exact gV R.reverse y default B (by simp)
  have e:decide ((R.length:Int)≥0)=true:=decide_eq_true (by omega);have w1:i64.wrap ((R.length:Int) - 1)=(R.length:Int) - 1:=f6 (by omega) (by omega);have hm:=oW (a:=n) (b:=y.litres);have hm0:0≤bE n y.litres:=by omega
  have e4:(if n<y.litres then n else y.litres)=bE n y.litres:=rfl;have w2:i64.wrap (n - bE n y.litres)=n - bE n y.litres:=f6 (by omega) (by omega);have w3:i64.wrap (y.litres - bE n y.litres)=y.litres - bE n y.litres:=f6 (by omega) (by omega);have hBb:0≤(B.length:Int)*b0∧(B.length:Int)*b0≤36028797018963968:=by
   refine⟨Int.mul_nonneg (by omega) hb0.1,?_⟩;have h2:(B.length:Int)*b0≤8192*b0:=Int.mul_le_mul_of_nonneg_right (by omega) hb0.1;omega
  have hKL:Lit K:=fun z hz=>by have:=hK z hz;omega
  have hB1:(((y::B).length:Nat):Int)*b0=(B.length:Int)*b0+b0:=by rw[List.length_cons,Int.natCast_add,Int.add_mul];simp
  have hG:∀ z:Claim,(G++[z]).length*40≤dq∧(G++[z]).length≤(y::B).length:=fun z=>by
   rw[List.length_append];simp only[List.length_cons,List.length_nil];omega
  have hKm:nc ((((y::B).length:Nat):Int)*b0) K:=fun z hz=>by rw[hB1];have:=hK z hz;omega
  have P:∀ z:Claim,0≤z.litres∧z.litres≤b0→l5 K z∧pH K z=gb K z∧nc ((((y::B).length:Nat):Int)*b0) (gb K z)∧(gb K z).length≤(y::B).length:=fun z hz=>by
   obtain⟨p1,p2⟩:=Np K z (by omega) (by omega) hKL;obtain⟨p3,p4⟩:=Ak hBb.1 hz hK;exact⟨p1,p2,by rw[hB1];exact p3,by simp only[List.length_cons];omega⟩
  rw[hi];simp only[List.length_cons];rw[okI,aw];simp only[fX,kG,e,g,e4,w1,w2,w3,cond_true];have rec_:∀ (n':Int) (K' G':List Claim),0≤n'→n'≤n→nc ((((y::B).length:Nat):Int)*b0) K'→K'.length≤(y::B).length→G'.length≤(y::B).length→okI (fX l f o) (kG l f o) (R.length+1) (k+1) (n',K',G',(R.length:Int) - 1)∧aw (fX l f o) (R.length+1) (k+1) (n',K',G',(R.length:Int) - 1)=.inl (gv f o R n' K' G'):=fun n' K' G' a1 a2 a3 a4 a5=>Nr l f o b0 hb0 hll hmB R (y::B) n' K' G' (k+1) hl' a1 (by omega) hR' a3 a4 a5;have hKs:K.length≤(y::B).length:=by simp only[List.length_cons];omega
  have hGs:G.length≤(y::B).length:=by simp only[List.length_cons];omega
  have hidx:(0:Int)≤(R.length:Int)∧(R.length:Int) < (l.length:Int):=⟨by omega,by omega⟩;by_cases hf:y.farm=f
  ·rw[show(y.farm==f)=true by simpa using hf,gv,if_pos hf];simp only[cond_true];by_cases hg:bE n y.litres > 0
   ·rw[decide_eq_true hg,if_pos hg];simp only[cond_true];by_cases hr:y.litres - bE n y.litres > 0
    ·rw[decide_eq_true hr,if_pos hr];simp only[cond_true];obtain⟨p1,p2,p3,p4⟩:=P (lH y (y.litres - bE n y.litres)) ⟨by show 0≤y.litres - bE n y.litres;omega,by show y.litres - bE n y.litres≤b0;omega⟩;obtain⟨q1,q2⟩:=rec_ (n - bE n y.litres) (gb K (lH y (y.litres - bE n y.litres))) (G++[yr y o (bE n y.litres)]) (by omega) (by omega) p3 p4 (hG _).2;rw[←p2]at q1 q2 ⊢;exact⟨⟨fun _=>⟨hidx,fun _=>⟨fun _=>⟨(hG _).1,fun _ _=>p1⟩,fun h=>(by cases h)⟩,fun h=>(by cases h)⟩,fun s h=>by cases h;exact q1⟩,q2⟩
    ·rw[decide_eq_false hr,if_neg hr];simp only[cond_false];obtain⟨q1,q2⟩:=rec_ (n - bE n y.litres) K (G++[yr y o (bE n y.litres)]) (by omega) (by omega) hKm hKs (hG _).2;exact⟨⟨fun _=>⟨hidx,fun _=>⟨fun _=>⟨(hG _).1,fun _ h=>(by cases h)⟩,fun h=>(by cases h)⟩,fun h=>(by cases h)⟩,fun s h=>by cases h;exact q1⟩,q2⟩
   ·rw[decide_eq_false hg,if_neg hg];simp only[cond_false];by_cases hr:y.litres - bE n y.litres > 0
    ·rw[decide_eq_true hr,if_pos hr];simp only[cond_true];obtain⟨p1,p2,p3,p4⟩:=P (lH y (y.litres - bE n y.litres)) ⟨by show 0≤y.litres - bE n y.litres;omega,by show y.litres - bE n y.litres≤b0;omega⟩;obtain⟨q1,q2⟩:=rec_ (n - bE n y.litres) (gb K (lH y (y.litres - bE n y.litres))) G (by omega) (by omega) p3 p4 hGs;rw[←p2]at q1 q2 ⊢;exact⟨⟨fun _=>⟨hidx,fun _=>⟨fun h=>(by cases h),fun _ _=>p1⟩,fun h=>(by cases h)⟩,fun s h=>by cases h;exact q1⟩,q2⟩
    ·rw[decide_eq_false hr,if_neg hr];simp only[cond_false];obtain⟨q1,q2⟩:=rec_ (n - bE n y.litres) K G (by omega) (by omega) hKm hKs hGs;exact⟨⟨fun _=>⟨hidx,fun _=>⟨fun h=>(by cases h),fun _ h=>(by cases h)⟩,fun h=>(by cases h)⟩,fun s h=>by cases h;exact q1⟩,q2⟩
  ·rw[show(y.farm==f)=false by simpa using hf,gv,if_neg hf];simp only[cond_false];by_cases hr:y.litres > 0
   ·rw[decide_eq_true hr,if_pos hr];simp only[cond_true];obtain⟨p1,p2,p3,p4⟩:=P y hy;obtain⟨q1,q2⟩:=rec_ n (gb K y) G h0 (by omega) p3 p4 hGs;rw[←p2]at q1 q2 ⊢;exact⟨⟨fun _=>⟨hidx,fun h=>(by cases h),fun _ _=>p1⟩,fun s h=>by cases h;exact q1⟩,q2⟩
   ·rw[decide_eq_false hr,if_neg hr];simp only[cond_false];obtain⟨q1,q2⟩:=rec_ n K G h0 (by omega) hKm hKs hGs;exact⟨⟨fun _=>⟨hidx,fun h=>(by cases h),fun _ h=>(by cases h)⟩,fun s h=>by cases h;exact q1⟩,q2⟩
section
variable {ρ:Int→Int}{h:Int}
theorem Jh {x:Claim}(hx:0<x.litres):∀ {l:List Claim},(∀ y∈l,0<y.litres)→∀ z∈gb l x,0<z.litres
 | [],_,z,hz=>by
  have:z=x:=by simpa[gb,qx]using hz
  subst this;exact hx
 |y::l,hl,z,hz=>by
  rw[r8]at hz;have hy:=hl y (by simp);by_cases h1:aK y x=true
  ·rw[if_pos h1]at hz;rcases List.mem_cons.1 hz with rfl|hz
   ·exact hy
   ·exact Jh hx (fun w hw=>hl w (by simp[hw])) z hz
  ·rw[if_neg h1,qx]at hz;by_cases h2:aK x y=true
   ·rw[if_pos h2]at hz;rcases List.mem_cons.1 hz with rfl|hz
    ·exact hx
    ·exact hl z hz
   ·rw[if_neg h2]at hz;rcases List.mem_cons.1 hz with rfl|hz
    ·show 0<x.litres+y.litres;omega
    ·exact hl z (by simp[hz])
theorem Dock.put {l:List Claim}{x:Claim}(d:Dock ρ h l)(hx:0<x.litres)(hr:x.rank=ρ x.right)(hh:x.hour=h):Dock ρ h (gb l x)∧∀ r p,amt (gb l x) r p=amt l r p+if x.right=r∧x.farm=p then x.litres else 0:=by
 obtain⟨q1,q2,q3⟩:=BO x l d.s fun y hy=>(d.hr y hy).trans hh.symm;refine⟨⟨q1,fun z hz=>?_,fun z hz=>(q2 z hz).1.trans hh,Jh hx d.pos⟩,q3⟩;rcases(q2 z hz).2 with⟨k1,k2,_⟩ | ⟨w,hw,k1,k2,_⟩
 ·rw[k1,k2];exact hr
 ·rw[k1,k2];exact d.rk w hw
structure Gift (ρ:Int→Int)(h o:Int)(l:List Claim):Prop where
 rk:∀ y∈l,y.rank=ρ y.right
 hr:∀ y∈l,y.hour=h
 pos:∀ y∈l,0<y.litres
 fm:∀ y∈l,y.farm=o
theorem Et {f o:Int}:∀ (R:List Claim) (n:Int) (K G:List Claim),0≤n→(∀ y∈R,y.rank=ρ y.right∧y.hour=h∧0≤y.litres)→Dock ρ h K→Gift ρ h o G→
  Dock ρ h (gv f o R n K G).1∧Gift ρ h o (gv f o R n K G).2∧∀ r p,amt (gv f o R n K G).1 r p+(if p=f then amt (gv f o R n K G).2 r o else 0)=amt K r p+amt R r p+(if p=f then amt G r o else 0)
 | [],n,K,G,h0,hR,dK,dG=>⟨dK,dG,fun r p=>by simp only[gv,amt];omega⟩
 |y::R,n,K,G,h0,hR,dK,dG=>by
  have hy:=hR y (by simp);have hR':∀ z∈R,z.rank=ρ z.right∧z.hour=h∧0≤z.litres:=fun z hz=>hR z (by simp[hz]);have hm:=oW (a:=n) (b:=y.litres);have hm0:0≤bE n y.litres:=by omega
  by_cases hf:y.farm=f
  ·rw[gv,if_pos hf];have k1:Dock ρ h (if y.litres - bE n y.litres > 0 then gb K (lH y (y.litres - bE n y.litres))else K)∧∀ r p,amt (if y.litres - bE n y.litres > 0 then gb K (lH y (y.litres - bE n y.litres))else K) r p=amt K r p+if y.right=r∧y.farm=p then y.litres - bE n y.litres else 0:=by
    by_cases hr:y.litres - bE n y.litres > 0
    ·rw[if_pos hr];exact dK.put (x:=lH y (y.litres - bE n y.litres)) hr hy.1 hy.2.1
    ·rw[if_neg hr];exact⟨dK,fun r p=>by split <;>omega⟩
   have k2:Gift ρ h o (if bE n y.litres > 0 then G++[yr y o (bE n y.litres)]else G)∧∀ r,amt (if bE n y.litres > 0 then G++[yr y o (bE n y.litres)]else G) r o=amt G r o+if y.right=r then bE n y.litres else 0:=by
    by_cases hr:bE n y.litres > 0
    ·rw[if_pos hr];refine⟨⟨fun z hz=>?_,fun z hz=>?_,fun z hz=>?_,fun z hz=>?_⟩,fun r=>?_⟩
     ·rcases List.mem_append.1 hz with hz|hz
      ·exact dG.rk z hz
      ·rw[List.mem_singleton.1 hz];exact hy.1
     ·rcases List.mem_append.1 hz with hz|hz
      ·exact dG.hr z hz
      ·rw[List.mem_singleton.1 hz];exact hy.2.1
     ·rcases List.mem_append.1 hz with hz|hz
      ·exact dG.pos z hz
      ·rw[List.mem_singleton.1 hz];exact hr
     ·rcases List.mem_append.1 hz with hz|hz
      ·exact dG.fm z hz
      ·rw[List.mem_singleton.1 hz];rfl
     ·rw[Aj,amt,amt];show _+((if y.right=r∧o=o then bE n y.litres else 0)+0)=_;simp
    ·rw[if_neg hr];exact⟨dG,fun r=>by split <;>omega⟩
   obtain⟨q1,q2,q3⟩:=Et R (n - bE n y.litres) _ _ (by omega) hR' k1.1 k2.1;refine⟨q1,q2,fun r p=>?_⟩;rw[q3,k1.2,k2.2,amt];by_cases hp:p=f
   ·subst hp;by_cases hr:y.right=r
    ·simp only[hr,hf,and_self,if_true];omega
    ·simp only[hr,false_and,if_false,if_true];omega
   ·have:¬ (y.right=r∧y.farm=p):=fun e=>hp (by rw[←e.2,hf]);simp only[if_neg hp,if_neg this];omega
  ·rw[gv,if_neg hf];have k1:Dock ρ h (if y.litres > 0 then gb K y else K)∧∀ r p,amt (if y.litres > 0 then gb K y else K) r p=amt K r p+if y.right=r∧y.farm=p then y.litres else 0:=by
    by_cases hr:y.litres > 0
    ·rw[if_pos hr];exact dK.put hr hy.1 hy.2.1
    ·rw[if_neg hr];exact⟨dK,fun r p=>by split <;>omega⟩
   obtain⟨q1,q2,q3⟩:=Et R n _ G h0 hR' k1.1 dG;refine⟨q1,q2,fun r p=>?_⟩;rw[q3,k1.2,amt];omega
theorem Eu {o:Int}:∀ (G K:List Claim),Dock ρ h K→Gift ρ h o G→Dock ρ h (G.foldl gb K)∧∀ r p,amt (G.foldl gb K) r p=amt K r p+amt G r p
 | [],K,dK,_=>⟨dK,fun r p=>by simp[amt]⟩
 |x::G,K,dK,dG=>by
  obtain⟨q1,q2⟩:=dK.put (dG.pos x (by simp)) (dG.rk x (by simp)) (dG.hr x (by simp));obtain⟨p1,p2⟩:=Eu G (gb K x) q1 ⟨fun y hy=>dG.rk y (by simp[hy]),fun y hy=>dG.hr y (by simp[hy]),fun y hy=>dG.pos y (by simp[hy]),fun y hy=>dG.fm y (by simp[hy])⟩;refine⟨p1,fun r p=>?_⟩;rw[List.foldl_cons,p2,q2,amt];omega
end
theorem Qd (c b:Int):(c+1)*b=c*b+b:=by rw[Int.add_mul];simp
theorem H7 {f o b0:Int}(hb0:0≤b0):∀ (R:List Claim) (n:Int) (K G:List Claim) (c:Nat),0≤n→nc b0 R→nc ((c:Int)*b0) K→nc b0 G→K.length≤c→G.length≤c→
  nc (((c+R.length:Nat):Int)*b0) (gv f o R n K G).1∧nc b0 (gv f o R n K G).2∧(gv f o R n K G).1.length≤c+R.length∧(gv f o R n K G).2.length≤c+R.length
 | [],n,K,G,c,h0,hR,hK,hG,hkl,hgl=>⟨hK,hG,hkl,hgl⟩
 |y::R,n,K,G,c,h0,hR,hK,hG,hkl,hgl=>by
  have hy:=hR y (by simp);have hR':nc b0 R:=fun z hz=>hR z (by simp[hz]);have hm:=oW (a:=n) (b:=y.litres);have hcb:0≤(c:Int)*b0:=Int.mul_nonneg (by omega) hb0;have e1:((c+1:Nat):Int)*b0=(c:Int)*b0+b0:=Qd c b0;have e2:c+1+R.length=c+(y::R).length:=by simp only[List.length_cons];omega
  have hK1:nc (((c+1:Nat):Int)*b0) K:=fun z hz=>by have:=hK z hz;omega
  have P:∀ z:Claim,0≤z.litres∧z.litres≤b0→nc (((c+1:Nat):Int)*b0) (gb K z)∧(gb K z).length≤c+1:=fun z hz=>by
   obtain⟨p3,p4⟩:=Ak hcb hz hK;exact⟨by rw[e1];exact p3,by omega⟩
  by_cases hf:y.farm=f
  ·rw[gv,if_pos hf,←e2];have k1:nc (((c+1:Nat):Int)*b0) (if y.litres - bE n y.litres > 0 then gb K (lH y (y.litres - bE n y.litres))else K)∧(if y.litres - bE n y.litres > 0 then gb K (lH y (y.litres - bE n y.litres))else K).length≤c+1:=by
    by_cases hr:y.litres - bE n y.litres > 0
    ·rw[if_pos hr];exact P (lH y (y.litres - bE n y.litres)) ⟨by show 0≤y.litres - bE n y.litres;omega,by show y.litres - bE n y.litres≤b0;omega⟩
    ·rw[if_neg hr];exact⟨hK1,by omega⟩
   have k2:nc b0 (if bE n y.litres > 0 then G++[yr y o (bE n y.litres)]else G)∧(if bE n y.litres > 0 then G++[yr y o (bE n y.litres)]else G).length≤c+1:=by
    by_cases hr:bE n y.litres > 0
    ·rw[if_pos hr];refine⟨fun z hz=>?_,by rw[List.length_append];simp only[List.length_cons,List.length_nil];omega⟩;rcases List.mem_append.1 hz with hz|hz
     ·exact hG z hz
     ·rw[List.mem_singleton.1 hz];show 0≤bE n y.litres∧bE n y.litres≤b0;omega
    ·rw[if_neg hr];exact⟨hG,by omega⟩
   exact H7 hb0 R (n - bE n y.litres) _ _ (c+1) (by omega) hR' k1.1 k2.1 k1.2 k2.2
  ·rw[gv,if_neg hf,←e2];have k1:nc (((c+1:Nat):Int)*b0) (if y.litres > 0 then gb K y else K)∧(if y.litres > 0 then gb K y else K).length≤c+1:=by
    by_cases hr:y.litres > 0
    ·rw[if_pos hr];exact P y hy
    ·rw[if_neg hr];exact⟨hK1,by omega⟩
   exact H7 hb0 R n _ G (c+1) h0 hR' k1.1 hG k1.2 (by omega)
theorem Gj (K0:List Claim){b0:Int}(hb0:0≤b0∧b0≤4398046511104)(G:List Claim):∀ (R A K:List Claim) (k c:Nat),G=A++R→A.length=k→nc b0 R→nc ((c:Int)*b0) K→K.length≤c→c+R.length≤32768→
  okI (nF (K0,G)) (qR (K0,G)) R.length k K∧aw (nF (K0,G)) R.length k K=.inr (R.foldl gb K)
 | [],A,K,k,c,hG,hk,hR,hK,hKl,hc=>⟨trivial,rfl⟩
 |y::R,A,K,k,c,hG,hk,hR,hK,hKl,hc=>by
  have hy:=hR y (by simp);simp only[List.length_cons]at hc;have hm:(K.length+1)*40≤dq:=by unfold dq;omega
  have g:G.getD k default=y:=by rw[hG];exact gV A y default R hk.symm
  have hcb:0≤(c:Int)*b0∧(c:Int)*b0≤144115188075855872:=by
   refine⟨Int.mul_nonneg (by omega) hb0.1,?_⟩;have h2:(c:Int)*b0≤32768*b0:=Int.mul_le_mul_of_nonneg_right (by omega) hb0.1;omega
  have e1:((c+1:Nat):Int)*b0=(c:Int)*b0+b0:=Qd c b0;obtain⟨p1,p2⟩:=Np K y hm (by omega) (fun z hz=>by have:=hK z hz;omega);obtain⟨p3,p4⟩:=Ak hcb.1 hy hK;obtain⟨q1,q2⟩:=Gj K0 hb0 G R (A++[y]) (gb K y) (k+1) (c+1) (by rw[hG];simp) (by simp[hk]) (fun z hz=>hR z (by simp[hz])) (by rw[e1];exact p3) (by omega) (by omega);simp only[List.length_cons,okI,aw,nF,qR,g,p2,List.foldl_cons];exact⟨⟨fun _=>p1,fun s h=>by cases h;exact q1⟩,q2⟩
theorem sX (l:List Claim)(f o n:Int){b0:Int}(hb0:0≤b0∧b0≤4398046511104)(hll:l.length≤8192)(h0:0≤n)(h1:n<4611686018427387904)(hl:nc b0 l):
  rz l f o n∧i6 l f o n=(gv f o l.reverse n [] []).2.foldl gb (gv f o l.reverse n [] []).1:=by
 have hr:nc b0 l.reverse:=fun y hy=>hl y (by simpa using hy);obtain⟨q1,q2⟩:=Nr l f o b0 hb0 hll (by unfold dq;omega) l.reverse [] n [] [] 0 (by simp) h0 h1 hr (fun y hy=>by cases hy) (by simp) (by simp);obtain⟨g1,g2,g3,g4⟩:=H7 (f:=f) (o:=o) hb0.1 l.reverse n [] [] 0 h0 hr (fun y hy=>by cases hy) (fun y hy=>by cases hy) (by simp) (by simp);simp only[List.length_reverse,Nat.zero_add]at q1 q2 g1 g3 g4;obtain⟨r1,r2⟩:=Gj (gv f o l.reverse n [] []).1 hb0 (gv f o l.reverse n [] []).2 (gv f o l.reverse n [] []).2 [] (gv f o l.reverse n [] []).1 0 l.length rfl rfl g2 g1 g3 (by omega);have w:i64.wrap ((l.length:Int) - 1)=(l.length:Int) - 1:=f6 (by omega) (by omega);unfold rz i6;rw[w,q2];refine⟨fun _=>⟨q1,fun z hz=>(by cases hz),fun r hr=>by cases hr;exact r1⟩,?_⟩;simp only;rw[r2]
abbrev Gk (l:List Claim):Prop:=l.Pairwise fun a b=>¬ (a.right=b.right∧a.farm=b.farm)
theorem Ji:∀ (S:List Claim) (i:Nat) (z:Claim),i<S.length→z.right=(S.getD i default).right→z.farm=(S.getD i default).farm→∀ r p,amt (S.set i z) r p=amt S r p+if z.right=r∧z.farm=p then z.litres - (S.getD i default).litres else 0
 | [],i,z,h,_,_,_,_=>absurd h (Nat.not_lt_zero _)
 |x::S,0,z,_,h1,h2,r,p=>by
  have e:(x::S).getD 0 default=x:=rfl;rw[e]at h1 h2 ⊢;rw[List.set_cons_zero,amt,amt,←h1,←h2];split <;>omega
 |x::S,i+1,z,h,h1,h2,r,p=>by
  have e:(x::S).getD (i+1) default=S.getD i default:=rfl;rw[e]at h1 h2 ⊢;rw[List.set_cons_succ,amt,amt,Ji S i z (by simpa using h) h1 h2 r p];omega
theorem Ns {S:List Claim}{i:Nat}{z:Claim}(hi:i<S.length)(h1:z.right=(S.getD i default).right)(h2:z.farm=(S.getD i default).farm)(hd:Gk S):Gk (S.set i z):=by
 rw[qe _ _ hi]at h1 h2;unfold Gk at hd ⊢;rw[List.pairwise_iff_getElem]at hd ⊢;intro a b ha hb hab;rw[List.length_set]at ha hb;rw[List.getElem_set,List.getElem_set];have h3:=hd a b ha hb hab;by_cases ea:i=a
 ·subst ea;rw[if_pos rfl,if_neg (by omega:¬i=b),h1,h2];exact h3
 ·by_cases eb:i=b
  ·subst eb;rw[if_neg ea,if_pos rfl,h1,h2];exact h3
  ·rw[if_neg ea,if_neg eb];exact h3
theorem Nt {S:List Claim}{z:Claim}(hd:Gk S)(h:∀ y∈S,¬ (y.right=z.right∧y.farm=z.farm)):Gk (S++[z]):=
 List.pairwise_append.2 ⟨hd,List.pairwise_singleton _ _,fun a ha b hb=>by rw[List.mem_singleton.1 hb];exact h a ha⟩
def gn (f:Int):List Claim→Int→Int→Int
 | [],_,_=>0
 |y::R,n,r=>if y.farm=f then(if y.right=r then bE n y.litres else 0)+gn f R (n - bE n y.litres) r else gn f R n r
theorem Nu {f o:Int}:∀ (R:List Claim) (n:Int) (K G:List Claim),0≤n→(∀ y∈R,0≤y.litres)→∀ r,amt (gv f o R n K G).2 r o=amt G r o+gn f R n r
 | [],n,K,G,_,_,r=>by simp[gv,gn]
 |y::R,n,K,G,h0,hR,r=>by
  have hy:=hR y (by simp);have hR':∀ z∈R,0≤z.litres:=fun z hz=>hR z (by simp[hz]);have hm:=oW (a:=n) (b:=y.litres);by_cases hf:y.farm=f
  ·rw[gv,if_pos hf,gn,if_pos hf,Nu R _ _ _ (by omega) hR'];by_cases hr:bE n y.litres > 0
   ·rw[if_pos hr,Aj,amt,amt];show _+((if y.right=r∧o=o then bE n y.litres else 0)+0)+_=_;simp only[and_true];omega
   ·rw[if_neg hr];split <;>omega
  ·rw[gv,if_neg hf,gn,if_neg hf,Nu R _ _ _ h0 hR']
theorem KK {x:Claim}{l:List Claim}(h:∀ y∈l,y.hour=x.hour)(hk:∀ y∈l,¬Cl x y)(hn:∀ y∈l.head?,¬tlt y x):(qx x l).Perm (x::l):=by
 cases l with
 |nil=>exact List.Perm.refl _
 |cons y r=>
  rw[qx];by_cases h1:aK x y=true
  ·rw[if_pos h1]
  ·exact absurd (Es (fun e=>h1 ((pP (h y (by simp)).symm).2 e)) (hn y (by simp))) (hk y (by simp))
theorem Gl {x:Claim}:∀ {l:List Claim},(∀ y∈l,y.hour=x.hour)→(∀ y∈l,¬Cl x y)→(gb l x).Perm (x::l)
 | [],_,_=>List.Perm.refl _
 |y::l,h,hk=>by
  rw[r8];by_cases h1:aK y x=true
  ·rw[if_pos h1];exact((Gl (fun z hz=>h z (by simp[hz])) fun z hz=>hk z (by simp[hz])).cons y).trans (List.Perm.swap x y l)
  ·rw[if_neg h1];refine KK h hk fun z hz=>?_;have:z=y:=by simpa using hz.symm
   subst this;exact fun e=>h1 ((pP (h z (by simp))).2 e)
theorem zF {α:Type}(S:List α)(d z:α){i j:Nat}(h:i≠j):(S.set i z).getD j d=S.getD j d:=by
 rw[List.getD_eq_getElem?_getD,List.getElem?_set_ne h,←List.getD_eq_getElem?_getD]
theorem zG {α:Type}(S:List α)(d z:α){i:Nat}(h:i<S.length):(S.set i z).getD i d=z:=by
 rw[List.getD_eq_getElem?_getD,List.getElem?_set_self h];rfl
structure Pile (ρ:Int→Int)(h b:Int)(S:List Claim):Prop where
 d:Gk S
 rk:∀ y∈S,y.rank=ρ y.right
 hr:∀ y∈S,y.hour=h
 lit:nc b S
section
variable {ρ:Int→Int}{h b b0:Int}
theorem Pile.set {S:List Claim}{i:Nat}{v:Int}(p:Pile ρ h b S)(hi:i<S.length)(hb:b≤b0)(hv:0≤v∧v≤b0):Pile ρ h b0 (S.set i (lH (S.getD i default) v))∧∀ r q,amt (S.set i (lH (S.getD i default) v)) r q=amt S r q+if(S.getD i default).right=r∧(S.getD i default).farm=q then v - (S.getD i default).litres else 0:=by
 have hm:S.getD i default∈S:=t_ S default hi;refine⟨⟨Ns hi rfl rfl p.d,fun y hy=>?_,fun y hy=>?_,fun y hy=>?_⟩,fun r q=>Ji S i (lH (S.getD i default) v) hi rfl rfl r q⟩
 ·rcases List.mem_or_eq_of_mem_set hy with hy|rfl
  ·exact p.rk y hy
  ·exact p.rk (S.getD i default) hm
 ·rcases List.mem_or_eq_of_mem_set hy with hy|rfl
  ·exact p.hr y hy
  ·exact p.hr (S.getD i default) hm
 ·rcases List.mem_or_eq_of_mem_set hy with hy|rfl
  ·have:=p.lit y hy;omega
  ·exact hv
theorem Pile.app {S:List Claim}{z:Claim}(p:Pile ρ h b S)(hb:b≤b0)(h1:z.rank=ρ z.right)(h2:z.hour=h)(h3:0≤z.litres∧z.litres≤b0)(hn:∀ y∈S,¬ (y.right=z.right∧y.farm=z.farm)):Pile ρ h b0 (S++[z])∧∀ r q,amt (S++[z]) r q=amt S r q+if z.right=r∧z.farm=q then z.litres else 0:=by
 refine⟨⟨Nt p.d hn,fun y hy=>?_,fun y hy=>?_,fun y hy=>?_⟩,fun r q=>by rw[Aj,amt,amt];omega⟩
 ·rcases List.mem_append.1 hy with hy|hy
  ·exact p.rk y hy
  ·rw[List.mem_singleton.1 hy];exact h1
 ·rcases List.mem_append.1 hy with hy|hy
  ·exact p.hr y hy
  ·rw[List.mem_singleton.1 hy];exact h2
 ·rcases List.mem_append.1 hy with hy|hy
  ·have:=p.lit y hy;omega
  ·rw[List.mem_singleton.1 hy];exact h3
theorem Dh:∀ {S:List Claim},Pile ρ h b S→(∀ y∈S,0<y.litres)→∃ m,S.Perm m∧Dock ρ h m
 | [],_,_=>⟨[],List.Perm.refl _,⟨List.Pairwise.nil,(fun y hy=>by cases hy),(fun y hy=>by cases hy),(fun y hy=>by cases hy)⟩⟩
 |x::S,p,hp=>by
  have hd:=List.pairwise_cons.1 p.d;obtain⟨m,q1,q2⟩:=Dh (S:=S) ⟨hd.2,fun y hy=>p.rk y (by simp[hy]),fun y hy=>p.hr y (by simp[hy]),fun y hy=>p.lit y (by simp[hy])⟩ fun y hy=>hp y (by simp[hy]);refine⟨gb m x,((q1.cons x).trans (Gl (fun y hy=>?_) fun y hy e=>?_).symm),(q2.put (hp x (by simp)) (p.rk x (by simp)) (p.hr x (by simp))).1⟩
  ·exact(q2.hr y hy).trans (p.hr x (by simp)).symm
  ·exact hd.1 y (q1.symm.subset hy) ⟨e.2.1,e.2.2⟩
theorem KL {S:List Claim}(p:Pile ρ h b S)(hl:S.length<2 ^ 46):b8 S∧Dock ρ h (cF S)∧∀ r q,amt (cF S) r q=amt S r q:=by
 have hs:(S.filter fun x=>!an x).Sublist S:=List.filter_sublist;obtain⟨m,q1,q2⟩:=Dh (S:=S.filter fun x=>!an x) ⟨p.d.sublist hs,fun y hy=>p.rk y (hs.subset hy),fun y hy=>p.hr y (hs.subset hy),fun y hy=>p.lit y (hs.subset hy)⟩ fun y hy=>by
  have h1:=p.lit y (hs.subset hy);have h2:=(List.mem_filter.1 hy).2;have h3:y.litres≠0:=fun e=>by unfold an at h2;rw[e]at h2;cases h2
  omega
 obtain⟨t1,t2⟩:=Er hl q1 q2.s;rw[t2];exact⟨t1,q2,fun r q=>by rw[←BP q1,xE]⟩
end
section
variable {ρ:Int→Int}{h b b0:Int}
theorem BQ {A g L:Int}{P:Prop}[Decidable P]{q f o:Int}(hfo:o≠f):A+(if P∧f=q then L - g - L else 0)+(if P∧o=q then g else 0)=A+(if P∧q=o then g else 0) - (if P∧q=f then g else 0):=by
 by_cases hP:P
 ·simp only[hP,true_and]
  repeat' split
  all_goals omega
 ·simp only[hP,false_and,if_false];omega
theorem H8 (S1:List Claim)(x:Judgement)(i:Nat)(hi:i<S1.length):
  bH S1 x S1 (i:Int)∧
  ((ai S1 x S1 (i:Int)= -1∧∀ y∈S1,¬ (y.right=(S1.getD i default).right∧y.farm=x.other))∨
   ∃ j,j<S1.length∧ai S1 x S1 (i:Int)=(j:Int)∧(S1.getD j default).right=(S1.getD i default).right∧(S1.getD j default).farm=x.other):=by
 have eP:∀ y:Claim,eE y x S1 (i:Int)=(y.farm==x.other&&y.right==(S1.getD i default).right):=fun y=>by
  unfold eE;rw[Int.toNat_natCast]
 refine⟨fun _=>mL _ _ _ fun j s _ _=>?_,?_⟩
 ·unfold bq gw;exact fun _=>⟨by omega,by omega⟩
 ·unfold ai;rcases yn (step:=bD S1 x S1 (i:Int)) S1 default (fun y=>eE y x S1 (i:Int)) (fun k _=>rfl)with⟨e,hN⟩ | ⟨K,z,T,h1,e,h2,h3⟩
  ·rw[e];refine .inl ⟨rfl,fun y hy hk=>?_⟩;have:=hN y hy;rw[eP,hk.1,hk.2]at this;simp at this
  ·rw[e];have g:S1.getD K.length default=z:=by rw[h1];exact gV K z default T rfl
   rw[eP]at h2;simp only[Bool.and_eq_true,beq_iff_eq]at h2;refine .inr ⟨K.length,by rw[h1];simp,rfl,by rw[g];exact h2.2,by rw[g];exact h2.1⟩
theorem KM (x:Judgement)(l:List Claim){S:List Claim}{i k:Nat}{n:Int}(hb:0≤b∧b+b0≤1152921504606846976)(hb0:0≤b0)(p:Pile ρ h b S)(hi:i<S.length)(hf:(S.getD i default).farm=x.farm)(hxo:x.other≠x.farm)(hn:0≤n∧n<4611686018427387904)(hy:(S.getD i default).litres≤b0)(hL:S.length≤32768):
  bR x l k ((i:Int),S,n)∧∃ S2,bp x l k ((i:Int),S,n)=.inr ((i:Int) - 1,S2,n - bE n (S.getD i default).litres)∧Pile ρ h (b+b0) S2∧S.length≤S2.length∧S2.length≤S.length+1∧
   (∀ j,j<i→(S2.getD j default).right=(S.getD j default).right∧(S2.getD j default).farm=(S.getD j default).farm∧((S.getD j default).farm=x.farm→(S2.getD j default).litres=(S.getD j default).litres))∧
   ∀ r q,amt S2 r q=amt S r q+(if(S.getD i default).right=r∧q=x.other then bE n (S.getD i default).litres else 0) - (if(S.getD i default).right=r∧q=x.farm then bE n (S.getD i default).litres else 0):=by
 have hm:=oW (a:=n) (b:=(S.getD i default).litres);have hY:S.getD i default∈S:=t_ S default hi;have hYl:=p.lit _ hY;generalize hg:bE n (S.getD i default).litres=g at *;have hg0:0≤g∧g≤b0:=by omega
 generalize hS1:S.set i (lH (S.getD i default) ((S.getD i default).litres - g))=S1;obtain⟨p1,a1⟩:=p.set (b0:=b) hi (Int.le_refl _) (v:=(S.getD i default).litres - g) (by omega);rw[hS1]at p1 a1;have hl1:S1.length=S.length:=by rw[←hS1,List.length_set]
 have g1:S1.getD i default=lH (S.getD i default) ((S.getD i default).litres - g):=by rw[←hS1];exact zG _ _ _ hi
 obtain⟨x1,x2⟩:=H8 S1 x i (by omega);generalize hI:ai S1 x S1 (i:Int)=I at x2;have e:decide ((i:Int)≥0)=true:=decide_eq_true (by omega);have ef:((S.getD i default).farm !=x.farm)=false:=by rw[hf];simp
 have w1:i64.wrap ((i:Int) - 1)=(i:Int) - 1:=f6 (by omega) (by omega);have w2:i64.wrap (n - g)=n - g:=f6 (by omega) (by omega);have w3:i64.wrap ((S.getD i default).litres - g)=(S.getD i default).litres - g:=f6 (by omega) (by omega);have e4:(if n< (S.getD i default).litres then n else(S.getD i default).litres)=g:=hg;have hSS:S.set i ({ right:=(S.getD i default).right,farm:=(S.getD i default).farm,hour:=(S.getD i default).hour,litres:=(S.getD i default).litres - g,rank:=(S.getD i default).rank}:Claim)=S1:=hS1;have hother:∀ j,j<i→S1.getD j default=S.getD j default:=fun j hj=>by rw[←hS1];exact zF _ _ _ (by omega)
 unfold bR bp;simp only[e,Int.toNat_natCast,ef,e4,w1,w2,w3,hSS,hI,cond_true,cond_false];rcases x2 with⟨hI1,hN⟩ | ⟨j,hj,hI2,hjr,hjf⟩
 ·have hd:decide (I≥0)=false:=decide_eq_false (by omega);simp only[hd,cond_false];obtain⟨p2,a2⟩:=p1.app (b0:=b+b0) (z:=yr (S1.getD i default) x.other g) (by omega) (p1.rk (S1.getD i default) (t_ S1 default (by omega))) (p1.hr (S1.getD i default) (t_ S1 default (by omega))) (by show 0≤g∧g≤b+b0;omega) fun y hy'=>hN y hy';refine⟨fun _=>⟨⟨by omega,by omega⟩,fun _=>⟨⟨by omega,by omega⟩,⟨by omega,by omega⟩,⟨by omega,by omega⟩,x1,fun h=>(by cases h),fun _=>⟨⟨by omega,by omega⟩,?_⟩⟩⟩,S1++[yr (S1.getD i default) x.other g],rfl,p2,?_,?_,fun q hq=>?_,fun r q=>?_⟩
  ·rw[List.length_append];simp only[List.length_cons,List.length_nil];unfold dq;omega
  ·rw[List.length_append];omega
  ·rw[List.length_append];simp only[List.length_cons,List.length_nil];omega
  ·have:(S1++[yr (S1.getD i default) x.other g]).getD q default=S.getD q default:=by
    rw[List.getD_eq_getElem?_getD,List.getElem?_append_left (by omega),←List.getD_eq_getElem?_getD,hother q hq]
   rw[this];exact⟨rfl,rfl,fun _=>rfl⟩
  ·rw[a2,a1,g1];show _+(if(S.getD i default).right=r∧x.other=q then g else 0)=_;rw[hf];exact BQ hxo
 ·have hd:decide (I≥0)=true:=decide_eq_true (by omega);have hz:=p1.lit _ (t_ S1 default hj);have w4:i64.wrap ((S1.getD j default).litres+g)=(S1.getD j default).litres+g:=f6 (by omega) (by omega);subst hI2;simp only[hd,cond_true,Int.toNat_natCast,w4];obtain⟨p2,a2⟩:=p1.set (b0:=b+b0) hj (by omega) (v:=(S1.getD j default).litres+g) (by omega);refine⟨fun _=>⟨⟨by omega,by omega⟩,fun _=>⟨⟨by omega,by omega⟩,⟨by omega,by omega⟩,⟨by omega,by omega⟩,x1,fun _=>⟨⟨by omega,by omega⟩,by omega,by omega⟩,fun h=>(by cases h)⟩⟩,S1.set j (lH (S1.getD j default) ((S1.getD j default).litres+g)),rfl,p2,?_,?_,fun q hq=>?_,fun r q=>?_⟩
  ·rw[List.length_set];omega
  ·rw[List.length_set];omega
  ·by_cases hjq:j=q
   ·subst hjq;rw[zG _ _ _ hj,←hother j hq];exact⟨rfl,rfl,fun e=>absurd (hjf.symm.trans e) hxo⟩
   ·rw[zF _ _ _ hjq,hother q hq];exact⟨rfl,rfl,fun _=>rfl⟩
  ·rw[a2,a1,hjr,hjf,g1];show _+_+(if(S.getD i default).right=r∧x.other=q then(S1.getD j default).litres+g - (S1.getD j default).litres else 0)=_;rw[hf,show(S1.getD j default).litres+g - (S1.getD j default).litres=g by omega];exact BQ hxo
end
section
variable {ρ:Int→Int}{h b0:Int}
theorem BR (x:Judgement)(l:List Claim)(hxo:x.other≠x.farm)(hb0:0≤b0∧b0≤4398046511104):∀ (R:List Claim) (c:Nat) (S:List Claim) (n:Int) (k:Nat),R.length≤S.length→
  (∀ j,j<R.length→(S.getD j default).right=(R.reverse.getD j default).right∧(S.getD j default).farm=(R.reverse.getD j default).farm∧((R.reverse.getD j default).farm=x.farm→(S.getD j default).litres=(R.reverse.getD j default).litres))→
  Pile ρ h ((c:Int)*b0) S→0≤n→n<4611686018427387904→nc b0 R→c+R.length≤16384→S.length+R.length≤32768→
  okI (bp x l) (bR x l) (R.length+1) k ((R.length:Int) - 1,S,n)∧∃ S',aw (bp x l) (R.length+1) k ((R.length:Int) - 1,S,n)=.inl S'∧Pile ρ h (((c+R.length:Nat):Int)*b0) S'∧S'.length≤S.length+R.length∧
   ∀ r q,amt S' r q=amt S r q+(if q=x.other then gn x.farm R n r else 0) - (if q=x.farm then gn x.farm R n r else 0)
 | [],c,S,n,k,_,_,p,h0,h1,_,_,_=>by
  have e:decide (((0:Nat):Int) - 1≥0)=false:=decide_eq_false (by omega);simp only[List.length_nil,okI,aw,bp,bR,e,cond_false];refine⟨⟨fun h=>(by cases h),fun s h=>(by cases h)⟩,S,rfl,p,Nat.le_refl _,fun r q=>?_⟩;simp[gn]
 |y::R,c,S,n,k,hl,hS,p,h0,h1,hR,hc,hL=>by
  simp only[List.length_cons]at hl hc hL;have hy:=hR y (by simp);have hR':nc b0 R:=fun z hz=>hR z (by simp[hz]);have hlast:(y::R).reverse.getD R.length default=y:=by rw[List.reverse_cons];exact gV R.reverse y default [] (by simp)
  have hprev:∀ j,j<R.length→(y::R).reverse.getD j default=R.reverse.getD j default:=fun j hj=>by
   rw[List.reverse_cons,List.getD_eq_getElem?_getD,List.getElem?_append_left (by simpa using hj),←List.getD_eq_getElem?_getD]
  obtain⟨s1,s2,s3⟩:=hS R.length (by simp);rw[hlast]at s1 s2 s3;have hi:(((y::R).length:Nat):Int) - 1=(R.length:Int):=by simp
  have e1:((c+1:Nat):Int)*b0=(c:Int)*b0+b0:=Qd c b0;have hcb:0≤(c:Int)*b0∧(c:Int)*b0≤72057594037927936:=by
   refine⟨Int.mul_nonneg (by omega) hb0.1,?_⟩;have h2:(c:Int)*b0≤16384*b0:=Int.mul_le_mul_of_nonneg_right (by omega) hb0.1;omega
  rw[hi];simp only[List.length_cons];rw[okI,aw,show c+(R.length+1)=c+1+R.length by omega];by_cases hf:y.farm=x.farm
  ·obtain⟨t1,S2,t2,t3,t4,t5,t6,t7⟩:=KM (k:=k) x l (i:=R.length) (n:=n) ⟨hcb.1,by omega⟩ hb0.1 p (by omega) (by rw[s2,hf]) hxo ⟨h0,h1⟩ (by rw[s3 hf];exact hy.2) (by omega);have hm:=oW (a:=n) (b:=(S.getD R.length default).litres);have hyl:=s3 hf;rw[hyl]at t2 t7 hm;obtain⟨q1,S',q2,q3,q4,q5⟩:=BR x l hxo hb0 R (c+1) S2 (n - bE n y.litres) (k+1) (by omega) (fun j hj=>by
    obtain⟨u1,u2,u3⟩:=t6 j hj;obtain⟨v1,v2,v3⟩:=hS j (by simp only[List.length_cons];omega);rw[hprev j hj]at v1 v2 v3;exact⟨u1.trans v1,u2.trans v2,fun e=>(u3 (v2.trans e)).trans (v3 e)⟩) (by rw[e1];exact t3) (by omega) (by omega) hR' (by omega) (by omega)
   rw[t2];refine⟨⟨t1,fun s hs=>by cases hs;exact q1⟩,S',q2,q3,by omega,fun r q=>?_⟩;rw[q5,t7,gn,if_pos hf,s1];by_cases hr:y.right=r
   ·simp only[hr,true_and,if_true]
    repeat' split
    all_goals omega
   ·simp only[hr,false_and,if_false]
    repeat' split
    all_goals omega
  ·have e:decide ((R.length:Int)≥0)=true:=decide_eq_true (by omega);have ef:((S.getD R.length default).farm !=x.farm)=true:=by rw[s2];simpa using hf
   have w1:i64.wrap ((R.length:Int) - 1)=(R.length:Int) - 1:=f6 (by omega) (by omega);have hp2:Pile ρ h (((c+1:Nat):Int)*b0) S:=⟨p.d,p.rk,p.hr,fun z hz=>by rw[e1];have:=p.lit z hz;omega⟩;obtain⟨q1,S',q2,q3,q4,q5⟩:=BR x l hxo hb0 R (c+1) S n (k+1) (by omega) (fun j hj=>by
    have:=hS j (by simp only[List.length_cons];omega)
    rwa[hprev j hj]at this) hp2 h0 h1 hR' (by omega) (by omega)
   simp only[bp,bR,e,Int.toNat_natCast,ef,w1,cond_true];refine⟨⟨fun _=>⟨⟨by omega,by omega⟩,fun h=>(by cases h)⟩,fun s hs=>by cases hs;exact q1⟩,S',q2,q3,by omega,fun r q=>?_⟩;rw[q5,gn,if_neg hf]
end
section
variable {ρ:Int→Int}{h b0:Int}
theorem Dock.pile {l:List Claim}(d:Dock ρ h l)(hb:nc b0 l):Pile ρ h b0 l:=by
 refine⟨?_,d.rk,d.hr,hb⟩;unfold Gk;rw[List.pairwise_iff_getElem];intro i j hi hj hij e;have:=List.pairwise_iff_getElem.1 d.s i j hi hj hij;exact H6 this (d.rk _ (List.getElem_mem hi)) (d.rk _ (List.getElem_mem hj)) ⟨e.1.symm,e.2.symm⟩
theorem Jj (x:Judgement)(l:List Claim)(hxo:x.other≠x.farm)(hb0:0≤b0∧b0≤4398046511104)(d:Dock ρ h l)(hb:nc b0 l)(hl:l.length≤8192)(h0:0≤x.n)(h1:x.n<4611686018427387904):
  (cJ x l∧b8 (ca x l)∧rz l x.farm x.other x.n)∧cF (ca x l)=i6 l x.farm x.other x.n∧Dock ρ h (i6 l x.farm x.other x.n):=by
 have hbr:nc b0 l.reverse:=fun y hy=>hb y (by simpa using hy);have hp:Pile ρ h (((1:Nat):Int)*b0) l:=by
  have:=d.pile hb
  rwa[show((1:Nat):Int)*b0=b0 by simp]
 obtain⟨q1,S',q2,q3,q4,q5⟩:=BR x l hxo hb0 l.reverse 1 l x.n 0 (by simp) (fun j _=>by rw[List.reverse_reverse];exact⟨rfl,rfl,fun _=>rfl⟩) hp h0 h1 hbr (by rw[List.length_reverse];omega) (by rw[List.length_reverse];omega);rw[List.length_reverse]at q1 q2 q4;have w:i64.wrap ((l.length:Int) - 1)=(l.length:Int) - 1:=f6 (by omega) (by omega);have eG:ca x l=S':=by unfold ca;rw[w,q2]
 have gp:cJ x l:=by
  unfold cJ;rw[w,q2];exact fun _=>⟨q1,fun z hz=>by cases hz⟩
 obtain⟨t1,t2,t3⟩:=KL q3 (by omega);obtain⟨r1,r2⟩:=sX l x.farm x.other x.n hb0 hl h0 h1 hb;have dn:Dock ρ h ([]:List Claim):=⟨List.Pairwise.nil,(fun y hy=>by cases hy),(fun y hy=>by cases hy),(fun y hy=>by cases hy)⟩;have gnil:Gift ρ h x.other ([]:List Claim):=⟨(fun y hy=>by cases hy),(fun y hy=>by cases hy),(fun y hy=>by cases hy),(fun y hy=>by cases hy)⟩;obtain⟨v1,v2,v3⟩:=Et (f:=x.farm) (o:=x.other) l.reverse x.n [] [] h0 (fun y hy=>by
  have hy':y∈l:=by simpa using hy
  exact⟨d.rk y hy',d.hr y hy',(hb y hy').1⟩) dn gnil
 have v4:=Nu (f:=x.farm) (o:=x.other) l.reverse x.n [] [] h0 fun y hy=>(hbr y hy).1;obtain⟨z1,z2⟩:=Eu _ _ v1 v2;rw[eG,r2];refine⟨⟨gp,t1,r1⟩,zc t2 z1 fun r q=>?_,z1⟩;rw[t3,q5,z2];have a1:=v3 r q;rw[v4,BP l.reverse_perm]at a1;have a2:amt (gv x.farm x.other l.reverse x.n [] []).2 r q=if q=x.other then gn x.farm l.reverse x.n r else 0:=by
  by_cases hq:q=x.other
  ·subst hq;rw[if_pos rfl,v4];simp[amt]
  ·rw[if_neg hq];exact yq fun y hy e=>hq (by rw[←e.2,v2.fm y hy])
 rw[a2];simp only[amt]at a1;by_cases hq:q=x.farm
 ·rw[if_pos hq]at a1 ⊢;omega
 ·rw[if_neg hq]at a1 ⊢;simp only[ite_self,if_neg hq]at a1;omega
end
def doJ (x:Judgement)(l:List Claim):List Claim:=if x.kind=1 then eI l x.farm 0 else if x.kind=2 then eI l x.farm x.n else if x.kind=3 then i6 l x.farm x.other x.n else l
section
variable {ρ:Int→Int}{h b0:Int}
theorem Dock.tidy_id {l:List Claim}(d:Dock ρ h l)(hl:l.length<2 ^ 46):b8 l∧cF l=l:=by
 have e:(l.filter fun x=>!an x)=l:=List.filter_eq_self.2 fun y hy=>by
  have:=d.pos y hy;unfold an;simp;omega
 exact Er hl (by rw[e]) d.s
theorem we (f:Int):∀ (l:List Claim) (n:Int),∀ z∈nG f n l,∃ y∈l,z.rank=y.rank∧z.right=y.right∧z.hour=y.hour
 | [],_,z,hz=>by cases hz
 |x::r,n,z,hz=>by
  unfold nG at hz;by_cases hf:x.farm=f
  ·rw[if_pos hf]at hz;rcases List.mem_cons.1 hz with rfl|hz
   ·exact⟨x,by simp,rfl,rfl,rfl⟩
   ·obtain⟨y,hy,e⟩:=we f r _ z hz;exact⟨y,by simp[hy],e⟩
  ·rw[if_neg hf]at hz;rcases List.mem_cons.1 hz with rfl|hz
   ·exact⟨z,by simp,rfl,rfl,rfl⟩
   ·obtain⟨y,hy,e⟩:=we f r _ z hz;exact⟨y,by simp[hy],e⟩
theorem BS {x:Judgement}{l:List Claim}(d:Dock ρ h l)(h0:0≤x.n)(h1:x.n<4611686018427387904)(hl:Lit l)(hb:l.length*40≤dq):Dock ρ h (eI l x.farm x.n):=by
 obtain⟨_,_,e⟩:=r7 x l h0 h1 hl d.s hb;have hs:((nG x.farm x.n l).filter fun y=>!an y).Sublist (nG x.farm x.n l):=List.filter_sublist;have hL:=yo x.farm l x.n h0 hl;rw[e];refine⟨(Gg (yp x.farm l x.n) d.s).sublist hs,fun z hz=>?_,fun z hz=>?_,fun z hz=>?_⟩
 ·obtain⟨y,hy,e1,e2,_⟩:=we x.farm l x.n z (hs.subset hz);rw[e1,e2];exact d.rk y hy
 ·obtain⟨y,hy,_,_,e3⟩:=we x.farm l x.n z (hs.subset hz);rw[e3];exact d.hr y hy
 ·have h2:=hL.1 z (hs.subset hz);have h3:=(List.mem_filter.1 hz).2;have h4:z.litres≠0:=fun e=>by unfold an at h3;rw[e]at h3;cases h3
  omega
theorem KN {dd:District}{x:Judgement}(hx:JOk dd x)(h0:x.of_=0){l:List Claim}(hb0:0≤b0∧b0≤4398046511104)(d:Dock ρ h l)(hb:nc b0 l)(hl:l.length≤8192)(a2:List Judgement)(s_0:List Claim×List Claim):
  aT a2 s_0 x l=.inr (doJ x l)∧co a2 s_0 x l∧Dock ρ h (doJ x l):=by
 have hL:Lit l:=fun y hy=>by have:=hb y hy;omega
 have hmB:l.length*40≤dq:=by unfold dq;omega
 have hk:=hx.kind h0;have hn:0≤x.n∧x.n<4611686018427387904:=by
  by_cases hk1:x.kind=1
  ·rw[hx.none hk1];omega
  ·have:=hx.n hk1 h0;omega
 unfold aT co doJ;by_cases k1:x.kind=1
 ·obtain⟨⟨p1,p2,p3⟩,e1,_⟩:=r7 x l hn.1 hn.2 hL d.s hmB;have d1:=BS d hn.1 hn.2 hL hmB;rw[show(x.kind==1)=true by simpa using k1,if_pos k1,e1];rw[hx.none k1]at d1 ⊢;exact⟨rfl,⟨fun _=>⟨p1,p2⟩,(fun h=>by cases h)⟩,d1⟩
 ·rw[show(x.kind==1)=false by simpa using k1,if_neg k1];by_cases k2:x.kind=2
  ·obtain⟨⟨p1,p2,p3⟩,e1,_⟩:=r7 x l hn.1 hn.2 hL d.s hmB;rw[show(x.kind==2)=true by simpa using k2,if_pos k2,e1];exact⟨rfl,⟨(fun h=>by cases h),fun _=>⟨fun _=>⟨p1,p2⟩,(fun h=>by cases h)⟩⟩,BS d hn.1 hn.2 hL hmB⟩
  ·rw[show(x.kind==2)=false by simpa using k2,if_neg k2];by_cases k3:x.kind=3
   ·obtain⟨⟨p1,p2,p3⟩,e1,d1⟩:=Jj x l (hx.other (by omega)).2.2 hb0 d hb hl hn.1 hn.2;rw[show(x.kind==3)=true by simpa using k3,if_pos k3,e1];exact⟨rfl,⟨(fun h=>by cases h),fun _=>⟨(fun h=>by cases h),fun _=>⟨fun _=>⟨p1,p2⟩,(fun h=>by cases h)⟩⟩⟩,d1⟩
   ·have k4:x.kind=4:=by omega
    obtain⟨t1,t2⟩:=d.tidy_id (by omega);rw[show(x.kind==3)=false by simpa using k3,if_neg k3,show(x.kind==4)=true by simpa using k4,t2];exact⟨rfl,⟨(fun h=>by cases h),fun _=>⟨(fun h=>by cases h),fun _=>⟨(fun h=>by cases h),fun _=>⟨fun _=>t1,(fun h=>by cases h)⟩⟩⟩⟩,d⟩
end
theorem zd (j:List Judgement)(x:Judgement)(h:Int):((((x.of_==0)&&(decide (x.hour≤h)))&&(aG h x.since x.to))&&(!(dY j x h)))=bh j x h:=by
 unfold bh;rw[M5,Q7];cases(x.of_==0) <;>cases decide (x.hour≤h) <;>cases decide (x.since≤h) <;>cases decide (h≤x.to) <;>rfl
theorem sY (j:List Judgement)(h:Int):∀ (R A:List Judgement) (k:Nat) (s:List Judgement),j=A++R→A.length=k→aw (cV j h) R.length k s=.inr (s++R.filter fun x=>bh j x h)
 | [],A,k,s,_,_=>by simp[aw]
 |y::R,A,k,s,hj,hk=>by
  have g:j.getD k default=y:=by rw[hj];exact gV A y default R hk.symm
  simp only[List.length_cons,aw,cV,g,zd];have hj':j=(A++[y])++R:=by rw[hj];simp
  cases hc:bh j y h with
  |true=>
   simp only[cond_true];rw[sY j h R (A++[y]) (k+1) _ hj' (by simp[hk]),List.filter_cons_of_pos (by exact hc)];simp
  |false=>
   simp only[cond_false];rw[sY j h R (A++[y]) (k+1) _ hj' (by simp[hk]),List.filter_cons_of_neg (by rw[hc];simp)]
theorem kf (j:List Judgement)(h:Int):az j h=j.filter fun x=>bh j x h:=by
 unfold az;rw[sY j h j [] 0 [] rfl rfl];rfl
theorem uO {j:List Judgement}{x:Judgement}{h:Int}(hx:bh j x h=true):x.of_=0:=by
 unfold bh at hx;simp only[Bool.and_eq_true]at hx;simpa using hx.1.1.1.1
theorem Di (j:List Judgement)(h:Int)(x:Judgement)(k:Nat)(s:List Claim)(g:j.getD k default=x):kP j h k s=.inr (if bh j x h=true then doJ x s else s):=by
 unfold kP doJ;rw[g];cases hc:bh j x h with
 |false=>rfl
 |true=>
  simp only[Bool.not_true,cond_false,if_true];by_cases k1:x.kind=1
  ·rw[show(x.kind==1)=true by simpa using k1,if_pos k1];rfl
  ·rw[show(x.kind==1)=false by simpa using k1,if_neg k1];by_cases k2:x.kind=2
   ·rw[show(x.kind==2)=true by simpa using k2,if_pos k2];rfl
   ·rw[show(x.kind==2)=false by simpa using k2,if_neg k2];by_cases k3:x.kind=3
    ·rw[show(x.kind==3)=true by simpa using k3,if_pos k3];rfl
    ·rw[show(x.kind==3)=false by simpa using k3,if_neg k3];rfl
theorem Gm (j:List Judgement)(h:Int):∀ (R A:List Judgement) (k:Nat) (s:List Claim),j=A++R→A.length=k→aw (kP j h) R.length k s=.inr ((R.filter fun x=>bh j x h).foldl (fun s x=>doJ x s) s)
 | [],A,k,s,_,_=>by simp[aw]
 |y::R,A,k,s,hj,hk=>by
  have g:j.getD k default=y:=by rw[hj];exact gV A y default R hk.symm
  have hj':j=(A++[y])++R:=by rw[hj];simp
  simp only[List.length_cons,aw,Di j h y k s g];rw[Gm j h R (A++[y]) (k+1) _ hj' (by simp[hk])];cases hc:bh j y h with
  |true=>rw[List.filter_cons_of_pos (by exact hc)];rfl
  |false=>rw[List.filter_cons_of_neg (by rw[hc];simp)];rfl
theorem Qe (l:List Claim)(j:List Judgement)(h:Int):pK l j h=(az j h).foldl (fun s x=>doJ x s) l:=by
 unfold pK;rw[Gm j h j [] 0 l rfl rfl,kf]
def tot:List Claim→Int
 | [] =>0
 |x::l=>x.litres+tot l
theorem Al:∀ l m:List Claim,tot (l++m)=tot l+tot m
 | [],m=>by simp[tot]
 |x::l,m=>by rw[List.cons_append,tot,tot,Al l m];omega
theorem uP:∀ l:List Claim,tot (l.filter fun x=>!an x)=tot l
 | [] =>rfl
 |x::l=>by
  by_cases hx:x.litres=0
  ·rw[List.filter_cons_of_neg (by unfold an;simp[hx]),uP l,tot,hx];omega
  ·rw[List.filter_cons_of_pos (by unfold an;simp[hx]),tot,tot,uP l]
theorem Nv:∀ {l:List Claim},(∀ y∈l,0≤y.litres)→0≤tot l
 | [],_=>by simp[tot]
 |x::l,h=>by have:=h x (by simp);have:=Nv fun y hy=>h y (List.mem_cons_of_mem _ hy);rw[tot];omega
theorem Nw:∀ {l:List Claim},(∀ y∈l,0≤y.litres)→∀ y∈l,y.litres≤tot l
 | [],_,y,hy=>by cases hy
 |x::l,h,y,hy=>by
  have hx:=h x (by simp);have hl:∀ y∈l,0≤y.litres:=fun y hy=>h y (List.mem_cons_of_mem _ hy);rw[tot];rcases List.mem_cons.1 hy with rfl|hy
  ·have:=Nv hl;omega
  ·have:=Nw hl y hy;omega
theorem Gn (x:Claim):∀ l:List Claim,tot (qx x l)=tot l+x.litres
 | [] =>by simp[qx,tot]
 |y::r=>by
  rw[qx];split
  ·simp only[tot];omega
  ·simp only[tot,lH];omega
theorem yu (x:Claim):∀ l:List Claim,tot (gb l x)=tot l+x.litres
 | [] =>Gn x []
 |y::l=>by
  rw[r8];split
  ·rw[tot,yu x l,tot];omega
  ·exact Gn x (y::l)
theorem Gp {x z:Claim}:∀ {l:List Claim},z∈qx x l→(z.right=x.right∧z.farm=x.farm)∨z∈l
 | [],h=>by
  have:z=x:=by simpa[qx]using h
  subst this;exact .inl ⟨rfl,rfl⟩
 |y::r,h=>by
  rw[qx]at h;split at h
  ·rcases List.mem_cons.1 h with rfl|h
   ·exact .inl ⟨rfl,rfl⟩
   ·exact .inr h
  ·rcases List.mem_cons.1 h with rfl|h
   ·exact .inl ⟨rfl,rfl⟩
   ·exact .inr (List.mem_cons_of_mem _ h)
theorem wg {x z:Claim}:∀ {l:List Claim},z∈gb l x→(z.right=x.right∧z.farm=x.farm)∨z∈l
 | [],h=>Gp (l:=[]) h
 |y::l,h=>by
  rw[r8]at h;split at h
  ·rcases List.mem_cons.1 h with rfl|h
   ·exact .inr (by simp)
   ·rcases wg h with h|h
    ·exact .inl h
    ·exact .inr (List.mem_cons_of_mem _ h)
  ·exact Gp h
theorem Gq (x:Claim):∀ l:List Claim,(qx x l).length≤l.length+1
 | [] =>by simp[qx]
 |y::r=>by rw[qx];split <;>simp
theorem yw (x:Claim):∀ l:List Claim,(gb l x).length≤l.length+1
 | [] =>Gq x []
 |y::l=>by
  rw[r8];split
  ·have:=yw x l;simp only[List.length_cons];omega
  ·exact Gq x (y::l)
def PlC (R F:Int)(y:Claim):Prop:=(0≤y.right∧y.right<R)∧0≤y.farm∧y.farm<F
theorem Am {f o R F:Int}(ho:0≤o∧o<F):∀ (S:List Claim) (n:Int) (K G:List Claim),0≤n→(∀ y∈S,0≤y.litres∧PlC R F y)→(∀ y∈K,PlC R F y)→(∀ y∈G,PlC R F y)→
  tot (gv f o S n K G).1+tot (gv f o S n K G).2=tot K+tot S+tot G∧(∀ y∈(gv f o S n K G).1,PlC R F y)∧(∀ y∈(gv f o S n K G).2,PlC R F y)∧
  (gv f o S n K G).1.length≤K.length+S.length∧(gv f o S n K G).2.length≤G.length+(S.filter fun y=>y.farm==f).length
 | [],n,K,G,_,_,hK,hG=>by
  simp only[gv,tot];exact⟨by omega,hK,hG,by simp,by simp⟩
 |y::S,n,K,G,h0,hS,hK,hG=>by
  have hy:=hS y (by simp);have hS':∀ z∈S,0≤z.litres∧PlC R F z:=fun z hz=>hS z (by simp[hz]);have hm:=oW (a:=n) (b:=y.litres);have hm0:0≤bE n y.litres:=by omega
  have hput:∀ z:Claim,PlC R F z→∀ w∈gb K z,PlC R F w:=fun z hz w hw=>by
   rcases wg hw with⟨e1,e2⟩ |hw
   ·unfold PlC;rw[e1,e2];exact hz
   ·exact hK w hw
  by_cases hf:y.farm=f
  ·rw[gv,if_pos hf,List.filter_cons_of_pos (by simpa using hf)];have k1:tot (if y.litres - bE n y.litres > 0 then gb K (lH y (y.litres - bE n y.litres))else K)=tot K+(y.litres - bE n y.litres)∧(∀ z∈(if y.litres - bE n y.litres > 0 then gb K (lH y (y.litres - bE n y.litres))else K),PlC R F z)∧(if y.litres - bE n y.litres > 0 then gb K (lH y (y.litres - bE n y.litres))else K).length≤K.length+1:=by
    by_cases hr:y.litres - bE n y.litres > 0
    ·rw[if_pos hr];exact⟨yu _ _,hput _ hy.2,yw _ _⟩
    ·rw[if_neg hr];exact⟨by omega,hK,by omega⟩
   have k2:tot (if bE n y.litres > 0 then G++[yr y o (bE n y.litres)]else G)=tot G+bE n y.litres∧(∀ z∈(if bE n y.litres > 0 then G++[yr y o (bE n y.litres)]else G),PlC R F z)∧(if bE n y.litres > 0 then G++[yr y o (bE n y.litres)]else G).length≤G.length+1:=by
    by_cases hr:bE n y.litres > 0
    ·rw[if_pos hr];refine⟨by rw[Al];simp[tot,yr],fun z hz=>?_,by simp⟩;rcases List.mem_append.1 hz with hz|hz
     ·exact hG z hz
     ·rw[List.mem_singleton.1 hz];exact⟨hy.2.1,ho⟩
    ·rw[if_neg hr];exact⟨by omega,hG,by omega⟩
   obtain⟨q1,q2,q3,q4,q5⟩:=Am ho S (n - bE n y.litres) _ _ (by omega) hS' k1.2.1 k2.2.1;refine⟨?_,q2,q3,?_,?_⟩
   ·rw[q1,k1.1,k2.1,tot];omega
   ·have:=k1.2.2;simp only[List.length_cons];omega
   ·have:=k2.2.2;simp only[List.length_cons];omega
  ·rw[gv,if_neg hf,List.filter_cons_of_neg (by simpa using hf)];have k1:tot (if y.litres > 0 then gb K y else K)=tot K+y.litres∧(∀ z∈(if y.litres > 0 then gb K y else K),PlC R F z)∧(if y.litres > 0 then gb K y else K).length≤K.length+1:=by
    by_cases hr:y.litres > 0
    ·rw[if_pos hr];exact⟨yu _ _,hput _ hy.2,yw _ _⟩
    ·rw[if_neg hr];exact⟨by omega,hK,by omega⟩
   obtain⟨q1,q2,q3,q4,q5⟩:=Am ho S n _ G h0 hS' k1.2.1 hG;refine⟨?_,q2,q3,?_,q5⟩
   ·rw[q1,k1.1,tot];omega
   ·have:=k1.2.2;simp only[List.length_cons];omega
theorem zf {R F:Int}:∀ (G K:List Claim),(∀ y∈K,PlC R F y)→(∀ y∈G,PlC R F y)→tot (G.foldl gb K)=tot K+tot G∧(∀ y∈G.foldl gb K,PlC R F y)∧(G.foldl gb K).length≤K.length+G.length
 | [],K,hK,_=>⟨by simp[tot],hK,by simp⟩
 |x::G,K,hK,hG=>by
  obtain⟨p1,p2,p3⟩:=zf G (gb K x) (fun w hw=>by
   rcases wg hw with⟨e1,e2⟩ |hw
   ·unfold PlC;rw[e1,e2];exact hG x (by simp)
   ·exact hK w hw) fun y hy=>hG y (by simp[hy])
  rw[List.foldl_cons];refine⟨?_,p2,?_⟩
  ·rw[p1,yu,tot];omega
  ·have:=yw x K;simp only[List.length_cons];omega
theorem wB (f:Int){R F:Int}:∀ (l:List Claim) (n:Int),0≤n→(∀ y∈l,0≤y.litres∧PlC R F y)→tot (nG f n l)≤tot l∧(∀ y∈nG f n l,PlC R F y)∧(nG f n l).length=l.length
 | [],n,_,_=>⟨by simp[nG],(fun y hy=>by simp[nG]at hy),rfl⟩
 |x::r,n,h0,hl=>by
  have hx:=hl x (by simp);have hm:=oW (a:=n) (b:=x.litres);have hl':∀ y∈r,0≤y.litres∧PlC R F y:=fun y hy=>hl y (by simp[hy]);unfold nG;by_cases hf:x.farm=f
  ·rw[if_pos hf];obtain⟨p1,p2,p3⟩:=wB f r (n - bE n x.litres) (by omega) hl';refine⟨?_,fun y hy=>?_,by simp[p3]⟩
   ·simp only[tot,lH];omega
   ·rcases List.mem_cons.1 hy with rfl|hy
    ·exact hx.2
    ·exact p2 y hy
  ·rw[if_neg hf];obtain⟨p1,p2,p3⟩:=wB f r n h0 hl';refine⟨?_,fun y hy=>?_,by simp[p3]⟩
   ·simp only[tot];omega
   ·rcases List.mem_cons.1 hy with rfl|hy
    ·exact hx.2
    ·exact p2 y hy
theorem zH:∀ (N:Nat) (l:List Nat),l.Nodup→(∀ x∈l,x<N)→l.length≤N
 |0,[],_,_=>by simp
 |0,x::l,_,h=>absurd (h x (by simp)) (Nat.not_lt_zero _)
 |N+1,l,hn,h=>by
  have h2:=zH N (l.erase N) (hn.erase N) fun x hx=>by
   have:=hn.mem_erase_iff.1 hx;have:=h x this.2;omega
  by_cases hm:N∈l
  ·rw[List.length_erase_of_mem hm]at h2;omega
  ·rw[List.erase_of_not_mem hm]at h2;omega
section
variable {ρ:Int→Int}{h:Int}
structure InvD (ρ:Int→Int)(h R F B:Int)(N:Nat)(l:List Claim):Prop where
 d:Dock ρ h l
 pl:∀ y∈l,PlC R F y
 tt:tot l≤B
 len:l.length≤N
variable {R F B:Int}{N:Nat}
theorem InvD.lit {l:List Claim}(i:InvD ρ h R F B N l):nc B l:=fun y hy=>by
 have h1:=i.d.pos y hy;have h2:=Nw (fun z hz=>by have:=i.d.pos z hz;omega) y hy;have h3:=i.tt;omega
theorem InvD.few {l:List Claim}(i:InvD ρ h R F B N l)(hR:R≤256)(f:Int):(l.filter fun y=>y.farm==f).length≤256:=by
 have hd:Gk l:=(i.d.pile i.lit).d;have h1:((l.filter fun y=>y.farm==f).map fun y=>y.right.toNat).Nodup:=by
  refine List.pairwise_map.2 ((List.Pairwise.sublist List.filter_sublist hd).imp_of_mem fun {a b} ha hb hab=>?_);have a1:=List.mem_filter.1 ha;have b1:=List.mem_filter.1 hb;have a2:a.farm=f:=by simpa using a1.2
  have b2:b.farm=f:=by simpa using b1.2
  have a3:=(i.pl a a1.1).1;have b3:=(i.pl b b1.1).1;intro e;exact hab ⟨by omega,by rw[a2,b2]⟩
 have h2:=zH 256 _ h1 fun x hx=>by
  obtain⟨y,hy,rfl⟩:=List.mem_map.1 hx;have:=(i.pl y (List.mem_filter.1 hy).1).1;omega
 simpa using h2
theorem InvD.step {dd:District}{x:Judgement}(hx:JOk dd x)(h0:x.of_=0){l:List Claim}(i:InvD ρ h R F B N l)(hR:R≤256)(hF:(dd.farms.length:Int)=F)(hB:0≤B∧B≤4398046511104)(hN:N≤8192)(a2:List Judgement)(s_0:List Claim×List Claim):
  aT a2 s_0 x l=.inr (doJ x l)∧co a2 s_0 x l∧InvD ρ h R F B (N+256) (doJ x l):=by
 have hlen:=i.len;obtain⟨e1,e2,e3⟩:=KN hx h0 hB i.d i.lit (by omega) a2 s_0;have hb:=i.lit;have hL:Lit l:=fun y hy=>by have:=hb y hy;omega
 have hmB:l.length*40≤dq:=by unfold dq;omega
 have hp:∀ y∈l,0≤y.litres∧PlC R F y:=fun y hy=>⟨(hb y hy).1,i.pl y hy⟩;have hk:=hx.kind h0;have hn:0≤x.n∧x.n<4611686018427387904:=by
  by_cases hk1:x.kind=1
  ·rw[hx.none hk1];omega
  ·have:=hx.n hk1 h0;omega
 refine⟨e1,e2,e3,?_,?_,?_⟩ <;>unfold doJ;all_goals
  have kl:∀ n:Int,n=x.n→tot (eI l x.farm n)≤B∧(∀ y∈eI l x.farm n,PlC R F y)∧(eI l x.farm n).length≤N+256:=fun n e=>by
   subst e;obtain⟨_,_,e⟩:=r7 x l hn.1 hn.2 hL i.d.s hmB;obtain⟨q1,q2,q3⟩:=wB x.farm l x.n hn.1 hp;rw[e];refine⟨?_,fun y hy=>q2 y (List.mem_filter.1 hy).1,?_⟩
   ·rw[uP];have:=i.tt;omega
   ·have:=List.length_filter_le (fun y=>!an y) (nG x.farm x.n l);omega
  have kg:x.kind=3→tot (i6 l x.farm x.other x.n)≤B∧(∀ y∈i6 l x.farm x.other x.n,PlC R F y)∧(i6 l x.farm x.other x.n).length≤N+256:=fun hk3=>by
   have ho:=hx.other (by omega);obtain⟨_,e⟩:=sX l x.farm x.other x.n hB (by omega) hn.1 hn.2 hb;obtain⟨q1,q2,q3,q4,q5⟩:=Am (R:=R) (F:=F) (f:=x.farm) (o:=x.other) ⟨ho.1,by omega⟩ l.reverse x.n [] [] hn.1 (fun y hy=>hp y (by simpa using hy)) (fun y hy=>by cases hy) (fun y hy=>by cases hy);obtain⟨p1,p2,p3⟩:=zf (R:=R) (F:=F) (gv x.farm x.other l.reverse x.n [] []).2 (gv x.farm x.other l.reverse x.n [] []).1 q2 q3;have hrv:∀ m:List Claim,tot m.reverse=tot m:=fun m=>by
    induction m with
    |nil=>rfl
    |cons a m ih=>rw[List.reverse_cons,Al,ih];simp only[tot];omega
   have hfw:=i.few hR x.farm;rw[e];refine⟨?_,p2,?_⟩
   ·rw[p1,q1,hrv];have:=i.tt;simp only[tot];omega
   ·rw[List.filter_reverse,List.length_reverse]at q5;rw[List.length_reverse]at q4;simp only[List.length_nil]at q4 q5;omega
  have kn:tot l≤B∧(∀ y∈l,PlC R F y)∧l.length≤N+256:=⟨i.tt,i.pl,by omega⟩
 ·split
  ·exact(kl 0 (hx.none (by assumption)).symm).2.1
  ·split
   ·exact(kl _ rfl).2.1
   ·split
    ·exact(kg (by assumption)).2.1
    ·exact kn.2.1
 ·split
  ·exact(kl 0 (hx.none (by assumption)).symm).1
  ·split
   ·exact(kl _ rfl).1
   ·split
    ·exact(kg (by assumption)).1
    ·exact kn.1
 ·split
  ·exact(kl 0 (hx.none (by assumption)).symm).2.2
  ·split
   ·exact(kl _ rfl).2.2
   ·split
    ·exact(kg (by assumption)).2.2
    ·exact kn.2.2
end
def doH (j:List Judgement)(h:Int)(l:List Claim):List Claim:=(j.filter fun x=>bh j x h).foldl (fun s x=>doJ x s) l
def exS (j:List Judgement):Nat→List Claim→List Claim
 |0,_=>[]
 |_+1,[] =>[]
 |n+1,y::r=>doH j y.hour (y::r.takeWhile fun z=>z.hour==y.hour)++exS j n (r.dropWhile fun z=>z.hour==y.hour)
def sZ (c:List Claim)(h:Int):List Claim:=c.filter fun z=>z.hour==h
def Gr (f:Int→List Claim)(lo:Int):Nat→List Claim
 |0=>[]
 |n+1=>f lo++Gr f (lo+1) n
theorem BT {f g:Int→List Claim}:∀ (n:Nat) (lo:Int),(∀ h,lo≤h→h<lo+n→f h=g h)→Gr f lo n=Gr g lo n
 |0,_,_=>rfl
 |n+1,lo,h=>by rw[Gr,Gr,h lo (by omega) (by omega),BT n (lo+1) fun k h1 h2=>h k (by omega) (by omega)]
theorem BU {f:Int→List Claim}{z:Claim}:∀ {n:Nat} {lo:Int},z∈Gr f lo n→∃ h,lo≤h∧h<lo+n∧z∈f h
 |0,_,hz=>by cases hz
 |n+1,lo,hz=>by
  rcases List.mem_append.1 hz with hz|hz
  ·exact⟨lo,by omega,by omega,hz⟩
  ·obtain⟨h,h1,h2,h3⟩:=BU hz;exact⟨h,by omega,by omega,h3⟩
def exR (j:List Judgement)(c:List Claim)(lo:Int)(n:Nat):List Claim:=Gr (fun h=>doH j h (sZ c h)) lo n
theorem BV (j:List Judgement)(c:List Claim)(lo:Int)(n:Nat):exR j c lo (n+1)=doH j lo (sZ c lo)++exR j c (lo+1) n:=rfl
theorem Qf (x:Judgement):doJ x []=[]:=by
 unfold doJ;split
 ·rfl
 ·split
  ·rfl
  ·split <;>rfl
theorem Jk (j:List Judgement)(h:Int):doH j h []=[]:=by
 unfold doH;have:∀ L:List Judgement,L.foldl (fun s x=>doJ x s) []=[]:=fun L=>by
  induction L with
  |nil=>rfl
  |cons a L ih=>rw[List.foldl_cons,Qf,ih]
 exact this _
theorem Gs (j:List Judgement)(c:List Claim):∀ (m:Nat) (lo:Int) (n:Nat),(∀ z∈c,lo+m≤z.hour)→exR j c lo (m+n)=exR j c (lo+m) n
 |0,lo,n,_=>by simp
 |m+1,lo,n,h=>by
  have e:sZ c lo=[]:=List.filter_eq_nil_iff.2 fun z hz=>by have:=h z hz;simp;omega
  rw[show m+1+n=(m+n)+1 by omega,BV,e,Jk,List.nil_append,Gs j c m (lo+1) n (fun z hz=>by have:=h z hz;omega)];congr 1;omega
theorem KO (j:List Judgement){c c':List Claim}(n:Nat)(lo:Int)(h:∀ h,lo≤h→sZ c h=sZ c' h):exR j c lo n=exR j c' lo n:=BT n lo fun k h1 _=>by rw[h k h1]
abbrev Ev (c:List Claim):Prop:=c.Pairwise fun a b=>a.hour≤b.hour
theorem Dj {y:Claim}:∀ {r:List Claim},Ev (y::r)→(r.takeWhile fun z=>z.hour==y.hour)=sZ r y.hour∧(r.dropWhile fun z=>z.hour==y.hour)=r.filter fun z=>decide (y.hour<z.hour)
 | [],_=>⟨rfl,rfl⟩
 |z::r,h=>by
  have h1:=List.pairwise_cons.1 h;have h2:=List.pairwise_cons.1 h1.2;have hz:=h1.1 z (by simp);by_cases e:z.hour=y.hour
  ·have hr:Ev (y::r):=List.pairwise_cons.2 ⟨fun w hw=>h1.1 w (by simp[hw]),h2.2⟩;obtain⟨p1,p2⟩:=Dj hr;have e1:(z.hour==y.hour)=true:=by simpa using e
   have e2:decide (y.hour<z.hour)=false:=by simp;omega
   unfold sZ at p1 ⊢;rw[List.takeWhile_cons_of_pos (p:=fun z:Claim=>z.hour==y.hour) e1,List.dropWhile_cons_of_pos (p:=fun z:Claim=>z.hour==y.hour) e1,List.filter_cons_of_pos (p:=fun z:Claim=>z.hour==y.hour) e1,List.filter_cons_of_neg (p:=fun z:Claim=>decide (y.hour<z.hour)) (by rw[e2];simp),p1,p2];exact⟨rfl,rfl⟩
  ·have e1:¬ (z.hour==y.hour)=true:=by simpa using e
   have e3:∀ w∈z::r,y.hour<w.hour:=fun w hw=>by
    rcases List.mem_cons.1 hw with rfl|hw
    ·omega
    ·have:=h2.1 w hw;omega
   refine⟨?_,?_⟩
   ·rw[List.takeWhile_cons_of_neg (p:=fun z:Claim=>z.hour==y.hour) e1];exact(List.filter_eq_nil_iff.2 fun w hw=>by have:=e3 w hw;simp;omega).symm
   ·rw[List.dropWhile_cons_of_neg (p:=fun z:Claim=>z.hour==y.hour) e1];exact(List.filter_eq_self.2 fun w hw=>by have:=e3 w hw;simp;omega).symm
theorem Nx (j:List Judgement):∀ (k:Nat) (c:List Claim) (lo:Int) (n:Nat),c.length<k→Ev c→(∀ z∈c,lo≤z.hour∧z.hour<lo+n)→exS j k c=exR j c lo n
 |0,_,_,_,hk,_,_=>absurd hk (Nat.not_lt_zero _)
 |k+1,[],lo,n,_,_,_=>by
  have:∀ (n:Nat) (lo:Int),exR j [] lo n=[]:=fun n=>by
   induction n with
   |zero=>intro _;rfl
   |succ n ih=>intro lo;rw[BV,ih,show sZ [] lo=[]from rfl,Jk];rfl
  rw[this];rfl
 |k+1,y::r,lo,n,hk,hs,hr=>by
  have hy:=hr y (by simp);have h1:=List.pairwise_cons.1 hs;obtain⟨m,hm⟩:∃ m:Nat,y.hour=lo+m:=⟨(y.hour - lo).toNat,by omega⟩;obtain⟨n',hn'⟩:∃ n':Nat,n=m+(n'+1):=⟨n - m - 1,by omega⟩;obtain⟨p1,p2⟩:=Dj hs;have hall:∀ z∈y::r,y.hour≤z.hour:=fun z hz=>by
   rcases List.mem_cons.1 hz with rfl|hz
   ·omega
   ·exact h1.1 z hz
  rw[hn',Gs j (y::r) m lo (n'+1) (fun z hz=>by have:=hall z hz;omega),BV,exS,←hm,p1,p2];have e1:sZ (y::r) y.hour=y::sZ r y.hour:=List.filter_cons_of_pos (by simp);rw[e1];congr 1
  have hlen:(r.filter fun z=>decide (y.hour<z.hour)).length<k:=by
   have:=List.length_filter_le (fun z:Claim=>decide (y.hour<z.hour)) r;simp only[List.length_cons]at hk;omega
  rw[Nx j k _ (y.hour+1) n' hlen (List.Pairwise.sublist List.filter_sublist h1.2) (fun z hz=>by
   have hz':=List.mem_filter.1 hz;have h2:y.hour<z.hour:=by simpa using hz'.2
   have h3:=hr z (by simp[hz'.1]);omega)]
  refine KO j n' _ fun h hh=>?_;unfold sZ;rw[List.filter_cons_of_neg (by simp;omega),List.filter_filter];refine List.filter_congr fun z _=>?_;by_cases e:z.hour=h
  ·simp[e];omega
  ·simp[e]
end Go.Sx
end
