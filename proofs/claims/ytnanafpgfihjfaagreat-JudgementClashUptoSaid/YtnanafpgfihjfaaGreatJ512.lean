/- Part of the proof that the law JudgementClash returns true and leaves its arguments as they were, for all arguments of bulk at most 1048576 (the Upto form). -/
import Derived.Test.YtnanafpgfihjfaaGreatJ511
import Derived.Test.YtnanafpgfihjfaaGreatJ508
import Derived.Test.YtnanafpgfihjfaaGreatJ510
import Derived.Test.YtnanafpgfihjfaaGreatJ509
import Derived.Test.YtnanafpgfihjfaaGreatJ507
set_option linter.all false
set_option maxHeartbeats 4000000
set_option maxRecDepth 100000
section
namespace Go.Sx
open Go.Proofs
open IntKind (i64)
def nr (s_:Clause)(k_:PleasCourt)(q:Int):Bool:=((!(lN k_ s_))&&(!(oZ k_ q k_ s_)))
@[go_sem] def pQ:List SV->Option Con:=(pD .clause fun s_=>(pXX .pleasCourt fun k_=>(pX .int fun q=>(pE (.det True (.v (.bool (nr s_ k_ q))))))))
theorem Tf {p:Prop}(h:p:=by simp only[go_sem,Nat.reduceBEq,Nat.reduceLeDiff,Nat.reduceLT,decide_true,Nat.reduceAdd,Nat.reduceSub,Nat.reduceMul,Int.reduceLE,Int.reduceLT,Int.reduceToNat,Int.reduceNeg,reduceCtorEq,j_];all_goals exact cl):p:=h
theorem u9:FnOk Tryz.prog 166 pQ:=by
 have hG:ConsOk Tryz.prog (mkG [(164,j_),(167,fun l=>my (bp [.o,.st .clause] l))] []):=ar (cgc rC (cgc (oX.norm [.o,.st .clause]) cg0)) cg0;refine ay [.o] mixed ak hG (fn:=Tryz.f166) (c:=ae Tryz.f166) kr kr kr kr (bk fun s_=>(bK fun k_=>(aQ fun q=>(ai (fun hp=>?_)))));dsimp only[ax]at hp;refine⟨nbl rfl,L0,ag _,?_⟩
 ·unfold ae Tryz.f166;try unfold nr
  exact Tf
def kI (s_:Clause)(k_:PleasCourt)(q:Int):Bool:=((kF k_ s_)&&(!(o5 k_ q k_ s_)))
@[go_sem] def nZ:List SV->Option Con:=(pD .clause fun s_=>(pXX .pleasCourt fun k_=>(pX .int fun q=>(pE (.det True (.v (.bool (kI s_ k_ q))))))))
theorem s7:FnOk Tryz.prog 174 nZ:=by
 have hG:ConsOk Tryz.prog (mkG [(164,j_),(165,fun l=>kG (bp [.o,.st .clause] l))] []):=ar (cgc rC (cgc (mw.norm [.o,.st .clause]) cg0)) cg0;refine ay [.o] mixed ak hG (fn:=Tryz.f174) (c:=ae Tryz.f174) kr kr kr kr (bk fun s_=>(bK fun k_=>(aQ fun q=>(ai (fun hp=>?_)))));dsimp only[ax]at hp;refine⟨nbl rfl,L0,ag _,?_⟩
 ·unfold ae Tryz.f174;try unfold kI
  exact Tf
def nt (c:Clause)(q0:Int)(k2:PleasCourt)(q2:Int):Bool:=((c.then_==q0)&&(nr c k2 q2))
@[go_sem] def pV:List SV->Option Con:=(pD .clause fun c=>(pX .int fun q0=>(pXF 166 (pXX .pleasCourt fun k2=>(pX .int fun q2=>(pE ((pE (.det True (.v (.bool (nt c q0 k2 q2))))))))))))
theorem u_:FnOk Tryz.prog 207 pV:=by
 have hG:ConsOk Tryz.prog (mkG [(166,fun l=>pQ (bp [.st .clause,.o,.o] l))] []):=ar (cgc (u9.norm [.st .clause,.o,.o]) cg0) cg0;refine ay [.o] mixed ak hG (fn:=Tryz.f207) (c:=ae Tryz.f207) kr kr kr kr (bk fun c=>(aQ fun q0=>(lf (bK fun k2=>(aQ fun q2=>(ai ((ai (fun hp=>?_)))))))));dsimp only[ax]at hp;refine⟨nbl rfl,L0,ag _,?_⟩
 ·unfold ae Tryz.f207;try unfold nt
  exact zq1
def nu (c:Clause)(q0:Int)(k2:PleasCourt)(q2:Int):Bool:=((c.then_==q0)&&(kI c k2 q2))
@[go_sem] def pW:List SV->Option Con:=(pD .clause fun c=>(pX .int fun q0=>(pXF 174 (pXX .pleasCourt fun k2=>(pX .int fun q2=>(pE ((pE (.det True (.v (.bool (nu c q0 k2 q2))))))))))))
theorem va:FnOk Tryz.prog 207 pW:=by
 have hG:ConsOk Tryz.prog (mkG [(174,fun l=>nZ (bp [.st .clause,.o,.o] l))] []):=ar (cgc (s7.norm [.st .clause,.o,.o]) cg0) cg0;refine ay [.o] mixed ak hG (fn:=Tryz.f207) (c:=ae Tryz.f207) kr kr kr kr (bk fun c=>(aQ fun q0=>(lf (bK fun k2=>(aQ fun q2=>(ai ((ai (fun hp=>?_)))))))));dsimp only[ax]at hp;refine⟨nbl rfl,L0,ag _,?_⟩
 ·unfold ae Tryz.f207;try unfold nu
  exact zq1
@[go_sem] noncomputable def ju:List SV->Option Con:=fun l=>(orC (lw l) (orC (lz l) (orC (lA l) (orC (lB l) (orC (pV l) (pW l))))))
theorem pY:FnOk Tryz.prog 207 ju:=(FnOk.or pd (FnOk.or pe (FnOk.or pf (FnOk.or pg (FnOk.or u_ va)))))
@[go_sem] def gH (s_:List Clause)(q0:Int)(k2:PleasCourt)(q2:Int)(k_0:Nat)(s_0:Unit):Int⊕Unit:=(bif(nt (s_.getD k_0 default) q0 k2 q2)then .inl (k_0:Int)else .inr ())
def eQ (s_:List Clause)(q0:Int)(k2:PleasCourt)(q2:Int):Int:=(match an (gH s_ q0 k2 q2) s_.length 0 ()with| .inl x_0_0=>x_0_0| .inr s_0=>(-1))
@[go_sem] def ez:List SV->Option Con:=(pR .clause fun s_=>(pFn 207 (pX .int fun q0=>(pXF 166 (pXX .pleasCourt fun k2=>(pX .int fun q2=>(pE ((pE ((pE (.det True (.v (.int .i64 (eQ s_ q0 k2 q2)))))))))))))))
theorem Tg {p:Prop}(h:p:=by simp only[go_sem,Nat.reduceBEq,Nat.reduceLeDiff,Nat.reduceLT,decide_true,Nat.reduceAdd,Nat.reduceSub,Nat.reduceMul,Int.reduceLE,Int.reduceLT,Int.reduceToNat,Int.reduceNeg,reduceCtorEq,ju];all_goals exact cl):p:=h
theorem gI:FnOk Tryz.prog 156 ez:=by
 have hG:ConsOk Tryz.prog (mkG [(207,fun l=>ju (bp [.st .clause,.o,.o] l))] []):=ar (cgc (pY.norm [.st .clause,.o,.o]) cg0) cg0;refine ay [.o] mixed ak hG (fn:=Tryz.f156) (c:=ae Tryz.f156) kr kr kr kr (bC fun s_=>(bJ (aQ fun q0=>(lf (bK fun k2=>(aQ fun q2=>(ai ((ai ((ai (fun hp=>?_))))))))))));dsimp only[ax]at hp;refine⟨nbl rfl,(fun id st=>bif Nat.beq id 0 then some (LCR (ρ:=Int) (σ:=Unit) 0 [] [] (fun k_0 s_0=>⟨[(0,.rs .clause s_),(1,.fn 207 [] [.ep [.v (.int .i64 q0)] 0,.ep [.fn 166 [] [.ep [.ep (cellsOf .pleasCourt k2) 0] 0,.ep [.v (.int .i64 q2)] 0]] 0]),(7,.v (.int .i64 (s_.length:Int))),(8,.v (.int .i64 (k_0:Int)))],[]⟩) (gH s_ q0 k2 q2) pT s_.length () (s_.length<=aD) (fun _=>.ret) (fun x_0_0=>⟨[(4,.v (.int .i64 x_0_0))],[]⟩) st)else none),?_,?_⟩
 ·unfold ae Tryz.f156;simp only[am,true_and,and_true]
  ·refine a_ mixed ak hG kr (fun _=>rfl) (s_.length:Int) rfl gA (fun hb0 k_0 s_0 hlt0 _ hw hc=>⟨L0,ag _,?_⟩) (fun hb0 s_0 hc=>?_)
   ·exact bi (jl [])
   ·exact ba (jl [])
 ·unfold ae Tryz.f156;try unfold eQ
  exact Tg
@[go_sem] def gJ (s_:List Clause)(q0:Int)(k2:PleasCourt)(q2:Int)(k_0:Nat)(s_0:Unit):Int⊕Unit:=(bif(nu (s_.getD k_0 default) q0 k2 q2)then .inl (k_0:Int)else .inr ())
def eS (s_:List Clause)(q0:Int)(k2:PleasCourt)(q2:Int):Int:=(match an (gJ s_ q0 k2 q2) s_.length 0 ()with| .inl x_0_0=>x_0_0| .inr s_0=>(-1))
@[go_sem] def eA:List SV->Option Con:=(pR .clause fun s_=>(pFn 207 (pX .int fun q0=>(pXF 174 (pXX .pleasCourt fun k2=>(pX .int fun q2=>(pE ((pE ((pE (.det True (.v (.int .i64 (eS s_ q0 k2 q2)))))))))))))))
theorem gK:FnOk Tryz.prog 156 eA:=by
 have hG:ConsOk Tryz.prog (mkG [(207,fun l=>ju (bp [.st .clause,.o,.o] l))] []):=ar (cgc (pY.norm [.st .clause,.o,.o]) cg0) cg0;refine ay [.o] mixed ak hG (fn:=Tryz.f156) (c:=ae Tryz.f156) kr kr kr kr (bC fun s_=>(bJ (aQ fun q0=>(lf (bK fun k2=>(aQ fun q2=>(ai ((ai ((ai (fun hp=>?_))))))))))));dsimp only[ax]at hp;refine⟨nbl rfl,(fun id st=>bif Nat.beq id 0 then some (LCR (ρ:=Int) (σ:=Unit) 0 [] [] (fun k_0 s_0=>⟨[(0,.rs .clause s_),(1,.fn 207 [] [.ep [.v (.int .i64 q0)] 0,.ep [.fn 174 [] [.ep [.ep (cellsOf .pleasCourt k2) 0] 0,.ep [.v (.int .i64 q2)] 0]] 0]),(7,.v (.int .i64 (s_.length:Int))),(8,.v (.int .i64 (k_0:Int)))],[]⟩) (gJ s_ q0 k2 q2) pT s_.length () (s_.length<=aD) (fun _=>.ret) (fun x_0_0=>⟨[(4,.v (.int .i64 x_0_0))],[]⟩) st)else none),?_,?_⟩
 ·unfold ae Tryz.f156;simp only[am,true_and,and_true]
  ·refine a_ mixed ak hG kr (fun _=>rfl) (s_.length:Int) rfl gA (fun hb0 k_0 s_0 hlt0 _ hw hc=>⟨L0,ag _,?_⟩) (fun hb0 s_0 hc=>?_)
   ·exact bi (jl [])
   ·exact ba (jl [])
 ·unfold ae Tryz.f156;try unfold eS
  exact Tg
@[go_sem] noncomputable def cN:List SV->Option Con:=fun l=>(orC (bF l) (orC (cA l) (orC (cB l) (orC (cC l) (orC (cD l) (orC (ez l) (eA l)))))))
theorem gR:FnOk Tryz.prog 156 cN:=(FnOk.or cn (FnOk.or dW (FnOk.or dX (FnOk.or dY (FnOk.or dZ (FnOk.or gI gK))))))
def d9 (s_:List Clause)(q0:Int)(k2:PleasCourt)(q2:Int):Bool:=(decide ((eQ s_ q0 k2 q2)>=0))
@[go_sem] def dI:List SV->Option Con:=(pR .clause fun s_=>(pFn 207 (pX .int fun q0=>(pXF 166 (pXX .pleasCourt fun k2=>(pX .int fun q2=>(pE ((pE ((pE (.det True (.v (.bool (d9 s_ q0 k2 q2)))))))))))))))
theorem Th {p:Prop}(h:p:=by simp only[go_sem,Nat.reduceBEq,Nat.reduceLeDiff,Nat.reduceLT,decide_true,Nat.reduceAdd,Nat.reduceSub,Nat.reduceMul,Int.reduceLE,Int.reduceLT,Int.reduceToNat,Int.reduceNeg,reduceCtorEq,cN];all_goals exact cl):p:=h
theorem fV:FnOk Tryz.prog 116 dI:=by
 have hG:ConsOk Tryz.prog (mkG [(156,fun l=>cN (bp [.sl .clause,.o] l))] []):=ar (cgc (gR.norm [.sl .clause,.o]) cg0) cg0;refine ay [.o] mixed ak hG (fn:=Tryz.f116) (c:=ae Tryz.f116) kr kr kr kr (bC fun s_=>(bJ (aQ fun q0=>(lf (bK fun k2=>(aQ fun q2=>(ai ((ai ((ai (fun hp=>?_))))))))))));dsimp only[ax]at hp;refine⟨nbl rfl,L0,ag _,?_⟩
 ·unfold ae Tryz.f116;try unfold d9
  exact Th
def d_ (s_:List Clause)(q0:Int)(k2:PleasCourt)(q2:Int):Bool:=(decide ((eS s_ q0 k2 q2)>=0))
@[go_sem] def dJ:List SV->Option Con:=(pR .clause fun s_=>(pFn 207 (pX .int fun q0=>(pXF 174 (pXX .pleasCourt fun k2=>(pX .int fun q2=>(pE ((pE ((pE (.det True (.v (.bool (d_ s_ q0 k2 q2)))))))))))))))
theorem fW:FnOk Tryz.prog 116 dJ:=by
 have hG:ConsOk Tryz.prog (mkG [(156,fun l=>cN (bp [.sl .clause,.o] l))] []):=ar (cgc (gR.norm [.sl .clause,.o]) cg0) cg0;refine ay [.o] mixed ak hG (fn:=Tryz.f116) (c:=ae Tryz.f116) kr kr kr kr (bC fun s_=>(bJ (aQ fun q0=>(lf (bK fun k2=>(aQ fun q2=>(ai ((ai ((ai (fun hp=>?_))))))))))));dsimp only[ax]at hp;refine⟨nbl rfl,L0,ag _,?_⟩
 ·unfold ae Tryz.f116;try unfold d_
  exact Th
@[go_sem] noncomputable def cj:List SV->Option Con:=fun l=>(orC (b9 l) (orC (b_ l) (orC (ca l) (orC (cd l) (orC (dI l) (dJ l))))))
theorem f7:FnOk Tryz.prog 116 cj:=(FnOk.or dB (FnOk.or dC (FnOk.or dD (FnOk.or dE (FnOk.or fV fW)))))
def o6 (k_:PleasCourt)(q:Int)(k2:PleasCourt)(q2:Int):Bool:=(d9 k_.plea.clauses q k2 q2)
@[go_sem] def rD:List SV->Option Con:=(pX .pleasCourt fun k_=>(pI fun q=>(pFn 166 (pXX .pleasCourt fun k2=>(pX .int fun q2=>(pE ((pE (.det True (.v (.bool (o6 k_ q k2 q2))))))))))))
theorem Ti {p:Prop}(h:p:=by simp only[go_sem,Nat.reduceBEq,Nat.reduceLeDiff,Nat.reduceLT,decide_true,Nat.reduceAdd,Nat.reduceSub,Nat.reduceMul,Int.reduceLE,Int.reduceLT,Int.reduceToNat,Int.reduceNeg,reduceCtorEq,cj];all_goals exact cl):p:=h
theorem wo:FnOk Tryz.prog 164 rD:=by
 have hG:ConsOk Tryz.prog (mkG [(116,fun l=>cj (bp [.sl .clause,.o] l))] []):=ar (cgc (f7.norm [.sl .clause,.o]) cg0) cg0;refine ay [.o] mixed ak hG (fn:=Tryz.f164) (c:=ae Tryz.f164) kr kr kr kr (aQ fun k_=>(cI fun q=>(bJ (bK fun k2=>(aQ fun q2=>(ai ((ai (fun hp=>?_)))))))));dsimp only[ax]at hp;refine⟨nbl rfl,L0,ag _,?_⟩
 ·unfold ae Tryz.f164;try unfold o6
  exact Ti
def o7 (k_:PleasCourt)(q:Int)(k2:PleasCourt)(q2:Int):Bool:=(d_ k_.plea.clauses q k2 q2)
@[go_sem] def rE:List SV->Option Con:=(pX .pleasCourt fun k_=>(pI fun q=>(pFn 174 (pXX .pleasCourt fun k2=>(pX .int fun q2=>(pE ((pE (.det True (.v (.bool (o7 k_ q k2 q2))))))))))))
theorem wp:FnOk Tryz.prog 164 rE:=by
 have hG:ConsOk Tryz.prog (mkG [(116,fun l=>cj (bp [.sl .clause,.o] l))] []):=ar (cgc (f7.norm [.sl .clause,.o]) cg0) cg0;refine ay [.o] mixed ak hG (fn:=Tryz.f164) (c:=ae Tryz.f164) kr kr kr kr (aQ fun k_=>(cI fun q=>(bJ (bK fun k2=>(aQ fun q2=>(ai ((ai (fun hp=>?_)))))))));dsimp only[ax]at hp;refine⟨nbl rfl,L0,ag _,?_⟩
 ·unfold ae Tryz.f164;try unfold o7
  exact Ti
@[go_sem] noncomputable def iJ:List SV->Option Con:=fun l=>(orC (ni l) (orC (nj l) (orC (nk l) (orC (nq l) (orC (rD l) (rE l))))))
theorem nv:FnOk Tryz.prog 164 iJ:=(FnOk.or qj (FnOk.or qk (FnOk.or ql (FnOk.or qm (FnOk.or wo wp)))))
def jn (k_:PleasCourt)(q:Int):Bool:=(bif(dS .int .bool k_.strict q)then true else(bif((dS .int .bool k_.strict (i64.wrap (0 - q))) ||(!(oY k_ q k_)))then false else(!(o6 k_ (i64.wrap (0 - q)) k_ q))))
@[go_sem] def rF:List SV->Option Con:=(pX .pleasCourt fun k_=>(pI fun q=>(pE (.det True (.v (.bool (jn k_ q)))))))
theorem Pi {p:Prop}(h:p:=by simp only[go_sem,Nat.reduceBEq,Nat.reduceLeDiff,Nat.reduceLT,decide_true,Nat.reduceAdd,Nat.reduceSub,Nat.reduceMul,Int.reduceLE,Int.reduceLT,Int.reduceToNat,Int.reduceNeg,reduceCtorEq,iJ];all_goals exact cl):p:=h
theorem wq:FnOk Tryz.prog 132 rF:=by
 have hG:ConsOk Tryz.prog (mkG [(164,iJ)] []):=ar (cgc nv cg0) cg0;refine ay [.o] mixed ak hG (fn:=Tryz.f132) (c:=ae Tryz.f132) kr kr kr kr (aQ fun k_=>(cI fun q=>(ai (fun hp=>?_))));dsimp only[ax]at hp;refine⟨nbl rfl,L0,ag _,?_⟩
 ·unfold ae Tryz.f132;try unfold jn
  exact Pi
def lZ (k_:PleasCourt)(q:Int):Bool:=(dS .int .bool k_.strict (i64.wrap (0 - q)))
@[go_sem] def ph:List SV->Option Con:=(pXX .pleasCourt fun k_=>(pX .int fun q=>(pE (.det True (.v (.bool (lZ k_ q)))))))
theorem uz:FnOk Tryz.prog 170 ph:=by
 have hG:ConsOk Tryz.prog (mkG [] []):=ar cg0 cg0;refine ay [.o] mixed ak hG (fn:=Tryz.f170) (c:=ae Tryz.f170) kr kr kr kr (bK fun k_=>(aQ fun q=>(ai (fun hp=>?_))));dsimp only[ax]at hp;refine⟨nbl rfl,L0,ag _,?_⟩
 ·unfold ae Tryz.f170;try unfold lZ
  exact zq1
def l5 (k_:PleasCourt)(q:Int):Bool:=(!(o4 k_ q k_))
@[go_sem] def pi:List SV->Option Con:=(pXX .pleasCourt fun k_=>(pX .int fun q=>(pE (.det True (.v (.bool (l5 k_ q)))))))
theorem uA:FnOk Tryz.prog 171 pi:=by
 have hG:ConsOk Tryz.prog (mkG [(164,iJ)] []):=ar (cgc nv cg0) cg0;refine ay [.o] mixed ak hG (fn:=Tryz.f171) (c:=ae Tryz.f171) kr kr kr kr (bK fun k_=>(aQ fun q=>(ai (fun hp=>?_))));dsimp only[ax]at hp;refine⟨nbl rfl,L0,ag _,?_⟩
 ·unfold ae Tryz.f171;try unfold l5
  exact Pi
def l6 (k_:PleasCourt)(q:Int):Bool:=(o7 k_ (i64.wrap (0 - q)) k_ q)
@[go_sem] def pj:List SV->Option Con:=(pXX .pleasCourt fun k_=>(pX .int fun q=>(pE (.det True (.v (.bool (l6 k_ q)))))))
theorem uB:FnOk Tryz.prog 173 pj:=by
 have hG:ConsOk Tryz.prog (mkG [(164,iJ)] []):=ar (cgc nv cg0) cg0;refine ay [.o] mixed ak hG (fn:=Tryz.f173) (c:=ae Tryz.f173) kr kr kr kr (bK fun k_=>(aQ fun q=>(ai (fun hp=>?_))));dsimp only[ax]at hp;refine⟨nbl rfl,L0,ag _,?_⟩
 ·unfold ae Tryz.f173;try unfold l6
  exact Pi
@[go_sem] def Dq (x:Int):List SV:=[.v (.int .i64 x)]
@[go_sem] def qF:List SV->Option Con:=(pE (.det True (.fn 159 [] [])))
theorem t_:FnOk Tryz.prog 119 qF:=by
 have hG:ConsOk Tryz.prog (mkG [] []):=ar cg0 cg0;refine ay [.o] mixed ak hG (fn:=Tryz.f119) (c:=ae Tryz.f119) kr kr kr kr (ai (fun hp=>?_));refine⟨nbl rfl,L0,ag _,?_⟩;unfold ae Tryz.f119;simp only[go_sem,Dk,Dl,Nat.reduceBEq,Nat.reduceLeDiff,Nat.reduceAdd,Nat.reduceSub,Nat.reduceMul]
@[go_sem] def iK (k_0:Nat)(s_0:List Int×Int):(List Int)⊕(List Int×Int):=(bif(decide (s_0.2<=32))then(bif(s_0.2 !=0)then .inr ((s_0.1++[s_0.2]),(i64.wrap (s_0.2+1)))else .inr (s_0.1,(i64.wrap (s_0.2+1))))else .inl s_0.1)
def l7 (items_:List (List SV))(k_0:Nat)(s_0:List Int×Int):Prop:=((decide (s_0.2<=32))=true->(((s_0.2 !=0)=true->(items_[s_0.1.length]? =some (Dq s_0.2)))/\((s_0.2 !=0)=false->((s_0.2 !=0)=false))))
def aA:List Int:=(match an (iK) 66 0 (([]:List Int),(-32))with| .inl x_0_0=>x_0_0| .inr s_0=>default)
def fj (items_:List (List SV)):Prop:=(okI (iK) (l7 items_) 66 0 (([]:List Int),(-32))/\(∀ z_,an (iK) 66 0 (([]:List Int),(-32))≠ .inr z_)/\(∀ x_0_0,an (iK) 66 0 (([]:List Int),(-32))=.inl x_0_0->(items_.length=x_0_0.length)))
theorem sn (items_:List (List SV))(hp:fj items_):FV Tryz.prog 159 (fun y=>[y]) [] items_:=by
 unfold fj at hp;refine JN mixed ak (fn:=Tryz.f159) (c:=ae Tryz.f159) kr kr kr kr rfl (n:=0) rfl (G:=fun r_=>C0 [] [] (HX items_ r_)) (fun r_ hy=>?_) (fun args w=>by kernel_rfl);have hG:ConsOk Tryz.prog (C0 [] [] (HX items_ r_)):=BI cg0 cg0 hy;refine⟨hG,nbl rfl,(fun id st=>bif Nat.beq id 0 then some (Vh (ρ:=(List Int)) (σ:=(List Int×Int)) 1 [] [0] (fun k_0 s_0=>⟨[(0,.os 0),(2,.v (.int .i64 s_0.2))],[.ab (r_.1 (s_0.1.length+1))]⟩) (iK) (l7 items_) 66 (([]:List Int),(-32)) (fun _=>.normal) (fun x_0_0=>⟨[],[.ab (r_.1 (x_0_0.length+1))]⟩) ⟨[],[.ab (r_.1 0)]⟩ st)else none),?_,?_⟩
 ·unfold ae Tryz.f159;simp only[am,true_and,and_true]
  ·refine MF mixed ak hG kr (fun _=>rfl) fun k_0 s_0 hq0=>⟨L0,ag _,?_⟩
   ·unfold l7 at hq0;exact Sb (jl [0])
 ·unfold ae Tryz.f159;exact Sb (jl [0])
def ta (q:Int)(m:List (Int×Bool)):Bool:=(!(dS .int .bool m q))
@[go_sem] def vb:List SV->Option Con:=(pI fun q=>(pXM .int .bool fun m=>(pE (.det True (.v (.bool (ta q m)))))))
theorem zD:FnOk Tryz.prog 158 vb:=by
 have hG:ConsOk Tryz.prog (mkG [] []):=ar cg0 cg0;refine ay [.o] mixed ak hG (fn:=Tryz.f158) (c:=ae Tryz.f158) kr kr kr kr (cI fun q=>(F7 fun m=>(ai (fun hp=>?_))));dsimp only[ax]at hp;refine⟨nbl rfl,L0,ag _,?_⟩
 ·unfold ae Tryz.f158;try unfold ta
  exact zq1
@[go_sem] def kZ (s_:List Int)(m:List (Int×Bool))(k_0:Nat)(s_0:Unit):Int⊕Unit:=(bif(ta (s_.getD k_0 0) m)then .inl (k_0:Int)else .inr ())
def jo (s_:List Int)(m:List (Int×Bool)):Int:=(match an (kZ s_ m) s_.length 0 ()with| .inl x_0_0=>x_0_0| .inr s_0=>(-1))
@[go_sem] def lO:List SV->Option Con:=(pR .int fun s_=>(pFn 158 (pXM .int .bool fun m=>(pE ((pE (.det True (.v (.int .i64 (jo s_ m))))))))))
theorem rG:FnOk Tryz.prog 203 lO:=by
 have hG:ConsOk Tryz.prog (mkG [(158,vb)] []):=ar (cgc zD cg0) cg0;refine ay [.o] mixed ak hG (fn:=Tryz.f203) (c:=ae Tryz.f203) kr kr kr kr (bC fun s_=>(bJ (F7 fun m=>(ai ((ai (fun hp=>?_)))))));dsimp only[ax]at hp;refine⟨nbl rfl,(fun id st=>bif Nat.beq id 0 then some (LCR (ρ:=Int) (σ:=Unit) 0 [] [] (fun k_0 s_0=>⟨[(0,.rs .int s_),(1,.fn 158 [] [.ep [.rm .int .bool m] 0]),(7,.v (.int .i64 (s_.length:Int))),(8,.v (.int .i64 (k_0:Int)))],[]⟩) (kZ s_ m) pT s_.length () (s_.length<=aD) (fun _=>.ret) (fun x_0_0=>⟨[(4,.v (.int .i64 x_0_0))],[]⟩) st)else none),?_,?_⟩
 ·unfold ae Tryz.f203;simp only[am,true_and,and_true]
  ·refine a_ mixed ak hG kr (fun _=>rfl) (s_.length:Int) rfl gA (fun hb0 k_0 s_0 hlt0 _ hw hc=>⟨L0,ag _,?_⟩) (fun hb0 s_0 hc=>?_)
   ·exact bi (jl [])
   ·exact ba (jl [])
 ·unfold ae Tryz.f203;try unfold jo
  exact zq1
@[go_sem] noncomputable def iP:List SV->Option Con:=fun l=>(orC (jk l) (orC (iG l) (lO l)))
theorem rW:FnOk Tryz.prog 203 iP:=(FnOk.or mv (FnOk.or kY rG))
def fL (s_:List Int)(m:List (Int×Bool)):Bool:=(decide ((jo s_ m)>=0))
@[go_sem] def j3:List SV->Option Con:=(pR .int fun s_=>(pFn 158 (pXM .int .bool fun m=>(pE ((pE (.det True (.v (.bool (fL s_ m))))))))))
theorem ZD {p:Prop}(h:p:=by simp only[go_sem,Nat.reduceBEq,Nat.reduceLeDiff,Nat.reduceLT,decide_true,Nat.reduceAdd,Nat.reduceSub,Nat.reduceMul,Int.reduceLE,Int.reduceLT,Int.reduceToNat,Int.reduceNeg,reduceCtorEq,iP];all_goals exact cl):p:=h
theorem pZ:FnOk Tryz.prog 157 j3:=by
 have hG:ConsOk Tryz.prog (mkG [(203,fun l=>iP (bp [.sl .int,.o] l))] []):=ar (cgc (rW.norm [.sl .int,.o]) cg0) cg0;refine ay [.o] mixed ak hG (fn:=Tryz.f157) (c:=ae Tryz.f157) kr kr kr kr (bC fun s_=>(bJ (F7 fun m=>(ai ((ai (fun hp=>?_)))))));dsimp only[ax]at hp;refine⟨nbl rfl,L0,ag _,?_⟩
 ·unfold ae Tryz.f157;try unfold fL
  exact ZD
@[go_sem] noncomputable def im:List SV->Option Con:=fun l=>(orC (iv l) (orC (g_ l) (j3 l)))
theorem qe:FnOk Tryz.prog 157 im:=(FnOk.or kE (FnOk.or jL pZ))
@[go_sem] def oI (p:Plea)(k_0:Nat)(s_0:List (Int×Bool)):Empty⊕(List (Int×Bool)):=.inr (lF .int .bool s_0 (p.facts.getD k_0 0) true)
@[go_sem] def oJ (p:Plea)(s_1:List (Int×Bool))(k_2:Nat)(s_2:Unit):(List (Int×Bool))⊕Unit:=letI q0:=p.clauses.getD k_2 default;(bif((q0.strict&&(!(dS .int .bool s_1 (q0.then_))))&&(!(fL (q0.if_) s_1)))then .inl (lF .int .bool s_1 (q0.then_) true)else .inr ())
@[go_sem] def oK (p:Plea)(k_1:Nat)(s_1:List (Int×Bool)):(List (Int×Bool))⊕(List (Int×Bool)):=(match an (oJ p s_1) p.clauses.length 0 ()with| .inl x_2_0=>.inr x_2_0| .inr s_2=>.inl s_1)
def f6 (p:Plea):List (Int×Bool):=(match an (oI p) p.facts.length 0 ([])with| .inl x=>x.elim| .inr s_0=>(match an (oK p) (p.clauses.length+1) 0 s_0 with| .inl x_1_0=>x_1_0| .inr s_1=>default))
def ix (p:Plea):Prop:=(p.facts.length<=aD->(∀ s_0,an (oI p) p.facts.length 0 ([])=.inr s_0->(∀ z_,an (oK p) (p.clauses.length+1) 0 s_0≠ .inr z_)))
@[go_sem] def td:List SV->Option Con:=(pD .plea fun p=>(pE (.det (ix p) (.nm .int .bool (f6 p)))))
theorem ZE {p:Prop}(h:p:=by simp only[go_sem,Nat.reduceBEq,Nat.reduceLeDiff,Nat.reduceLT,decide_true,Nat.reduceAdd,Nat.reduceSub,Nat.reduceMul,Int.reduceLE,Int.reduceLT,Int.reduceToNat,Int.reduceNeg,reduceCtorEq,im];all_goals exact cl):p:=h
theorem wg:FnOk Tryz.prog 118 td:=by
 have hG:ConsOk Tryz.prog (mkG [(157,fun l=>im (bp [.sl .int,.o] l))] []):=ar (cgc (qe.norm [.sl .int,.o]) cg0) cg0;refine FT true mixed ak hG (fn:=Tryz.f118) (c:=ae Tryz.f118) kr kr kr kr (bk fun p=>(ai (fun hp=>?_)));dsimp only[ax]at hp;unfold ix at hp;refine⟨nbl rfl,(fun id st=>bif Nat.beq id 0 then some (LCR (ρ:=Empty) (σ:=(List (Int×Bool))) 3 [] [0,1,2] (fun k_0 s_0=>⟨[(1,.ptr 0 0),(3,.ptr 2 0),(11,.rs .int p.facts),(12,.v (.int .i64 (p.facts.length:Int))),(13,.v (.int .i64 (k_0:Int)))],[.cells (cellsOf .plea p),.mp .int .bool s_0 none,.cells [.os 1]]⟩) (oI p) pT p.facts.length ([]) (p.facts.length<=aD) ((·.elim)) ((·.elim)) st)else bif Nat.beq id 2 then some (LCV (ρ:=(List (Int×Bool))) (σ:=(List (Int×Bool))) 3 [] [0,1,2] (fun k_1 s_1=>⟨[(1,.ptr 0 0),(3,.ptr 2 0)],[.cells (cellsOf .plea p),.mp .int .bool s_1 none,.cells [.os 1]]⟩) (oK p) pT (p.clauses.length+1) (et (an (oI p) p.facts.length 0 ([]))) (fun _=>.ret) (fun x_1_0=>⟨[(2,.os 3)],[.dead,.dead,.dead,.mp .int .bool x_1_0 none]⟩) st)else none),?_,?_⟩
 ·unfold ae Tryz.f118;simp only[am,true_and,and_true];refine⟨?_,?_⟩
  ·refine a_ mixed ak hG kr (fun _=>rfl) (p.facts.length:Int) rfl gA (fun hb0 k_0 s_0 hlt0 _ hw hc=>⟨L0,ag _,?_⟩) (fun hb0 s_0 hc=>?_)
   ·exact bi (jl [0,1,2])
   ·exact ba (jl [0,1,2])
  ·refine rq mixed ak hG kr (fun _=>rfl) fun k_1 s_1 _=>⟨(fun id st=>bif Nat.beq id 4 then some (LCR (ρ:=(List (Int×Bool))) (σ:=Unit) 3 [] [0,1,2] (fun k_2 s_2=>⟨[(1,.ptr 0 0),(3,.ptr 2 0),(21,.rs .clause p.clauses),(22,.v (.int .i64 (p.clauses.length:Int))),(23,.v (.int .i64 (k_2:Int)))],[.cells (cellsOf .plea p),.mp .int .bool s_1 none,.cells [.os 1]]⟩) (oJ p s_1) pT p.clauses.length () (p.clauses.length<=aD) (fun _=>.exit 3) (fun x_2_0=>⟨[(1,.ptr 0 0),(3,.ptr 2 0)],[.cells (cellsOf .plea p),.mp .int .bool x_2_0 none,.cells [.os 1]]⟩) st)else none),?_,?_⟩
   ·simp only[am,true_and,and_true]
    ·refine a_ mixed ak hG kr (fun _=>rfl) (p.clauses.length:Int) rfl gA (fun hb2 k_2 s_2 hlt2 _ hw hc=>⟨L0,ag _,?_⟩) (fun hb2 s_2 hc=>?_)
     ·exact bi (jl [0,1,2])
     ·exact ba (jl [0,1,2])
   ·exact Dn (jl [0,1,2]) (jl [0,1,2,1])
 ·unfold ae Tryz.f118;try unfold f6
  exact ZE
@[go_sem] def gL (s_:List Clause)(k_0:Nat)(s_0:Unit):Int⊕Unit:=(bif(uw (s_.getD k_0 default))then .inl (k_0:Int)else .inr ())
def eT (s_:List Clause):Int:=(match an (gL s_) s_.length 0 ()with| .inl x_0_0=>x_0_0| .inr s_0=>(-1))
@[go_sem] def gS:List SV->Option Con:=(pR .clause fun s_=>(pFn 115 (pE ((pE (.det True (.v (.int .i64 (eT s_)))))))))
theorem kU:FnOk Tryz.prog 156 gS:=by
 have hG:ConsOk Tryz.prog (mkG [(115,fun l=>we (bp [.st .clause] l))] []):=ar (cgc (AF.norm [.st .clause]) cg0) cg0;refine ay [.o] mixed ak hG (fn:=Tryz.f156) (c:=ae Tryz.f156) kr kr kr kr (bC fun s_=>(bJ (ai ((ai (fun hp=>?_))))));dsimp only[ax]at hp;refine⟨nbl rfl,(fun id st=>bif Nat.beq id 0 then some (LCR (ρ:=Int) (σ:=Unit) 0 [] [] (fun k_0 s_0=>⟨[(0,.rs .clause s_),(1,.fn 115 [] []),(7,.v (.int .i64 (s_.length:Int))),(8,.v (.int .i64 (k_0:Int)))],[]⟩) (gL s_) pT s_.length () (s_.length<=aD) (fun _=>.ret) (fun x_0_0=>⟨[(4,.v (.int .i64 x_0_0))],[]⟩) st)else none),?_,?_⟩
 ·unfold ae Tryz.f156;simp only[am,true_and,and_true]
  ·refine a_ mixed ak hG kr (fun _=>rfl) (s_.length:Int) rfl gA (fun hb0 k_0 s_0 hlt0 _ hw hc=>⟨L0,ag _,?_⟩) (fun hb0 s_0 hc=>?_)
   ·exact bi (jl [])
   ·exact ba (jl [])
 ·unfold ae Tryz.f156;try unfold eT
  exact zq1
@[go_sem] noncomputable def eE:List SV->Option Con:=fun l=>(orC (bF l) (orC (cA l) (orC (cB l) (orC (cC l) (orC (cD l) (orC (ez l) (orC (eA l) (gS l))))))))
theorem lC:FnOk Tryz.prog 156 eE:=(FnOk.or cn (FnOk.or dW (FnOk.or dX (FnOk.or dY (FnOk.or dZ (FnOk.or gI (FnOk.or gK kU)))))))
def co (s_:List Clause):Bool:=(decide ((eT s_)>=0))
@[go_sem] def f9:List SV->Option Con:=(pR .clause fun s_=>(pFn 115 (pE ((pE (.det True (.v (.bool (co s_)))))))))
theorem ZF {p:Prop}(h:p:=by simp only[go_sem,Nat.reduceBEq,Nat.reduceLeDiff,Nat.reduceLT,decide_true,Nat.reduceAdd,Nat.reduceSub,Nat.reduceMul,Int.reduceLE,Int.reduceLT,Int.reduceToNat,Int.reduceNeg,reduceCtorEq,eE];all_goals exact cl):p:=h
theorem jU:FnOk Tryz.prog 116 f9:=by
 have hG:ConsOk Tryz.prog (mkG [(156,fun l=>eE (bp [.sl .clause,.o] l))] []):=ar (cgc (lC.norm [.sl .clause,.o]) cg0) cg0;refine ay [.o] mixed ak hG (fn:=Tryz.f116) (c:=ae Tryz.f116) kr kr kr kr (bC fun s_=>(bJ (ai ((ai (fun hp=>?_))))));dsimp only[ax]at hp;refine⟨nbl rfl,L0,ag _,?_⟩
 ·unfold ae Tryz.f116;try unfold co
  exact ZF
@[go_sem] noncomputable def bu:List SV->Option Con:=fun l=>(orC (b9 l) (orC (b_ l) (orC (ca l) (orC (cd l) (orC (dI l) (orC (dJ l) (f9 l)))))))
theorem j6:FnOk Tryz.prog 116 bu:=(FnOk.or dB (FnOk.or dC (FnOk.or dD (FnOk.or dE (FnOk.or fV (FnOk.or fW jU))))))
@[go_sem] def tf (a0:Plea)(k_0:Nat)(s_0:Bool×Int):Empty⊕(Bool×Int):=letI q0:=a0.clauses.getD k_0 default;.inr (((((((s_0.1&&(decide (q0.no > s_0.2)))&&(decide (q0.no<=1048576)))&&(iV (q0.then_)))&&(decide (q0.rank>=0)))&&(decide (q0.rank<=1048576)))&&(nU (q0.if_))),q0.no)
def kJ (a0:Plea)(k_0:Nat)(s_0:Bool×Int):Prop:=letI q0:=a0.clauses.getD k_0 default;((((((s_0.1&&(decide (q0.no > s_0.2)))&&(decide (q0.no<=1048576)))&&(iV (q0.then_)))&&(decide (q0.rank>=0)))&&(decide (q0.rank<=1048576)))=true->(ji (q0.if_)))
@[go_sem] def p5 (a0:Plea)(z_1:Int)(s_1:Unit):Unit⊕Unit:=(bif((dS .int .bool (f6 a0) z_1)&&(dS .int .bool (f6 a0) (i64.wrap (0 - z_1))))then .inl ()else .inr ())
def AG (a0:Plea)(z_1:Int)(s_1:Unit):Prop:=True
def iW (a0:Plea):Int:=(bif(((decide ((a0.facts.length:Int) > 64)) ||(decide ((a0.clauses.length:Int) > 64))) ||(co a0.clauses))then 2 else(match an (tf a0) a0.clauses.length 0 ((nU a0.facts),(-1))with| .inl x=>x.elim| .inr s_0=>(bif(!s_0.1)then 510 else(match jO (p5 a0) aA ()with| .inl x_1_0=>510| .inr s_1=>0))))
def iX (a0:Plea):Prop:=letI q0:=((nU a0.facts),(-1));letI q1:=tf a0;(a0.facts.length<=aD->((((decide ((a0.facts.length:Int) > 64)) ||(decide ((a0.clauses.length:Int) > 64))) ||(co a0.clauses))=false->((ji a0.facts)/\(a0.clauses.length<=aD->(okI q1 (kJ a0) a0.clauses.length 0 q0/\(∀ s_0,an q1 a0.clauses.length 0 q0=.inr s_0->((!s_0.1)=false->((ix a0)/\(fj ((aA).map Dq))))))))))
@[go_sem] def qS:List SV->Option Con:=(pD .plea fun a0=>(pE (.det (iX a0) (.v (.int .i64 (iW a0))))))
theorem ZG {l0:List Nat}(a0:JL l0){p:Prop}(h:JL l0->p:=by intro ja;simp only[go_sem,Nat.reduceBEq,Nat.reduceLeDiff,Nat.reduceLT,decide_true,Nat.reduceAdd,Nat.reduceSub,Nat.reduceMul,Int.reduceLE,Int.reduceLT,Int.reduceToNat,Int.reduceNeg,reduceCtorEq,bu,p5,psT,Dq,List.cons_append,List.nil_append];all_goals exact jA ja):p:=h a0
theorem Tj {l0:List Nat}(a0:JL l0){p:Prop}(h:JL l0->p:=by intro ja;simp only[go_sem,Nat.reduceBEq,Nat.reduceLeDiff,Nat.reduceLT,decide_true,Nat.reduceAdd,Nat.reduceSub,Nat.reduceMul,Int.reduceLE,Int.reduceLT,Int.reduceToNat,Int.reduceNeg,reduceCtorEq,bu];all_goals exact jA ja):p:=h a0
theorem ZH {p:Prop}(h:p:=by simp only[go_sem,Nat.reduceBEq,Nat.reduceLeDiff,Nat.reduceLT,decide_true,Nat.reduceAdd,Nat.reduceSub,Nat.reduceMul,Int.reduceLE,Int.reduceLT,Int.reduceToNat,Int.reduceNeg,reduceCtorEq,bu];all_goals exact cl):p:=h
theorem tg:FnOk Tryz.prog 67 qS:=by
 have hG:ConsOk Tryz.prog (mkG [(83,oH),(116,fun l=>bu (bp [.sl .clause,.o] l)),(117,fun l=>xh (bp [.sl .int] l)),(118,fun l=>td (bp [.st .plea] l)),(119,fun l=>qF (bp [] l))] []):=ar (cgc qD (cgc (j6.norm [.sl .clause,.o]) (cgc (Bx.norm [.sl .int]) (cgc (wg.norm [.st .plea]) (cgc (t_.norm []) cg0))))) cg0;refine ay [.o] mixed ak hG (fn:=Tryz.f67) (c:=ae Tryz.f67) kr kr kr kr (bk fun a0=>(ai (fun hp=>?_)));dsimp only[ax]at hp;unfold iX at hp;refine⟨nbl rfl,(fun id st=>bif Nat.beq id 0 then some (LCR (ρ:=Empty) (σ:=(Bool×Int)) 2 [] [0,1] (fun k_0 s_0=>⟨[(1,.ptr 0 0),(2,.ptr 1 0),(4,.v (.bool s_0.1)),(5,.v (.int .i64 s_0.2)),(30,.rs .clause a0.clauses),(31,.v (.int .i64 (a0.clauses.length:Int))),(32,.v (.int .i64 (k_0:Int)))],[.cells (cellsOf .plea a0),.cells [.v (.int .i64 0)]]⟩) (tf a0) (kJ a0) a0.clauses.length ((nU a0.facts),(-1)) (a0.clauses.length<=aD) ((·.elim)) ((·.elim)) st)else bif Nat.beq id 2 then some (LC (ρ:=Unit) (σ:=Unit) (lk 2 st.t=.ptr 1 0/\lk 8 st.t=.ptr 3 0/\lk 75 st.t=.fn 159 [] []/\st.h=[.cells (cellsOf .plea a0),.cells [.v (.int .i64 0)],.mp .int .bool (f6 a0) none,.cells [.os 2]]/\fj ((aA).map Dq)) (jO (p5 a0) aA ()) (fun _=>.ret) (fun x_1_0=>⟨[(2,.ptr 1 0),(8,.ptr 3 0)],[.dead,.cells [.v (.int .i64 510)],.mp .int .bool (f6 a0) none,.cells [.os 2]]⟩) (fun s_1=>⟨[(2,.ptr 1 0),(8,.ptr 3 0)],[.dead,.cells [.v (.int .i64 0)],.mp .int .bool (f6 a0) none,.cells [.os 2]]⟩))else none),?_,?_⟩
 ·unfold ae Tryz.f67;simp only[am,true_and,and_true];refine⟨?_,?_⟩
  ·refine a_ mixed ak hG kr (fun _=>rfl) (a0.clauses.length:Int) rfl gA (fun hb0 k_0 s_0 hlt0 hq0 hw hc=>⟨L0,ag _,?_⟩) (fun hb0 s_0 hc=>?_)
   ·unfold kJ at hq0;try simp only[hw,Int.toNat_natCast]at hq0
    exact bi (jl [0,1])
   ·exact ba (jl [0,1])
  ·refine xz mixed ak hG (by decide) (by decide) kr kr fun st lc hC hp=>?_;simp only[go_sem,Nat.reduceBEq,Option.some.injEq]at hC;subst hC;obtain⟨t,h⟩:=st;dsimp only[LC]at hp;obtain⟨e1_0,e1_1,e1_2,rfl,hb1⟩:=hp;refine⟨159,[],Int,_,_,aA,Dq,(p5 a0),(AG a0),_,(),_,_,_,[(2,.ptr 1 0),(8,.ptr 3 0)],(fun s_1=>[.dead,.cells [.v (.int .i64 0)],.mp .int .bool (f6 a0) none,.cells [.os 2]]),(fun x_1_0=>[.dead,.cells [.v (.int .i64 510)],.mp .int .bool (f6 a0) none,.cells [.os 2]]),[0,1,2,3],?_,rfl,FY _ _ fun _ _ _=>trivial,nbl rfl,?_,sn _ hb1,fun z_1 s_1 hq1=>⟨rfl,L0,fun l=>?_,fun l=>?_,?_⟩,fun s_1=>?_,fun y=>?_⟩
   ·simp only[go_sem,e1_0,e1_1,e1_2]
   ·simp only[go_sem,Nat.reduceBEq,Nat.reduceLeDiff,Nat.reduceLT,decide_true,Nat.reduceAdd,Nat.reduceSub,Nat.reduceMul,Int.reduceLE,Int.reduceLT,Int.reduceToNat,Int.reduceNeg,reduceCtorEq,v7,od,List.flatMap_cons,List.flatMap_nil,List.nil_append,List.append_nil,List.map_nil,e1_0,e1_1,e1_2];all_goals (first|done|decide|(repeat' (first|refine And.intro ?_ ?_|rfl|decide)))
   ·simp only[am,and_self,true_and,and_true]
   ·simp only[am,and_self,true_and,and_true]
   ·skip
    exact ZG (jl [0,1,2,3])
   ·exact Tj (jl [0,1,2,3])
   ·exact Tj (jl [0,1,2,3])
 ·unfold ae Tryz.f67;try unfold iW
  exact ZH
def kK (k1:PleasCourt)(q1:Int):Bool:=(lZ k1 q1)
@[go_sem] def n8:List SV->Option Con:=(pFn 170 (pXX .pleasCourt fun k1=>(pX .int fun q1=>(pE ((pE (.det True (.v (.bool (kK k1 q1))))))))))
theorem th:FnOk Tryz.prog 177 n8:=by
 have hG:ConsOk Tryz.prog (mkG [(170,ph)] []):=ar (cgc uz cg0) cg0;refine ay [.o] mixed ak hG (fn:=Tryz.f177) (c:=ae Tryz.f177) kr kr kr kr (bJ (bK fun k1=>(aQ fun q1=>(ai ((ai (fun hp=>?_)))))));dsimp only[ax]at hp;refine⟨nbl rfl,L0,ag _,?_⟩
 ·unfold ae Tryz.f177;try unfold kK
  exact zq1
def kL (k2:PleasCourt)(q2:Int):Bool:=(l5 k2 q2)
@[go_sem] def n9:List SV->Option Con:=(pFn 171 (pXX .pleasCourt fun k2=>(pX .int fun q2=>(pE ((pE (.det True (.v (.bool (kL k2 q2))))))))))
theorem tj:FnOk Tryz.prog 177 n9:=by
 have hG:ConsOk Tryz.prog (mkG [(171,pi)] []):=ar (cgc uA cg0) cg0;refine ay [.o] mixed ak hG (fn:=Tryz.f177) (c:=ae Tryz.f177) kr kr kr kr (bJ (bK fun k2=>(aQ fun q2=>(ai ((ai (fun hp=>?_)))))));dsimp only[ax]at hp;refine⟨nbl rfl,L0,ag _,?_⟩
 ·unfold ae Tryz.f177;try unfold kL
  exact zq1
def kM (k3:PleasCourt)(q3:Int):Bool:=(l6 k3 q3)
@[go_sem] def n_:List SV->Option Con:=(pFn 173 (pXX .pleasCourt fun k3=>(pX .int fun q3=>(pE ((pE (.det True (.v (.bool (kM k3 q3))))))))))
theorem tl:FnOk Tryz.prog 177 n_:=by
 have hG:ConsOk Tryz.prog (mkG [(173,pj)] []):=ar (cgc uB cg0) cg0;refine ay [.o] mixed ak hG (fn:=Tryz.f177) (c:=ae Tryz.f177) kr kr kr kr (bJ (bK fun k3=>(aQ fun q3=>(ai ((ai (fun hp=>?_)))))));dsimp only[ax]at hp;refine⟨nbl rfl,L0,ag _,?_⟩
 ·unfold ae Tryz.f177;try unfold kM
  exact zq1
@[go_sem] noncomputable def ip:List SV->Option Con:=fun l=>(orC (n8 l) (orC (n9 l) (n_ l)))
theorem tE:FnOk Tryz.prog 177 ip:=(FnOk.or th (FnOk.or tj tl))
@[go_sem] def db (k1:PleasCourt)(q1:Int)(k2:PleasCourt)(q2:Int)(k3:PleasCourt)(q3:Int)(k_0:Nat)(s_0:Unit):Int⊕Unit:=(bif(Nat.beq k_0 0)then(bif(kK k1 q1)then .inl 0 else .inr ())else(bif(Nat.beq k_0 1)then(bif(kL k2 q2)then .inl 1 else .inr ())else(bif(kM k3 q3)then .inl 2 else .inr ())))
def g6 (k1:PleasCourt)(q1:Int)(k2:PleasCourt)(q2:Int)(k3:PleasCourt)(q3:Int)(k_0:Nat)(s_0:Unit):Prop:=True
def fD (k1:PleasCourt)(q1:Int)(k2:PleasCourt)(q2:Int)(k3:PleasCourt)(q3:Int):Int:=(match an (db k1 q1 k2 q2 k3 q3) 3 0 ()with| .inl x_0_0=>x_0_0| .inr s_0=>(-1))
@[go_sem] def iy:List SV->Option Con:=(pLS (pFn 170 (pXX .pleasCourt fun k1=>(pX .int fun q1=>(pE ((pFn 171 (pXX .pleasCourt fun k2=>(pX .int fun q2=>(pE ((pFn 173 (pXX .pleasCourt fun k3=>(pX .int fun q3=>(pE ((pE ((pFn 177 (pE ((pE (.det True (.v (.int .i64 (fD k1 q1 k2 q2 k3 q3))))))))))))))))))))))))))
theorem ZI {p:Prop}(h:p:=by simp only[go_sem,Nat.reduceBEq,Nat.reduceLeDiff,Nat.reduceLT,decide_true,Nat.reduceAdd,Nat.reduceSub,Nat.reduceMul,Int.reduceLE,Int.reduceLT,Int.reduceToNat,Int.reduceNeg,reduceCtorEq,ip];all_goals exact cl):p:=h
theorem mC:FnOk Tryz.prog 210 iy:=by
 have hG:ConsOk Tryz.prog (mkG [(177,ip)] []):=ar (cgc tE cg0) cg0;refine ay [.o] mixed ak hG (fn:=Tryz.f210) (c:=ae Tryz.f210) kr kr kr kr (K7 (bJ (bK fun k1=>(aQ fun q1=>(ai ((bJ (bK fun k2=>(aQ fun q2=>(ai ((bJ (bK fun k3=>(aQ fun q3=>(ai ((ai ((bJ (ai ((ai (fun hp=>?_)))))))))))))))))))))));dsimp only[ax]at hp;refine⟨nbl rfl,(fun id st=>bif Nat.beq id 0 then some (LC (ρ:=Int) (σ:=Unit) (lk 0 st.t=.ls [.fn 170 [] [.ep [.ep (cellsOf .pleasCourt k1) 0] 0,.ep [.v (.int .i64 q1)] 0],.fn 171 [] [.ep [.ep (cellsOf .pleasCourt k2) 0] 0,.ep [.v (.int .i64 q2)] 0],.fn 173 [] [.ep [.ep (cellsOf .pleasCourt k3) 0] 0,.ep [.v (.int .i64 q3)] 0]]/\lk 1 st.t=.fn 177 [] []/\lk 7 st.t=.v (.int .i64 3)/\lk 8 st.t=.v (.int .i64 0)/\st.h=[]) (an (db k1 q1 k2 q2 k3 q3) 3 0 ()) (fun _=>.ret) (fun x_0_0=>⟨[(4,.v (.int .i64 x_0_0))],[]⟩) (fun s_0=>⟨[],[]⟩))else none),?_,?_⟩
 ·unfold ae Tryz.f210;simp only[am,true_and,and_true]
  ·refine Mq mixed ak hG kr fun st lc hC hp=>?_;simp only[go_sem,Nat.reduceBEq,Option.some.injEq]at hC;subst hC;obtain⟨t,h⟩:=st;dsimp only[LC]at hp;obtain⟨e0_0,e0_1,e0_2,e0_3,rfl⟩:=hp;refine⟨_,_,_,(db k1 q1 k2 q2 k3 q3),(g6 k1 q1 k2 q2 k3 q3),3,(),_,_,_,(fun k_0 s_0=>⟨[(0,.ls [.fn 170 [] [.ep [.ep (cellsOf .pleasCourt k1) 0] 0,.ep [.v (.int .i64 q1)] 0],.fn 171 [] [.ep [.ep (cellsOf .pleasCourt k2) 0] 0,.ep [.v (.int .i64 q2)] 0],.fn 173 [] [.ep [.ep (cellsOf .pleasCourt k3) 0] 0,.ep [.v (.int .i64 q3)] 0]]),(1,.fn 177 [] []),(7,.v (.int .i64 3)),(8,.v (.int .i64 (k_0:Int)))],[]⟩),⟨t,[]⟩,[],rfl,j7 _ _ _ fun _ _ _ _=>trivial,NilS.refl _,nbl rfl,?_,fun k_0 s_0 hk0 hp0=>?_⟩
   ·simp only[go_sem,Nat.reduceBEq,Nat.reduceLeDiff,Nat.reduceLT,decide_true,Nat.reduceAdd,Nat.reduceSub,Nat.reduceMul,Int.reduceLE,Int.reduceLT,Int.reduceToNat,Int.reduceNeg,reduceCtorEq,e0_0,e0_1,e0_2,e0_3];all_goals (first|done|decide|(repeat' (first|refine And.intro ?_ ?_|rfl|decide)))
   refine⟨L0,?_,?_⟩
   ·simp only[am,and_self,true_and,and_true]
   ·have hkk:k_0=0\/k_0=1\/k_0=2\/k_0=3:=by omega
    have hw0_0:i64.wrap ((0:Int)+1)=((0+1:Nat):Int):=by decide
    have hw0_1:i64.wrap ((1:Int)+1)=((1+1:Nat):Int):=by decide
    have hw0_2:i64.wrap ((2:Int)+1)=((2+1:Nat):Int):=by decide
    rcases hkk with rfl|rfl|rfl|rfl;all_goals try (have hq0:=hp0 (by decide))
    all_goals try unfold g6 at hq0
    all_goals try simp only[go_sem,Nat.reduceBEq,Nat.reduceEqDiff,cond_true,cond_false,true_imp_iff,false_imp_iff,Bool.false_eq_true,true_and,and_true,reduceCtorEq]at hq0
    all_goals simp only[go_sem,Nat.reduceBEq,Nat.reduceLeDiff,Nat.reduceLT,decide_true,Nat.reduceAdd,Nat.reduceSub,Nat.reduceMul,Int.reduceLE,Int.reduceLT,Int.reduceToNat,Int.reduceNeg,reduceCtorEq,ip,db,Int.cast_ofNat_Int,Nat.reduceLT,Nat.reduceEqDiff]
    all_goals exact jA (jl [])
 ·unfold ae Tryz.f210;try unfold fD
  exact ZI
def fb (k1:PleasCourt)(q1:Int)(k2:PleasCourt)(q2:Int)(k3:PleasCourt)(q3:Int):Bool:=(decide ((fD k1 q1 k2 q2 k3 q3)>=0))
@[go_sem] def g7:List SV->Option Con:=(pLS (pFn 170 (pXX .pleasCourt fun k1=>(pX .int fun q1=>(pE ((pFn 171 (pXX .pleasCourt fun k2=>(pX .int fun q2=>(pE ((pFn 173 (pXX .pleasCourt fun k3=>(pX .int fun q3=>(pE ((pE ((pFn 177 (pE ((pE (.det True (.v (.bool (fb k1 q1 k2 q2 k3 q3))))))))))))))))))))))))))
theorem lD:FnOk Tryz.prog 176 g7:=by
 have hG:ConsOk Tryz.prog (mkG [(210,iy)] []):=ar (cgc mC cg0) cg0;refine ay [.o] mixed ak hG (fn:=Tryz.f176) (c:=ae Tryz.f176) kr kr kr kr (K7 (bJ (bK fun k1=>(aQ fun q1=>(ai ((bJ (bK fun k2=>(aQ fun q2=>(ai ((bJ (bK fun k3=>(aQ fun q3=>(ai ((ai ((bJ (ai ((ai (fun hp=>?_)))))))))))))))))))))));dsimp only[ax]at hp;refine⟨nbl rfl,L0,ag _,?_⟩
 ·unfold ae Tryz.f176;try unfold fb
  exact zq1
def iL (k_:PleasCourt)(q:Int):Bool:=((!(dS .int .bool k_.strict q))&&(fb k_ q k_ q k_ q))
@[go_sem] def qn:List SV->Option Con:=(pX .pleasCourt fun k_=>(pI fun q=>(pE (.det True (.v (.bool (iL k_ q)))))))
theorem vW:FnOk Tryz.prog 134 qn:=by
 have hG:ConsOk Tryz.prog (mkG [(176,g7)] []):=ar (cgc lD cg0) cg0;refine ay [.o] mixed ak hG (fn:=Tryz.f134) (c:=ae Tryz.f134) kr kr kr kr (aQ fun k_=>(cI fun q=>(ai (fun hp=>?_))));dsimp only[ax]at hp;refine⟨nbl rfl,L0,ag _,?_⟩
 ·unfold ae Tryz.f134;try unfold iL
  exact zq1
def Vn (k:Option HCon):List Ob->Option HCon
 | [] =>k
 |_=>none
@[go_sem] theorem ZJ {k:Option HCon}:Vn k []=k:=(rfl)
theorem Pj {k:Option HCon}{h:List Ob}{c:HCon}(e:Vn k h=some c):h=[]/\k=some c:=by
 cases h with
 |nil=>exact⟨rfl,e⟩
 |cons=>cases e
@[go_sem] def Vo (p:Plea)(st:List (Int×Bool))(kn:List (Int×Int)):List Ob:=[.cells [.rs .int p.facts,.rs .clause p.clauses,.os 1,.os 2],.mp .int .bool st none,.mp .int .int kn none]
@[go_sem] noncomputable def qG:List SV->List Ob->Option HCon:=fun l h=>Vn (pD .plea (fun p=>pE (jQ (ix p) (.ptr 0 0) (Vo p (f6 p) []))) l) h
theorem zF:FnOkO Tryz.prog 84 qG:=by
 have hG:ConsOk Tryz.prog (mkG [(118,fun l=>td (bp [.st .plea] l))] []):=ar (cgc (wg.norm [.st .plea]) cg0) cg0;refine py mixed ak hG (fn:=Tryz.f84) (c:=ae Tryz.f84) kr kr kr kr fun l o con h=>?_;unfold qG at h;obtain⟨rfl,h⟩:=Pj h;obtain⟨p,r1,rfl,h1⟩:=N9 h;obtain⟨rfl,rfl⟩:=CT h1;clear h h1;refine⟨_,_,_,rfl,fun hp=>?_⟩;refine⟨nbl rfl,L0,ag _,?_⟩;unfold ae Tryz.f84;simp only[go_sem,Nat.reduceBEq,Nat.reduceLeDiff,Nat.reduceLT,decide_true,Nat.reduceAdd,Nat.reduceSub,Nat.reduceMul,Int.reduceLE,Int.reduceLT,Int.reduceToNat,Int.reduceNeg,reduceCtorEq];refine⟨hp,rfl,?_⟩;exact fk (jl [3,1,2])
def e_ (x:Reason)(facts:List Int)(clauses:List Clause)(strict_:List (Int×Bool))(known_:List (Int×Int)):List (Int×Int):=(bif x.proved then(lF .int .int (lF .int .int known_ x.literal 2) x.literal 1)else(lF .int .int known_ x.literal 2))
noncomputable def oj:List SV->List Ob->Option HCon:=qz (fun x_:Reason×(List Int)×(List Clause)×(List (Int×Bool))×(List (Int×Int)) =>[.ptr 0 0,.agg (cellsOf .reason x_.1)]) (fun x_=>[.cells [.rs .int x_.2.1,.rs .clause x_.2.2.1,.os 1,.os 2],.mp .int .bool x_.2.2.2.1 none,.mp .int .int x_.2.2.2.2 none]) (fun x_=>jQ True (.tup []) [.cells [.rs .int x_.2.1,.rs .clause x_.2.2.1,.os 1,.os 2],.mp .int .bool x_.2.2.2.1 none,.mp .int .int (e_ x_.1 x_.2.1 x_.2.2.1 x_.2.2.2.1 x_.2.2.2.2) none])
@[go_sem] theorem Gg (x:Reason)(facts:List Int)(clauses:List Clause)(strict_:List (Int×Bool))(known_:List (Int×Int)){p1_:Option (Nat×Option Tag.int.T)}(hp1_:p1_=none){p2_:Option (Nat×Option Tag.int.T)}(hp2_:p2_=none):oj ([.ptr 0 0,.agg [.v (.int .i64 x.literal),.v (.int .i64 x.clause),.v (.bool x.proved)]]) ([.cells [.rs .int facts,.rs .clause clauses,.os 1,.os 2],.mp .int .bool strict_ p1_,.mp .int .int known_ p2_])=some (jQ True (.tup []) [.cells [.rs .int facts,.rs .clause clauses,.os 1,.os 2],.mp .int .bool strict_ none,.mp .int .int (e_ x facts clauses strict_ known_) none]):=by
 subst hp1_;subst hp2_;exact nT (A:=fun x_:Reason×(List Int)×(List Clause)×(List (Int×Bool))×(List (Int×Int)) =>[.ptr 0 0,.agg (cellsOf .reason x_.1)]) (H:=fun x_=>[.cells [.rs .int x_.2.1,.rs .clause x_.2.2.1,.os 1,.os 2],.mp .int .bool x_.2.2.2.1 none,.mp .int .int x_.2.2.2.2 none]) (K:=fun x_=>jQ True (.tup []) [.cells [.rs .int x_.2.1,.rs .clause x_.2.2.1,.os 1,.os 2],.mp .int .bool x_.2.2.2.1 none,.mp .int .int (e_ x_.1 x_.2.1 x_.2.2.1 x_.2.2.2.1 x_.2.2.2.2) none]) (x:=(x,facts,clauses,strict_,known_))
theorem xj:FnOkO Tryz.prog 135 (oj):=by
 have hG:ConsOk Tryz.prog (mkG [] []):=ar cg0 cg0;refine py mixed ak hG (fn:=Tryz.f135) (c:=ae Tryz.f135) kr kr kr kr fun l o con h=>?_;obtain⟨⟨x,facts,clauses,strict_,known_⟩,rfl,rfl,rfl⟩:=lp h;clear h;try dsimp only
 refine⟨_,_,_,rfl,fun hp=>?_⟩;refine⟨nbl rfl,L0,?_,?_⟩
 ·unfold ae Tryz.f135;simp only[am,and_self,true_and,and_true]
 ·unfold ae Tryz.f135;try unfold e_
  exact sS (jl [0,1,2])
end Go.Sx
end
section
namespace Go.Sx
open Go.RowKit
section
variable {P:Program}{ts:Tis}{G:Cons}{N:Nat}
theorem JV (hm:P.follows .mixedOrders=true)(hts:ts.ok P)(hG:ConsOk P G){id:Nat}{g:Operand}{ps:Array Tmp}{assign body:Code}{C:St->Option LCon}
  (hpn:ps.toList.Nodup) (hpN:∀ p∈ps.toList,p<N) (hca:cp N assign=true) (hcb:cp N body=true)
  (h:∀ st0 lc,C st0=some lc->lc.pre->∃ st,NilS st0 st/\∃ (f:FuncId) (caps:List SV) (τ ρ σ:Type) (l:List τ) (mk:τ->List SV) (step:τ->σ->ρ⊕σ) (p:τ->σ->Prop) (pre:Prop) (s0:σ) (exE:ρ->Ex) (outE:ρ->St) (outN:σ->St) (T:List (Nat×SV)) (H:σ->List Ob) (Hy:ρ->List Ob) (js:List Nat),
   raw st.t g=.fn f [] caps/\lc=LC pre (jO step l s0) exE outE outN/\okL step p l s0/\st.h.length<=(H s0).length/\Sub js st.h.length ⟨st.t,v7 (od st caps) st.h⟩ ⟨T,H s0⟩/\
   FV P f (fun y=>y::caps.map (ren (Jw (od st caps)) 3)) (HE (od st caps) st.h) (l.map mk)/\
   (∀ x s,p x s->(mk x).length=ps.size/\∃ L,(∀ l,am P (some l) N L assign)/\(∀ l,am P (some l) N L body)/\exec ts G L assign ⟨psT ps.toList (mk x)++T,H s⟩ (fun e st1=>e=.normal/\exec ts G L body st1 (rgQ step exE T H Hy st.h.length id x s)))/\
   (∀ s,jP (outN s) st.h.length ⟨T,H s⟩)/\∀ y,jP (outE y) st.h.length ⟨T,Hy y⟩):mL P none N id (.rangeFunc g ps assign body) C:=by
 intro nd F w0 st0 lc hC hpre own a w hr;obtain⟨st,hN,hrest⟩:=h st0 lc hC hpre;obtain⟨own',hr'⟩:=hN.rel hr;refine xz hm hts hG hpn hpN hca hcb (C:=fun s=>@ite _ (s=st) (Classical.propDecidable _) (some lc) none) (fun s l e _=>?_) nd F w0 st lc (if_pos rfl) hpre own' a w hr';split at e
 ·rename_i e1;subst e1;cases e;exact hrest
 ·cases e
end
end Go.Sx
end
section
namespace Go.Sx
open Go.Proofs
open IntKind (i64)
theorem Pm {l0 l1:List Nat}(a0:JL l0)(a1:JL l1){p:Prop}(h:JL l0->JL l1->p:=by intro ja jb;(first|done|(repeat' (first|with_reducible refine And.intro ?_ ?_|((with_reducible show _≠_);first|assumption|omega|(simp_all [et,fN];done) |grind) |with_reducible intro _)) <;>(first|done|with_reducible exact Empty.elim ‹Empty› |with_reducible assumption|rfl|omega|assumption|decide|exact fk ja|exact fk jb|exact czl|(simp only[*,cond_true,cond_false,Bool.not_true,Bool.not_false,go_sem,Nat.reduceBEq,Nat.reduceLeDiff,Nat.reduceLT,decide_true,Nat.reduceAdd,Nat.reduceSub,Nat.reduceMul,Int.reduceLE,Int.reduceLT,Int.reduceToNat,Int.reduceNeg,reduceCtorEq];(repeat' (first|with_reducible refine And.intro ?_ ?_|((with_reducible show _≠_);first|assumption|omega|(simp_all [et,fN];done) |grind) |with_reducible intro _)) <;>(first|done|assumption|rfl|omega|decide|exact fk ja|exact fk jb|(simp_all [et,fN];done))) |(simp_all [okI,et,fN];done) |(simp_all [et,fN];(first|done|exact fk2 ja|exact fk2 jb)) |exact fk2 ja|exact fk2 jb|(simp_all only[et,fN,cond_true,cond_false];(first|done|exact fk ja|exact fk jb|exact fk2 ja|exact fk2 jb|(simp only[go_sem,Nat.reduceBEq,Nat.reduceLeDiff,Nat.reduceLT,decide_true,Nat.reduceAdd,Nat.reduceSub,Nat.reduceMul,Int.reduceLE,Int.reduceLT,Int.reduceToNat,Int.reduceNeg,reduceCtorEq];((repeat' (first|with_reducible refine And.intro ?_ ?_|((with_reducible show _≠_);first|assumption|omega|(simp_all [et,fN];done) |grind) |with_reducible intro _)) <;>(first|done|rfl|exact fk ja|exact fk jb|exact fk2 ja|exact fk2 jb)))))))):p:=h a0 a1
theorem H5 {l0 l1 l2:List Nat}(a0:JL l0)(a1:JL l1)(a2:JL l2){p:Prop}(h:JL l0->JL l1->JL l2->p:=by intro ja jb jc;(first|done|(repeat' (first|with_reducible refine And.intro ?_ ?_|((with_reducible show _≠_);first|assumption|omega|(simp_all [et,fN];done) |grind) |with_reducible intro _)) <;>(first|done|with_reducible exact Empty.elim ‹Empty› |with_reducible assumption|rfl|omega|assumption|decide|exact fk ja|exact fk jb|exact fk jc|exact czl|(simp only[*,cond_true,cond_false,Bool.not_true,Bool.not_false,go_sem,Nat.reduceBEq,Nat.reduceLeDiff,Nat.reduceLT,decide_true,Nat.reduceAdd,Nat.reduceSub,Nat.reduceMul,Int.reduceLE,Int.reduceLT,Int.reduceToNat,Int.reduceNeg,reduceCtorEq];(repeat' (first|with_reducible refine And.intro ?_ ?_|((with_reducible show _≠_);first|assumption|omega|(simp_all [et,fN];done) |grind) |with_reducible intro _)) <;>(first|done|assumption|rfl|omega|decide|exact fk ja|exact fk jb|exact fk jc|(simp_all [et,fN];done))) |(simp_all [okI,et,fN];done) |(simp_all [et,fN];(first|done|exact fk2 ja|exact fk2 jb|exact fk2 jc)) |exact fk2 ja|exact fk2 jb|exact fk2 jc|(simp_all only[et,fN,cond_true,cond_false];(first|done|exact fk ja|exact fk jb|exact fk jc|exact fk2 ja|exact fk2 jb|exact fk2 jc|(simp only[go_sem,Nat.reduceBEq,Nat.reduceLeDiff,Nat.reduceLT,decide_true,Nat.reduceAdd,Nat.reduceSub,Nat.reduceMul,Int.reduceLE,Int.reduceLT,Int.reduceToNat,Int.reduceNeg,reduceCtorEq];((repeat' (first|with_reducible refine And.intro ?_ ?_|((with_reducible show _≠_);first|assumption|omega|(simp_all [et,fN];done) |grind) |with_reducible intro _)) <;>(first|done|rfl|exact fk ja|exact fk jb|exact fk jc|exact fk2 ja|exact fk2 jb|exact fk2 jc)))))))):p:=h a0 a1 a2
theorem Dt {l0:List Nat}(a0:JL l0){p:Prop}(h:JL l0->p:=by intro ja;(first|done|(repeat' (first|with_reducible refine And.intro ?_ ?_|((with_reducible show _≠_);first|assumption|omega|(simp_all [et,fN];done) |grind) |with_reducible intro _)) <;>(first|done|with_reducible exact Empty.elim ‹Empty› |with_reducible assumption|rfl|omega|assumption|decide|exact fk ja|exact czl|(simp only[*,cond_true,cond_false,Bool.not_true,Bool.not_false,go_sem,Nat.reduceBEq,Nat.reduceLeDiff,Nat.reduceLT,decide_true,Nat.reduceAdd,Nat.reduceSub,Nat.reduceMul,Int.reduceLE,Int.reduceLT,Int.reduceToNat,Int.reduceNeg,reduceCtorEq];(repeat' (first|with_reducible refine And.intro ?_ ?_|((with_reducible show _≠_);first|assumption|omega|(simp_all [et,fN];done) |grind) |with_reducible intro _)) <;>(first|done|assumption|rfl|omega|decide|exact fk ja|(simp_all [et,fN];done))) |(simp_all [okI,et,fN];done) |(simp_all [et,fN];(first|done|exact fk2 ja)) |exact fk2 ja|(simp_all only[et,fN,cond_true,cond_false];(first|done|exact fk ja|exact fk2 ja|(simp only[go_sem,Nat.reduceBEq,Nat.reduceLeDiff,Nat.reduceLT,decide_true,Nat.reduceAdd,Nat.reduceSub,Nat.reduceMul,Int.reduceLE,Int.reduceLT,Int.reduceToNat,Int.reduceNeg,reduceCtorEq];((repeat' (first|with_reducible refine And.intro ?_ ?_|((with_reducible show _≠_);first|assumption|omega|(simp_all [et,fN];done) |grind) |with_reducible intro _)) <;>(first|done|rfl|exact fk ja|exact fk2 ja)))))))):p:=h a0
theorem Pn {l0 l1:List Nat}(a0:JL l0)(a1:JL l1){p:Prop}(h:JL l0->JL l1->p:=by intro ja jb;simp only[go_sem,Nat.reduceBEq,Nat.reduceLeDiff,Nat.reduceLT,decide_true,Nat.reduceAdd,Nat.reduceSub,Nat.reduceMul,Int.reduceLE,Int.reduceLT,Int.reduceToNat,Int.reduceNeg,reduceCtorEq];all_goals exact Pm ja jb):p:=h a0 a1
theorem Po {l0:List Nat}(a0:JL l0){p:Prop}(h:JL l0->p:=by intro ja;simp only[go_sem,Nat.reduceBEq,Nat.reduceLeDiff,Nat.reduceLT,decide_true,Nat.reduceAdd,Nat.reduceSub,Nat.reduceMul,Int.reduceLE,Int.reduceLT,Int.reduceToNat,Int.reduceNeg,reduceCtorEq,hc,hw];all_goals exact Dt ja):p:=h a0
theorem Pp {l0:List Nat}(a0:JL l0){p:Prop}(h:JL l0->p:=by intro ja;simp only[go_sem,Nat.reduceBEq,Nat.reduceLeDiff,Nat.reduceLT,decide_true,Nat.reduceAdd,Nat.reduceSub,Nat.reduceMul,Int.reduceLE,Int.reduceLT,Int.reduceToNat,Int.reduceNeg,reduceCtorEq,hc];all_goals exact Dt ja):p:=h a0
@[go_sem] def aP (facts:List Int)(clauses:List Clause)(strict_:List (Int×Bool))(s_0:List (Int×Int)×List Reason)(z_1:Int)(s_1:List Reason):Empty⊕(List Reason):=letI q0:=({ plea:=({ facts:=facts,clauses:=clauses}:Plea),strict:=strict_,known:=s_0.1}:PleasCourt);(bif((dS .int .int s_0.1 z_1) !=0)then .inr s_1 else(bif(dS .int .bool strict_ z_1)then .inr (s_1++([({ literal:=z_1,clause:=0,proved:=true}:Reason)]))else(bif(jn q0 z_1)then .inr (s_1++([({ literal:=z_1,clause:=(lu q0 z_1),proved:=true}:Reason)]))else(bif(iL q0 z_1)then .inr (s_1++([({ literal:=z_1,clause:=0,proved:=false}:Reason)]))else .inr s_1))))
def c5 (facts:List Int)(clauses:List Clause)(strict_:List (Int×Bool))(s_0:List (Int×Int)×List Reason)(z_1:Int)(s_1:List Reason):Prop:=letI q0:=({ plea:=({ facts:=facts,clauses:=clauses}:Plea),strict:=strict_,known:=s_0.1}:PleasCourt);letI q1:=dS .int .bool strict_ z_1;letI q2:=jn q0 z_1;(((dS .int .int s_0.1 z_1) !=0)=false->((q1=true->((s_1++([({ literal:=z_1,clause:=0,proved:=true}:Reason)])).length*24<=c6))/\(q1=false->((q2=true->((s_1++([({ literal:=z_1,clause:=(lu q0 z_1),proved:=true}:Reason)])).length*24<=c6))/\(q2=false->((iL q0 z_1)=true->((s_1++([({ literal:=z_1,clause:=0,proved:=false}:Reason)])).length*24<=c6)))))))
@[go_sem] def ij (facts:List Int)(clauses:List Clause)(strict_:List (Int×Bool))(s_1:List Reason)(k_2:Nat)(s_2:List (Int×Int)):Empty⊕(List (Int×Int)):=.inr (e_ (s_1.getD k_2 default) facts clauses strict_ s_2)
@[go_sem] def fR (facts:List Int)(clauses:List Clause)(strict_:List (Int×Bool))(k_0:Nat)(s_0:List (Int×Int)×List Reason):(List (Int×Int)×List Reason)⊕(List (Int×Int)×List Reason):=(match jO (aP facts clauses strict_ s_0) aA ([])with| .inl x=>x.elim| .inr s_1=>(bif((s_1.length:Int) ==0)then .inl (s_0.1,s_0.2)else(match an (ij facts clauses strict_ s_1) s_1.length 0 s_0.1 with| .inl x=>x.elim| .inr s_2=>.inr (s_2,(s_0.2++s_1)))))
def gh (facts:List Int)(clauses:List Clause)(strict_:List (Int×Bool))(k_0:Nat)(s_0:List (Int×Int)×List Reason):Prop:=letI q0:=aP facts clauses strict_ s_0;((fj ((aA).map Dq))/\okL q0 (c5 facts clauses strict_ s_0) aA ([])/\(∀ s_1,jO q0 aA ([])=.inr s_1->(s_1.length<=aD->(((s_1.length:Int) ==0)=false->(s_1.length<=aD->(∀ s_2,an (ij facts clauses strict_ s_1) s_1.length 0 s_0.1=.inr s_2->((s_0.2++s_1).length*24<=c6)))))))
def fl (facts:List Int)(clauses:List Clause)(strict_:List (Int×Bool))(known_:List (Int×Int)):(List (Int×Int))×(List Reason):=(match an (fR facts clauses strict_) 130 0 (known_,[])with| .inl x_0_0=>(x_0_0.1,x_0_0.2) | .inr s_0=>default)
def eo (facts:List Int)(clauses:List Clause)(strict_:List (Int×Bool))(known_:List (Int×Int)):Prop:=(okI (fR facts clauses strict_) (gh facts clauses strict_) 130 0 (known_,[])/\(∀ z_,an (fR facts clauses strict_) 130 0 (known_,[])≠ .inr z_))
noncomputable def ny:List SV->List Ob->Option HCon:=qz (fun x_:(List Int)×(List Clause)×(List (Int×Bool))×(List (Int×Int)) =>[.ptr 0 0]) (fun x_=>[.cells [.rs .int x_.1,.rs .clause x_.2.1,.os 1,.os 2],.mp .int .bool x_.2.2.1 none,.mp .int .int x_.2.2.2 none]) (fun x_=>jQ (eo x_.1 x_.2.1 x_.2.2.1 x_.2.2.2) (.os 3) [.cells [.rs .int x_.1,.rs .clause x_.2.1,.os 1,.os 2],.mp .int .bool x_.2.2.1 none,.mp .int .int ((fl x_.1 x_.2.1 x_.2.2.1 x_.2.2.2).1) none,.row .reason ((fl x_.1 x_.2.1 x_.2.2.1 x_.2.2.2).2)])
@[go_sem] theorem E0 (facts:List Int)(clauses:List Clause)(strict_:List (Int×Bool))(known_:List (Int×Int)){p1_:Option (Nat×Option Tag.int.T)}(hp1_:p1_=none){p2_:Option (Nat×Option Tag.int.T)}(hp2_:p2_=none):ny ([.ptr 0 0]) ([.cells [.rs .int facts,.rs .clause clauses,.os 1,.os 2],.mp .int .bool strict_ p1_,.mp .int .int known_ p2_])=some (jQ (eo facts clauses strict_ known_) (.os 3) [.cells [.rs .int facts,.rs .clause clauses,.os 1,.os 2],.mp .int .bool strict_ none,.mp .int .int ((fl facts clauses strict_ known_).1) none,.row .reason ((fl facts clauses strict_ known_).2)]):=by
 subst hp1_;subst hp2_;exact nT (A:=fun x_:(List Int)×(List Clause)×(List (Int×Bool))×(List (Int×Int)) =>[.ptr 0 0]) (H:=fun x_=>[.cells [.rs .int x_.1,.rs .clause x_.2.1,.os 1,.os 2],.mp .int .bool x_.2.2.1 none,.mp .int .int x_.2.2.2 none]) (K:=fun x_=>jQ (eo x_.1 x_.2.1 x_.2.2.1 x_.2.2.2) (.os 3) [.cells [.rs .int x_.1,.rs .clause x_.2.1,.os 1,.os 2],.mp .int .bool x_.2.2.1 none,.mp .int .int ((fl x_.1 x_.2.1 x_.2.2.1 x_.2.2.2).1) none,.row .reason ((fl x_.1 x_.2.1 x_.2.2.1 x_.2.2.2).2)]) (x:=(facts,clauses,strict_,known_))
theorem ZK {l0 l1 l2:List Nat}(a0:JL l0)(a1:JL l1)(a2:JL l2){p:Prop}(h:JL l0->JL l1->JL l2->p:=by intro ja jb jc;simp only[go_sem,Nat.reduceBEq,Nat.reduceLeDiff,Nat.reduceLT,decide_true,Nat.reduceAdd,Nat.reduceSub,Nat.reduceMul,Int.reduceLE,Int.reduceLT,Int.reduceToNat,Int.reduceNeg,reduceCtorEq,aP,psT,Dq,List.cons_append,List.nil_append];all_goals exact H5 ja jb jc):p:=h a0 a1 a2
theorem Tk {l0 l1 l2:List Nat}(a0:JL l0)(a1:JL l1)(a2:JL l2){p:Prop}(h:JL l0->JL l1->JL l2->p:=by intro ja jb jc;simp only[go_sem,Nat.reduceBEq,Nat.reduceLeDiff,Nat.reduceLT,decide_true,Nat.reduceAdd,Nat.reduceSub,Nat.reduceMul,Int.reduceLE,Int.reduceLT,Int.reduceToNat,Int.reduceNeg,reduceCtorEq];all_goals exact H5 ja jb jc):p:=h a0 a1 a2
theorem ZL {l0:List Nat}(a0:JL l0){p:Prop}(h:JL l0->p:=by intro ja;simp only[go_sem,Nat.reduceBEq,Nat.reduceLeDiff,Nat.reduceLT,decide_true,Nat.reduceAdd,Nat.reduceSub,Nat.reduceMul,Int.reduceLE,Int.reduceLT,Int.reduceToNat,Int.reduceNeg,reduceCtorEq];all_goals exact Dt ja):p:=h a0
theorem wr:FnOkO Tryz.prog 85 (ny):=by
 have hG:ConsOk Tryz.prog (mkG [(119,fun l=>qF (bp [] l)),(132,rF),(133,rB),(134,qn)] [(135,oj)]):=ar (cgc (t_.norm []) (cgc wq (cgc wn (cgc vW cg0)))) (cgc xj cg0);refine py mixed ak hG (fn:=Tryz.f85) (c:=ae Tryz.f85) kr kr kr kr fun l o con h=>?_;obtain⟨⟨facts,clauses,strict_,known_⟩,rfl,rfl,rfl⟩:=lp h;clear h;try dsimp only
 refine⟨_,_,_,rfl,fun hp=>?_⟩;unfold eo at hp;refine⟨nbl rfl,(fun id st=>bif Nat.beq id 0 then some (LCV (ρ:=(List (Int×Int)×List Reason)) (σ:=(List (Int×Int)×List Reason)) 4 [.slot 2 (.row .reason ([]))] [0,1,2,3,4] (fun k_0 s_0=>⟨[(1,.ptr 3 0),(2,.os 4)],[.cells [.rs .int facts,.rs .clause clauses,.os 1,.os 2],.mp .int .bool strict_ none,.mp .int .int s_0.1 none,.cells [.ptr 0 0],.row .reason s_0.2]⟩) (fR facts clauses strict_) (gh facts clauses strict_) 130 (known_,[]) (fun _=>.ret) (fun x_0_0=>⟨[(2,.os 4)],[.cells [.rs .int facts,.rs .clause clauses,.os 1,.os 2],.mp .int .bool strict_ none,.mp .int .int x_0_0.1 none,.dead,.row .reason x_0_0.2]⟩) st)else none),?_,?_⟩
 ·unfold ae Tryz.f85;simp only[am,true_and,and_true,and_assoc]
  ·refine rq mixed ak hG kr (fun _=>rfl) fun k_0 s_0 hq0=>⟨(fun id st=>bif Nat.beq id 2 then some (LC (ρ:=Empty) (σ:=List Reason) (lk 1 st.t=.ptr 3 0/\lk 2 st.t=.os 4/\lk 3 st.t=.ptr 5 0/\lk 7 st.t=.fn 159 [] []/\st.h=[.cells [.rs .int facts,.rs .clause clauses,.os 1,.os 2],.mp .int .bool strict_ none,.mp .int .int s_0.1 none,.cells [.ptr 0 0],.row .reason s_0.2,.cells [.v (.slice none 0 0)]]/\fj ((aA).map Dq)/\okL (aP facts clauses strict_ s_0) (c5 facts clauses strict_ s_0) aA ([])) (jO (aP facts clauses strict_ s_0) aA ([])) (fun x=>x.elim) (fun x=>x.elim) (fun s_1=>⟨[(1,.ptr 3 0),(2,.os 4),(3,.ptr 5 0)],[.cells [.rs .int facts,.rs .clause clauses,.os 1,.os 2],.mp .int .bool strict_ none,.mp .int .int s_0.1 none,.cells [.ptr 0 0],.row .reason s_0.2,.cells [.os 7],.dead,.row .reason s_1]⟩))else bif Nat.beq id 5 then some (LCR (ρ:=Empty) (σ:=(List (Int×Int))) 8 [] [0,1,2,3,4,5,6,7] (fun k_2 s_2=>⟨[(1,.ptr 3 0),(2,.os 4),(3,.ptr 5 0),(54,.os 7),(55,.v (.int .i64 ((et (jO (aP facts clauses strict_ s_0) aA ([]))).length:Int))),(56,.v (.int .i64 (k_2:Int)))],[.cells [.rs .int facts,.rs .clause clauses,.os 1,.os 2],.mp .int .bool strict_ none,.mp .int .int s_2 none,.cells [.ptr 0 0],.row .reason s_0.2,.cells [.os 7],.dead,.row .reason (et (jO (aP facts clauses strict_ s_0) aA ([])))]⟩) (ij facts clauses strict_ (et (jO (aP facts clauses strict_ s_0) aA ([])))) pT ((et (jO (aP facts clauses strict_ s_0) aA ([]))).length) s_0.1 ((et (jO (aP facts clauses strict_ s_0) aA ([]))).length<=aD) ((·.elim)) ((·.elim)) st)else none),?_,?_⟩
   ·simp only[am,true_and,and_true];refine⟨?_,?_⟩
    ·refine JV mixed ak hG (by decide) (by decide) kr kr fun st lc hC hp=>?_;simp only[go_sem,Nat.reduceBEq,Option.some.injEq]at hC;subst hC;obtain⟨t,h⟩:=st;dsimp only[LC]at hp;obtain⟨e1_0,e1_1,e1_2,e1_3,rfl,hb1,hok1⟩:=hp;refine⟨⟨t,[.cells [.rs .int facts,.rs .clause clauses,.os 1,.os 2],.mp .int .bool strict_ none,.mp .int .int s_0.1 none,.cells [.ptr 0 0],.row .reason s_0.2,.cells [.os 6],.row .reason ([])]⟩,NilS.cell (h:=[.cells [.rs .int facts,.rs .clause clauses,.os 1,.os 2],.mp .int .bool strict_ none,.mp .int .int s_0.1 none,.cells [.ptr 0 0],.row .reason s_0.2,.cells [.v (.slice none 0 0)]]) (i:=5) (j:=0) (.row .reason ([])) (NilS.refl _) rfl rfl (.inl ⟨_,rfl⟩),159,[],Int,_,_,aA,Dq,(aP facts clauses strict_ s_0),(c5 facts clauses strict_ s_0),_,([]),_,_,_,[(1,.ptr 3 0),(2,.os 4),(3,.ptr 5 0)],(fun s_1=>[.cells [.rs .int facts,.rs .clause clauses,.os 1,.os 2],.mp .int .bool strict_ none,.mp .int .int s_0.1 none,.cells [.ptr 0 0],.row .reason s_0.2,.cells [.os 7],.dead,.row .reason s_1]),(fun x=>x.elim),[0,1,2,3,4,5,6,6],?_,rfl,hok1,nbl rfl,?_,sn _ hb1,fun z_1 s_1 hq1=>⟨rfl,L0,fun l=>?_,fun l=>?_,?_⟩,fun s_1=>?_,fun y=>?_⟩
     ·simp only[go_sem,e1_0,e1_1,e1_2,e1_3]
     ·simp only[go_sem,Nat.reduceBEq,Nat.reduceLeDiff,Nat.reduceLT,decide_true,Nat.reduceAdd,Nat.reduceSub,Nat.reduceMul,Int.reduceLE,Int.reduceLT,Int.reduceToNat,Int.reduceNeg,reduceCtorEq,v7,od,List.flatMap_cons,List.flatMap_nil,List.nil_append,List.append_nil,List.map_nil,e1_0,e1_1,e1_2,e1_3];all_goals (first|done|decide|(repeat' (first|refine And.intro ?_ ?_|rfl|decide)))
     ·simp only[am,and_self,true_and,and_true]
     ·simp only[am,and_self,true_and,and_true]
     ·unfold c5 at hq1;exact ZK (jl [0,1,2,3,4,5,6,7]) (jl [0,1,2,3,4,5,6,9]) (jl [0,1,2,3,4,5,6,8])
     ·exact Tk (jl [0,1,2,3,4,5,6,7]) (jl [0,1,2,3,4,5,6,9]) (jl [0,1,2,3,4,5,6,8])
     ·exact Tk (jl [0,1,2,3,4,5,6,7]) (jl [0,1,2,3,4,5,6,9]) (jl [0,1,2,3,4,5,6,8])
    ·refine a_ mixed ak hG kr (fun _=>rfl) ((et (jO (aP facts clauses strict_ s_0) aA ([]))).length:Int) rfl gA (fun hb2 k_2 s_2 hlt2 _ hw hc=>⟨L0,ag _,?_⟩) (fun hb2 s_2 hc=>?_)
     ·exact Po (jl [0,1,2,3,4,5,6,7])
     ·exact Pp (jl [0,1,2,3,4,5,6,7])
   ·unfold gh at hq0;exact Pn (jl [0,1,2,3,8]) (jl [0,1,2,3,4])
 ·unfold ae Tryz.f85;try unfold fl
  exact ZL (jl [0,1,2,4])
def bM (p:Plea)(q:Int):Int×Int:=letI q0:=dS .int .int ((fl p.facts p.clauses (f6 p) ([])).1) q;(bif((iW p) !=0)then(0,(iW p))else(bif(!(iV q))then(0,1)else(bif(q0==0)then(3,0)else(q0,0))))
def iz (p:Plea)(q:Int):Prop:=((iX p)/\(((iW p) !=0)=false->((!(iV q))=false->((ix p)/\(eo p.facts p.clauses (f6 p) ([]))))))
@[go_sem] def p6:List SV->Option Con:=(pD .plea fun p=>(pI fun q=>(pE (.det (iz p q) (.tup [.v (.int .i64 ((bM p q).1)),.v (.int .i64 ((bM p q).2))])))))
theorem rX:FnOk Tryz.prog 35 p6:=by
 have hG:ConsOk Tryz.prog (mkG [(67,fun l=>qS (bp [.st .plea] l)),(83,oH)] [(84,qG),(85,ny)]):=ar (cgc (tg.norm [.st .plea]) (cgc qD cg0)) (cgc zF (cgc wr cg0));refine ay [.o,.o] mixed ak hG (fn:=Tryz.f35) (c:=ae Tryz.f35) kr kr kr kr (bk fun p=>(cI fun q=>(ai (fun hp=>?_))));dsimp only[ax]at hp;unfold iz at hp;refine⟨nbl rfl,L0,ag _,?_⟩
 ·unfold ae Tryz.f35;try unfold bM
  exact zq1
@[go_sem] def ka (a0:Cases)(a1:Suit)(k_0:Nat)(s_0:List Int):Empty⊕(List Int):=(bif((a0.sides.getD (Int.toNat (a1.facts.getD k_0 0)) 0) ==1)then .inr (s_0++([(a1.facts.getD k_0 0)]))else .inr s_0)
def l8 (a0:Cases)(a1:Suit)(k_0:Nat)(s_0:List Int):Prop:=((0<=(a1.facts.getD k_0 0)/\(a1.facts.getD k_0 0) < (a0.sides.length:Int))/\(((a0.sides.getD (Int.toNat (a1.facts.getD k_0 0)) 0) ==1)=true->((s_0++([(a1.facts.getD k_0 0)])).length*8<=c6)))
@[go_sem] def kc (a0:Cases)(a1:Suit)(k_1:Nat)(s_1:List Int):Empty⊕(List Int):=(bif((a0.sides.getD (Int.toNat (a1.facts.getD k_1 0)) 0) ==0)then .inr (s_1++([(a1.facts.getD k_1 0)]))else .inr s_1)
def l9 (a0:Cases)(a1:Suit)(k_1:Nat)(s_1:List Int):Prop:=((0<=(a1.facts.getD k_1 0)/\(a1.facts.getD k_1 0) < (a0.sides.length:Int))/\(((a0.sides.getD (Int.toNat (a1.facts.getD k_1 0)) 0) ==0)=true->((s_1++([(a1.facts.getD k_1 0)])).length*8<=c6)))
@[go_sem] def ke (a0:Cases)(a1:Suit)(k_2:Nat)(s_2:List Int):Empty⊕(List Int):=(bif((a0.sides.getD (Int.toNat (a1.facts.getD k_2 0)) 0) ==1)then .inr (s_2++([(a1.facts.getD k_2 0)]))else .inr s_2)
def ma (a0:Cases)(a1:Suit)(k_2:Nat)(s_2:List Int):Prop:=((0<=(a1.facts.getD k_2 0)/\(a1.facts.getD k_2 0) < (a0.sides.length:Int))/\(((a0.sides.getD (Int.toNat (a1.facts.getD k_2 0)) 0) ==1)=true->((s_2++([(a1.facts.getD k_2 0)])).length*8<=c6)))
@[go_sem] def kf (a0:Cases)(a1:Suit)(k_3:Nat)(s_3:List Int):Empty⊕(List Int):=(bif((a0.sides.getD (Int.toNat (a1.facts.getD k_3 0)) 0) ==0)then .inr (s_3++([(a1.facts.getD k_3 0)]))else .inr s_3)
def mb (a0:Cases)(a1:Suit)(k_3:Nat)(s_3:List Int):Prop:=((0<=(a1.facts.getD k_3 0)/\(a1.facts.getD k_3 0) < (a0.sides.length:Int))/\(((a0.sides.getD (Int.toNat (a1.facts.getD k_3 0)) 0) ==0)=true->((s_3++([(a1.facts.getD k_3 0)])).length*8<=c6)))
def bv (a0:Cases)(a1:Suit):Case×Int:=letI q0:=bM a1.plea a1.question;letI q1:=aj a0 a1.facts 0;letI q3:=aj a0 a1.facts 1;letI q4:=(a0.cases.length:Int);letI q2:=a0.cases.getD (Int.toNat (i64.wrap (q4 - 1))) default;letI q5:=dN a0;letI q6:=iW a1.plea;(bif(q5 !=0)then(({ no:=0,hour:=0,winner:=0,facts:=[],reason:=[]}:Case),q5)else(bif(q6 !=0)then(({ no:=0,hour:=0,winner:=0,facts:=[],reason:=[]}:Case),q6)else(bif(aw (q0.2==0) (q0.2))then(bif(aw (q1.2.2==0) (q1.2.2))then(bif(aw ((aG a1.no 0 1048576)&&(aG a1.hour 0 4096)) 520)then(bif(decide (q4 > 0))then(bif(aw ((decide (a1.no > q2.no))&&(decide (a1.hour>=q2.hour))) 520)then(bif((!q1.2.1)&&(q3.2.1||(q0.1 !=1)))then(match an (ka a0 a1) a1.facts.length 0 ([])with| .inl x=>x.elim| .inr s_0=>(({ no:=a1.no,hour:=a1.hour,winner:=1,facts:=a1.facts,reason:=s_0}:Case),0))else(match an (kc a0 a1) a1.facts.length 0 ([])with| .inl x=>x.elim| .inr s_1=>(({ no:=a1.no,hour:=a1.hour,winner:=0,facts:=a1.facts,reason:=s_1}:Case),0)))else(({ no:=0,hour:=0,winner:=0,facts:=[],reason:=[]}:Case),520))else(bif((!q1.2.1)&&(q3.2.1||(q0.1 !=1)))then(match an (ke a0 a1) a1.facts.length 0 ([])with| .inl x=>x.elim| .inr s_2=>(({ no:=a1.no,hour:=a1.hour,winner:=1,facts:=a1.facts,reason:=s_2}:Case),0))else(match an (kf a0 a1) a1.facts.length 0 ([])with| .inl x=>x.elim| .inr s_3=>(({ no:=a1.no,hour:=a1.hour,winner:=0,facts:=a1.facts,reason:=s_3}:Case),0))))else(({ no:=0,hour:=0,winner:=0,facts:=[],reason:=[]}:Case),520))else(({ no:=0,hour:=0,winner:=0,facts:=[],reason:=[]}:Case),(q1.2.2)))else(({ no:=0,hour:=0,winner:=0,facts:=[],reason:=[]}:Case),(q0.2)))))
def jp (a0:Cases)(a1:Suit):Prop:=letI q1:=bM a1.plea a1.question;letI q2:=aj a0 a1.facts 0;letI q3:=aj a0 a1.facts 1;letI q4:=(a0.cases.length:Int);letI q0:=i64.wrap (q4 - 1);letI q5:=a0.cases.getD (Int.toNat q0) default;letI q6:=q1.1 !=1;letI q7:=decide (a1.no > q5.no);((f_ a0)/\(((dN a0) !=0)=false->((iX a1.plea)/\(((iW a1.plea) !=0)=false->((iz a1.plea a1.question)/\((aw (q1.2==0) (q1.2))=true->((cT a0 a1.facts 0)/\((aw (q2.2.2==0) (q2.2.2))=true->((cT a0 a1.facts 1)/\((aw ((aG a1.no 0 1048576)&&(aG a1.hour 0 4096)) 520)=true->(a0.cases.length<=aD->(((decide (q4 > 0))=true->((0<=q0/\q0<q4)/\((q7=true->(0<=q0/\q0<q4))/\((aw (q7&&(decide (a1.hour>=q5.hour))) 520)=true->((((!q2.2.1)&&(q3.2.1||q6))=true->(a1.facts.length<=aD->okI (ka a0 a1) (l8 a0 a1) a1.facts.length 0 ([])))/\(((!q2.2.1)&&(q3.2.1||q6))=false->(a1.facts.length<=aD->okI (kc a0 a1) (l9 a0 a1) a1.facts.length 0 ([]))))))))/\((decide (q4 > 0))=false->((((!q2.2.1)&&(q3.2.1||q6))=true->(a1.facts.length<=aD->okI (ke a0 a1) (ma a0 a1) a1.facts.length 0 ([])))/\(((!q2.2.1)&&(q3.2.1||q6))=false->(a1.facts.length<=aD->okI (kf a0 a1) (mb a0 a1) a1.facts.length 0 ([])))))))))))))))))
@[go_sem] def tn:List SV->Option Con:=(pD .cases fun a0=>(pD .suit fun a1=>(pE (.det (jp a0 a1) (.tup [.agg (cellsOf .case ((bv a0 a1).1)),.v (.int .i64 ((bv a0 a1).2))])))))
theorem Lg {p:Prop}(h:p:=by simp only[go_sem,Nat.reduceBEq,Nat.reduceLeDiff,Nat.reduceLT,decide_true,Nat.reduceAdd,Nat.reduceSub,Nat.reduceMul,Int.reduceLE,Int.reduceLT,Int.reduceToNat,Int.reduceNeg,reduceCtorEq,hs0,hs1,qs,oQ,RCJ];all_goals exact cl):p:=h
theorem xQ:FnOk Tryz.prog 24 tn:=by
 have hG:ConsOk Tryz.prog (mkG [(34,fun l=>lj (bp [.st .cases,.sl .int,.o] l)),(35,fun l=>p6 (bp [.st .plea,.o] l)),(52,gP),(58,kz),(64,fun l=>li (bp [.st .cases] l)),(67,fun l=>qS (bp [.st .plea] l))] []):=ar (cgc (oh.norm [.st .cases,.sl .int,.o]) (cgc (rX.norm [.st .plea,.o]) (cgc iF (cgc mo (cgc (og.norm [.st .cases]) (cgc (tg.norm [.st .plea]) cg0)))))) cg0;refine K2 F0 [.st .case,.o] mixed ak hG (fn:=Tryz.f24) (c0:=qs (ae Tryz.f24)) (c1:=oQ (oQ (ae Tryz.f24))) (i1:=QZ (qs (oQ (ae Tryz.f24)))) (o1:=Of 0 (qs (oQ (ae Tryz.f24)))) (q:=5) (tys:= #[104]) kr kr kr (by refine⟨?_,?_,?_⟩ <;>kernel_rfl) kr kr (bk fun a0=>(bk fun a1=>(ai (fun hp=>?_))));dsimp only[ax]at hp;unfold jp at hp;rcases Bool.eq_false_or_eq_true (decide ((a0.cases.length:Int) > 0))with hs0|hs0 <;>rcases Bool.eq_false_or_eq_true ((!(aj a0 a1.facts 0).2.1)&&((aj a0 a1.facts 1).2.1||((bM a1.plea a1.question).1 !=1)))with hs1|hs1
 ·have hsp:True:=trivial;refine⟨nbl rfl,L0,(fun id st=>bif Nat.beq id 0 then some (LCR (ρ:=Empty) (σ:=(List Int)) 4 [.cell 2 4 (.row .int ([]))] [0,1,2,3,4] (fun k_0 s_0=>⟨[(2,.ptr 0 0),(4,.ptr 2 0),(5,.ptr 3 0),(115,.rs .int a1.facts),(116,.v (.int .i64 (a1.facts.length:Int))),(117,.v (.int .i64 (k_0:Int)))],[.cells (cellsOf .cases a0),.dead,.cells [.v (.int .i64 a1.no),.v (.int .i64 a1.hour),.v (.int .i64 1),.rs .int a1.facts,.os 4],.cells [.v (.int .i64 ((aj a0 a1.facts 0).2.2))],.row .int s_0]⟩) (ka a0 a1) (l8 a0 a1) a1.facts.length ([]) (a1.facts.length<=aD) ((·.elim)) ((·.elim)) st)else none),3,?_,?_,?_⟩
  ·unfold ae Tryz.f24;simp only[qs,am,and_self,true_and,and_true]
  ·unfold ae Tryz.f24;simp only[oQ];simp only[am,true_and,and_true]
   ·refine a_ mixed ak hG kr (fun _=>rfl) (a1.facts.length:Int) rfl gA (fun hb0 k_0 s_0 hlt0 hq0 hw hc=>⟨L0,ag _,?_⟩) (fun hb0 s_0 hc=>?_)
    ·unfold l8 at hq0;try simp only[hw,Int.toNat_natCast]at hq0
     exact ov (jl [0,1,2,3,6]) (jl [0,1,2,3,4])
    ·exact mP (jl [0,1,2,3,6]) (jl [0,1,2,3,4])
  ·unfold ae Tryz.f24;try unfold bv
   exact Lg
 ·have hsp:True:=trivial;refine⟨nbl rfl,L0,(fun id st=>bif Nat.beq id 0 then some (LCR (ρ:=Empty) (σ:=(List Int)) 4 [.cell 2 4 (.row .int ([]))] [0,1,2,3,4] (fun k_1 s_1=>⟨[(2,.ptr 0 0),(4,.ptr 2 0),(5,.ptr 3 0),(115,.rs .int a1.facts),(116,.v (.int .i64 (a1.facts.length:Int))),(117,.v (.int .i64 (k_1:Int)))],[.cells (cellsOf .cases a0),.dead,.cells [.v (.int .i64 a1.no),.v (.int .i64 a1.hour),.v (.int .i64 0),.rs .int a1.facts,.os 4],.cells [.v (.int .i64 ((aj a0 a1.facts 0).2.2))],.row .int s_1]⟩) (kc a0 a1) (l9 a0 a1) a1.facts.length ([]) (a1.facts.length<=aD) ((·.elim)) ((·.elim)) st)else none),3,?_,?_,?_⟩
  ·unfold ae Tryz.f24;simp only[qs,am,and_self,true_and,and_true]
  ·unfold ae Tryz.f24;simp only[oQ];simp only[am,true_and,and_true]
   ·refine a_ mixed ak hG kr (fun _=>rfl) (a1.facts.length:Int) rfl gA (fun hb1 k_1 s_1 hlt1 hq1 hw hc=>⟨L0,ag _,?_⟩) (fun hb1 s_1 hc=>?_)
    ·unfold l9 at hq1;try simp only[hw,Int.toNat_natCast]at hq1
     exact ov (jl [0,1,2,3,6]) (jl [0,1,2,3,4])
    ·exact mP (jl [0,1,2,3,6]) (jl [0,1,2,3,4])
  ·unfold ae Tryz.f24;try unfold bv
   exact Lg
 ·have hsp:True:=trivial;refine⟨nbl rfl,L0,(fun id st=>bif Nat.beq id 0 then some (LCR (ρ:=Empty) (σ:=(List Int)) 4 [.cell 2 4 (.row .int ([]))] [0,1,2,3,4] (fun k_2 s_2=>⟨[(2,.ptr 0 0),(4,.ptr 2 0),(5,.ptr 3 0),(115,.rs .int a1.facts),(116,.v (.int .i64 (a1.facts.length:Int))),(117,.v (.int .i64 (k_2:Int)))],[.cells (cellsOf .cases a0),.dead,.cells [.v (.int .i64 a1.no),.v (.int .i64 a1.hour),.v (.int .i64 1),.rs .int a1.facts,.os 4],.cells [.v (.int .i64 ((aj a0 a1.facts 0).2.2))],.row .int s_2]⟩) (ke a0 a1) (ma a0 a1) a1.facts.length ([]) (a1.facts.length<=aD) ((·.elim)) ((·.elim)) st)else none),3,?_,?_,?_⟩
  ·unfold ae Tryz.f24;simp only[qs,am,and_self,true_and,and_true]
  ·unfold ae Tryz.f24;simp only[oQ];simp only[am,true_and,and_true]
   ·refine a_ mixed ak hG kr (fun _=>rfl) (a1.facts.length:Int) rfl gA (fun hb2 k_2 s_2 hlt2 hq2 hw hc=>⟨L0,ag _,?_⟩) (fun hb2 s_2 hc=>?_)
    ·unfold ma at hq2;try simp only[hw,Int.toNat_natCast]at hq2
     exact ov (jl [0,1,2,3,6]) (jl [0,1,2,3,4])
    ·exact mP (jl [0,1,2,3,6]) (jl [0,1,2,3,4])
  ·unfold ae Tryz.f24;try unfold bv
   exact Lg
 ·have hsp:True:=trivial;refine⟨nbl rfl,L0,(fun id st=>bif Nat.beq id 0 then some (LCR (ρ:=Empty) (σ:=(List Int)) 4 [.cell 2 4 (.row .int ([]))] [0,1,2,3,4] (fun k_3 s_3=>⟨[(2,.ptr 0 0),(4,.ptr 2 0),(5,.ptr 3 0),(115,.rs .int a1.facts),(116,.v (.int .i64 (a1.facts.length:Int))),(117,.v (.int .i64 (k_3:Int)))],[.cells (cellsOf .cases a0),.dead,.cells [.v (.int .i64 a1.no),.v (.int .i64 a1.hour),.v (.int .i64 0),.rs .int a1.facts,.os 4],.cells [.v (.int .i64 ((aj a0 a1.facts 0).2.2))],.row .int s_3]⟩) (kf a0 a1) (mb a0 a1) a1.facts.length ([]) (a1.facts.length<=aD) ((·.elim)) ((·.elim)) st)else none),3,?_,?_,?_⟩
  ·unfold ae Tryz.f24;simp only[qs,am,and_self,true_and,and_true]
  ·unfold ae Tryz.f24;simp only[oQ];simp only[am,true_and,and_true]
   ·refine a_ mixed ak hG kr (fun _=>rfl) (a1.facts.length:Int) rfl gA (fun hb3 k_3 s_3 hlt3 hq3 hw hc=>⟨L0,ag _,?_⟩) (fun hb3 s_3 hc=>?_)
    ·unfold mb at hq3;try simp only[hw,Int.toNat_natCast]at hq3
     exact ov (jl [0,1,2,3,6]) (jl [0,1,2,3,4])
    ·exact mP (jl [0,1,2,3,6]) (jl [0,1,2,3,4])
  ·unfold ae Tryz.f24;try unfold bv
   exact Lg
end Go.Sx
end
section
namespace Go.Sx
def pCN {α:Type 1}(k:List Int->List SV->Option α):List SV->Option α
 | .agg [.rs .int s,.v (.slice none 0 0)]::r=>k s r
 |_=>none
@[go_sem] theorem acz {α:Type 1}{k:List Int->List SV->Option α}{s:List Tag.int.T}{r:List SV}:pCN k (.agg [.rs .int s,.v (.slice none 0 0)]::r)=k s r:=(rfl)
end Go.Sx
end
section
namespace Go.Sx
open Go.RowKit
def JW (n0 id:Nat):Ob->SV
 | .row k l=>bif Nat.ble n0 id then .rs k l else .any
 |_=>.any
def isV:SV->Bool
 | .v _=>true
 |_=>false
def xk (n0:Nat)(h:List Ob):SV->SV
 | .v x=>.v x
 | .rs k l=>.rs k l
 | .agg l=>bif l.all isV then .agg l else .any
 | .os id=>JW n0 id (al h id)
 |_=>.any
def Gh (n0:Nat)(h:List Ob):SV->SV
 | .tup l=>.tup (l.map (xk n0 h))
 |s=>xk n0 h s
def D0 (n0:Nat)(own:Own):Own:=fun i=>if i<n0 then own i else none
section
variable {F:Nat->Prop}{own:Own}{w:World}{n0:Nat}{h:List Ob}
theorem zG {b:Nat}(hb:¬bZ F own b):¬bZ F (D0 n0 own) b:=by
 rintro (hf| ⟨id,hd,e,hm⟩)
 ·exact hb (.inl hf)
 ·unfold D0 at e;split at e
  ·exact hb (.inr ⟨id,hd,e,hm⟩)
  ·cases e
theorem H6 (hp:Hp F own w h):∀ (s:SV) (v:Value),Rel F own w s v->Rel F (D0 n0 own) w (xk n0 h s) v:=by
 intro s v hr;cases s with
 |v x=>exact hr.over (.v x) fun b hb=>zG hb
 |rs k l=>exact hr.over .rs fun b hb=>zG hb
 |agg l=>
  simp only[xk];cases ha:l.all isV with
  |false=>exact .any _
  |true=>
   refine hr.over (.agg fun j s hj=>?_) fun b hb=>zG hb;have:=List.all_eq_true.1 ha s (List.mem_of_getElem? hj);cases s <;>first|exact .v _|cases this
 |os id=>
  obtain⟨hd,h1,rfl,h2⟩:=i6 hr;simp only[xk];cases ho:al h id with
  |row k l=>
   simp only[JW];cases hn:Nat.ble n0 id with
   |false=>exact .any _
   |true=>
    have hn':=nbl hn;obtain⟨hd',e0,e⟩:=hp.at ho rfl;rw[h1]at e0;cases e0;have hnb:∀ b∈hd.bs,¬bZ F (D0 n0 own) b:=by
     rintro b hb (hf| ⟨i,hi,e1,e2⟩)
     ·exact hp.apart id hd b h1 hb hf
     ·unfold D0 at e1;split at e1
      ·rename_i hlt;have:=hp.inj id i hd hi b h1 e1 hb e2;omega
      ·cases e1
    rcases e with⟨a,e1,rfl,_⟩ | ⟨b,o,cap,cs,ty,e1,e2,h3,h4,h5,h6,h7⟩
    ·rw[e1];exact .rs0
    ·rw[e1];refine .rs (fun i j=>cs.getD (o+i*aa k+j) undef) h5 h6 (fun i x hi j s hj=>?_) (fun i x hi j s hj=>?_)
     ·obtain⟨u,k1,k2⟩:=h7 i x hi j s hj;refine⟨hnb b (by simp[e2]),?_⟩;rw[er h3,k1];simp[Array.getD_eq_getD_getElem?,k1]
     ·obtain⟨u,k1,k2⟩:=h7 i x hi j s hj;have:cs.getD (o+i*aa k+j) undef=u:=by simp[Array.getD_eq_getD_getElem?,k1]
      rw[this];exact k2.over (rh hj) fun b hb=>zG hb
  |_=>exact .any _
 |_=>exact .any _
theorem Lh (s:SV):PF (xk n0 h s):=by
 cases s with
 |agg l=>
  simp only[xk];cases ha:l.all isV with
  |false=>exact .any
  |true=>
   refine .agg fun j s hj=>?_;have:=List.all_eq_true.1 ha s (List.mem_of_getElem? hj);cases s <;>first|exact .v _|cases this
 |os id=>
  simp only[xk];cases al h id with
  |row k l=>simp only[JW];cases Nat.ble n0 id <;>first|exact .any|exact .rs
  |_=>exact .any
 |v x=>exact .v x
 |rs k l=>exact .rs
 |_=>exact .any
@[go_sem] theorem ZM {l:List SV}:Gh n0 h (.tup l)=.tup (l.map (xk n0 h)):=(rfl)
@[go_sem] theorem abB {id:Nat}:Gh n0 h (.os id)=JW n0 id (al h id):=(rfl)
@[go_sem] theorem acA {x:Value}:Gh n0 h (.v x)=.v x:=(rfl)
@[go_sem] theorem abC {k:Tag}{l:List k.T}:Gh n0 h (.rs k l)=.rs k l:=(rfl)
@[go_sem] theorem ZN {l:List SV}:Gh n0 h (.agg l)=bif l.all isV then .agg l else .any:=(rfl)
@[go_sem] theorem acB {x:Value}:xk n0 h (.v x)=.v x:=(rfl)
@[go_sem] theorem abD {k:Tag}{l:List k.T}:xk n0 h (.rs k l)=.rs k l:=(rfl)
@[go_sem] theorem ZO {l:List SV}:xk n0 h (.agg l)=bif l.all isV then .agg l else .any:=(rfl)
@[go_sem] theorem abE {id:Nat}:xk n0 h (.os id)=JW n0 id (al h id):=(rfl)
@[go_sem] theorem ZP {k:Tag}{l:List k.T}{id:Nat}:JW n0 id (.row k l)=bif Nat.ble n0 id then .rs k l else .any:=(rfl)
@[go_sem] theorem isV_v {x:Value}:isV (.v x)=true:=(rfl)
end
def Pq (pks:List Pk)(n0:Nat)(S:SV)(H:List Ob)(h:List Ob):Option SV->Prop
 |some s=>S=uh pks (Gh n0 h s)/\jP ⟨[],H⟩ n0 ⟨[],h⟩
 |none=>False
def Tl (pks:List Pk)(n0:Nat)(rs:List ResultVar)(ts:Tis)(S:SV)(H:List Ob):Ex->St->Prop
 | .exit _,_=>False
 | .normal,st=>Pq pks n0 S H st.h (lH (km ts st rs))
 | .ret,st=>Pq pks n0 S H st.h (lH (km ts st rs))
 | .pan _,_=>False
section
variable {P:Program}{ts:Tis}{G:Cons}{n0:Nat}{S s:SV}{H h:List Ob}{rs:List ResultVar}{st:St}{pks:List Pk}
@[go_sem] theorem Xx:Pq pks n0 S H h (some s)=(S=uh pks (Gh n0 h s)/\jP ⟨[],H⟩ n0 ⟨[],h⟩):=(rfl)
@[go_sem] theorem Sd:Tl pks n0 rs ts S H .normal st=Pq pks n0 S H st.h (lH (km ts st rs)):=(rfl)
@[go_sem] theorem Xy:Tl pks n0 rs ts S H .ret st=Pq pks n0 S H st.h (lH (km ts st rs)):=(rfl)
theorem Pr {js:List Nat}{own:Own}{F:Nat->Prop}{b:Nat}(hk:yo 0 js n0=true)(hl:H.length=n0)(hb:¬bZ F (D0 n0 own) b):¬bZ F (iE js H own) b:=by
 rintro (hf| ⟨k,hd,e,hm⟩)
 ·exact hb (.inl hf)
 ·obtain⟨h1,j,hd0,e1,e2,_,e4⟩:=iR e;obtain⟨_,rfl⟩:=e4 b hm;have hj:=yA js 0 n0 hk k j e1 (by omega);have hjk:j=k:=by omega
  subst hjk;refine hb (.inr ⟨j,hd,?_,hm⟩);unfold D0;rw[if_pos (by omega)];exact e2
end
def D1 (n0:Nat)(h:List Ob):SV->SV
 | .agg l=>.agg (l.map (xk n0 h))
 |s=>xk n0 h s
def D2 (n0:Nat)(h:List Ob):SV->SV
 | .tup l=>.tup (l.map (D1 n0 h))
 |s=>D1 n0 h s
section
variable {F:Nat->Prop}{own:Own}{w:World}{n0:Nat}{h:List Ob}
theorem H7 (hp:Hp F own w h)(s:SV)(v:Value)(hr:Rel F own w s v):Rel F (D0 n0 own) w (D1 n0 h s) v:=by
 cases s with
 |agg l=>
  cases hr with
  |agg h0 h1=>
   refine .agg (by simpa using h0) fun j s hj=>?_;obtain⟨x,hx,rfl⟩:=cr hj;exact H6 hp x _ (h1 j x hx)
 |_=>exact H6 hp _ _ hr
theorem H8 (hp:Hp F own w h)(s:SV)(v:Value)(hr:Rel F own w s v):Rel F (D0 n0 own) w (D2 n0 h s) v:=by
 cases s with
 |tup l=>
  cases hr with
  |tup h0 h1=>
   refine .tup (by simpa using h0) fun j s hj=>?_;obtain⟨x,hx,rfl⟩:=cr hj;exact H7 hp x _ (h1 j x hx)
 |_=>exact H7 hp _ _ hr
theorem Li (s:SV):PF (D1 n0 h s):=by
 cases s
 case agg l=>exact .agg fun j s hj=>by obtain⟨x,hx,rfl⟩:=cr hj;exact Lh x
 all_goals (unfold D1;exact Lh _)
theorem Se (s:SV):PF (D2 n0 h s):=by
 cases s
 case tup l=>exact .tup fun j s hj=>by obtain⟨x,hx,rfl⟩:=cr hj;exact Li x
 all_goals (unfold D2;exact Li _)
@[go_sem] theorem ZQ {l:List SV}:D2 n0 h (.tup l)=.tup (l.map (D1 n0 h)):=(rfl)
@[go_sem] theorem ZR {l:List SV}:D2 n0 h (.agg l)=.agg (l.map (xk n0 h)):=(rfl)
@[go_sem] theorem acC {x:Value}:D2 n0 h (.v x)=.v x:=(rfl)
@[go_sem] theorem ZS {l:List SV}:D1 n0 h (.agg l)=.agg (l.map (xk n0 h)):=(rfl)
@[go_sem] theorem acD {x:Value}:D1 n0 h (.v x)=.v x:=(rfl)
@[go_sem] theorem abF {k:Tag}{l:List k.T}:D1 n0 h (.rs k l)=.rs k l:=(rfl)
@[go_sem] theorem abG {id:Nat}:D1 n0 h (.os id)=JW n0 id (al h id):=(rfl)
end
def Gi (pks:List Pk)(n0:Nat)(S:SV)(H:List Ob)(h:List Ob):Option SV->Prop
 |some s=>S=uh pks (D2 n0 h s)/\jP ⟨[],H⟩ n0 ⟨[],h⟩
 |none=>False
def Lj (pks:List Pk)(n0:Nat)(rs:List ResultVar)(ts:Tis)(S:SV)(H:List Ob)(id:Nat)(st:St):Option SV->Prop
 |some s=>DR (al st.h id)/\lW st.h=false/\Gi pks n0 S H (bA st.h id (.cells [s])) (lH (km ts ⟨st.t,bA st.h id (.cells [s])⟩ rs))
 |none=>False
def Lk (RC:Value->Option SV)(pks:List Pk)(n0:Nat)(rs:List ResultVar)(ts:Tis)(S:SV)(H:List Ob)(id:Nat):Ex->St->Prop
 | .exit _,_=>False
 | .normal,st=>Gi pks n0 S H st.h (lH (km ts st rs))
 | .ret,st=>Gi pks n0 S H st.h (lH (km ts st rs))
 | .pan x,st=>Lj pks n0 rs ts S H id st (RC x)
section
variable {RC:Value->Option SV}{pks:List Pk}{n0:Nat}{rs:List ResultVar}{ts:Tis}{S s:SV}{H h:List Ob}{id:Nat}{st:St}{x:Value}
@[go_sem] theorem Xz:Gi pks n0 S H h (some s)=(S=uh pks (D2 n0 h s)/\jP ⟨[],H⟩ n0 ⟨[],h⟩):=(rfl)
@[go_sem] theorem Vp:Lj pks n0 rs ts S H id st (some s)=(DR (al st.h id)/\lW st.h=false/\Gi pks n0 S H (bA st.h id (.cells [s])) (lH (km ts ⟨st.t,bA st.h id (.cells [s])⟩ rs))):=(rfl)
@[go_sem] theorem Sf:Lk RC pks n0 rs ts S H id .normal st=Gi pks n0 S H st.h (lH (km ts st rs)):=(rfl)
@[go_sem] theorem XA:Lk RC pks n0 rs ts S H id .ret st=Gi pks n0 S H st.h (lH (km ts st rs)):=(rfl)
@[go_sem] theorem XB:Lk RC pks n0 rs ts S H id (.pan x) st=Lj pks n0 rs ts S H id st (RC x):=(rfl)
end
section
variable {P:Program}{ts:Tis}{G:Cons}
theorem Ps {g:FuncId}{RC:Value->Option SV}(hrec:HH P g RC)(pks:List Pk)(hm:P.follows .mixedOrders=true)(hts:ts.ok P)(hG:ConsOk P G){f:FuncId}{fn:Func}{c0 c1:Code}{i1 q:Nat}{o1:Oper}{tys:Array TypeId}
  (hf:P.funcs[f]? =some fn) (hb:fn.body=some (.seq c0 (.seq (.region i1 #[o1] false) c1))) (hname:(fn.name== "runtime.NumGoroutine")=false)
  (ho1:o1.dst=none/\o1.op=.defer ⟨.value (.func g),#[.tmp q],tys⟩/\o1.guard=none)
  (hc0:cp fn.ntmps c0=true) (hc1:cp fn.ntmps c1=true) {C:List SV->List Ob->Option HCon}
  (h:∀ l o con,C l o=some con->∃ p S H,con=jQ p S H/\H.length=o.length/\(p->l.length<=fn.ntmps/\∃ L L' id,am P none fn.ntmps L c0/\am P none fn.ntmps L' c1/\exec ts G L c0 ⟨mG 0 l,o⟩ (fun e st=>e=.normal/\lk q st.t=.ptr id 0/\DR (al st.h id)/\
   exec ts G L' c1 ⟨st.t,st.h⟩ (Lk RC pks o.length fn.results.toList ts S H id)))):FnOkO P f C:=by
 refine⟨fun l o con _ args w=>?_,fun l o con hcon hpre F own w vs hp0 hvs=>?_⟩
 ·have hn:¬fn.name= "runtime.NumGoroutine":=by simpa using hname
  simp[callFunc,hf,hn,hb]
 ·obtain⟨p,S,H,rfl,hH,h2⟩:=h l o con hcon;obtain⟨hlen,L,L',id,hl,hl',hx⟩:=h2 hpre;have hn0:∀ id hd,own id=some hd->id<o.length:=fun id hd e=>hp0.dom id hd e;refine oO (n:=0) (callsIn_of_wp_marks hf hb trivial ?_);have hr:StRel F { w:=w,own:=own} fn.ntmps own ⟨mG 0 l,o⟩ { tmps:=vs++Array.replicate (fn.ntmps - vs.size) undef,defers:=[]} w:=
   ⟨by have:=hvs.1;simp;omega,Dfr.nil,hp0,Fr.refl { w:=w,own:=own},fun t=>mM hvs _ t⟩
  refine wpIn_seq (wpIn_mono (nQ hm hts hG c0 hc0 hl F _ _ hx own _ w hr) ?_);intro e a1 w1 hq;cases e with
  |normal=>
   obtain⟨F1,own1,st1,hF1,hst1,_,hlk,_,hx1⟩:=hq;have hsq:=hst1.slots q;rw[hlk]at hsq;generalize hv:a1.tmps.getD q undef=pv at hsq;cases hsq with
   | @ptr _ _ b hd ho hp=>
   show(Code.seq (.region i1 #[o1] false) c1).wpIn (rd none) 0 P _ a1 w1;have hsz:=hst1.size;refine wpIn_seq (yb ho1 hv ?_);show c1.wpIn (rd none) 0 P _ _ w1;obtain⟨ms,Ds,k0,k1,k2,k3⟩:=hst1.defers;have k0':a1.defers=ms:=by rw[k0];exact List.append_nil _
   let d:Deferred:= { target:=.fn (.func g) #[],args:= #[.pointer (some ⟨b,0,none⟩)]}
   let B:Bs:= { w:=w1,own:=own1,ds:=d::a1.defers}
   have hr2:StRel F1 B fn.ntmps own1 ⟨st1.t,st1.h⟩ { tmps:=a1.tmps,defers:=d::a1.defers} w1:=by
    exact⟨hsz,Dfr.nil,hst1.hp,Fr.refl B,hst1.slots⟩
   have hbd:∀ D∈Ds,¬ ∃ id hd,own1 id=some hd/\D∈hd.bs:=fun D hD ⟨i,hd,e,hm⟩ =>hst1.hp.apart i hd D e hm (k3 D hD).2.1;have fin:∀ F2 own2 st2 (a2:Act) w2,(∀ b,F1 b->F2 b)->StRel F2 B fn.ntmps own2 st2 a2 w2->Gi pks o.length S H st2.h (lH (km ts st2 fn.results.toList))->
     LeavesInM (rd none) 0 P fn a2.tmps (fun e w'=>∃ r own',(jQ p S H).post r/\FH F w own o.length e own' w' ((jQ p S H).res r)) a1.defers .returning w2:=by
    intro F2 own2 st2 a2 w2 hF2 hst2 hdone;have hB:StRel F2 { w:=w,own:=own} fn.ntmps own2 st2 { a2 with defers:=[]} w2:=⟨hst2.size,Dfr.nil,hst2.hp,hst1.fr.trans ⟨hst2.fr.ids,hst2.fr.base,hst2.fr.os,hst2.fr.tape,hst2.fr.output,hst2.fr.size,hst2.fr.block⟩,hst2.slots⟩;have hkeep:∀ D∈Ds,w2.heap[D]? =some (.deferred (some [])):=fun D hD=>by
     rw[hst2.fr.block D ⟨nM (k3 D hD).2.2,hbd D hD⟩];exact(k3 D hD).2.2
    rw[k0',<-List.append_nil ms];refine uT (by simp) Ds ms w2 k1 k2 hkeep fun w4 hs=>?_;have hst4:=(hB.shut (Ds:=Ds) (fun D hD=>⟨(k3 D hD).1,hF2 D (k3 D hD).2.1,hkeep D hD⟩) hs).less (fun c hc=>hF2 c (hF1 c hc)) rfl;cases hres:lH (km ts st2 fn.results.toList)with
    |none=>rw[hres]at hdone;exact hdone.elim
    |some s=>
     obtain⟨u,e1,e2⟩:=vM (P:=P) hts hst4 hres;rw[hres]at hdone;obtain⟨hS,js,q3,q4⟩:=hdone;obtain⟨k1,k2,_,_⟩:=CQ q4 hst4.hp hst4.fr hn0 q3;refine⟨u,e1,(),iE js H own2,trivial,⟨u,rfl,?_⟩,k1,k2,q3⟩;subst hS;exact zm ((H8 hst4.hp s u e2).over (Se s) fun b hb=>Pr q4.1.2.1 hH hb)
   have hinv:∀ w2:World,(invoke (.fn (.func g) #[]) #[.pointer (some ⟨b,0,none⟩)]).run P w2=.ok (.enter g #[.pointer (some ⟨b,0,none⟩)]) w2:=fun w2=>by simp[invoke,go_sem,hrec.1]
   refine wpIn_mono (nQ hm hts hG c1 hc1 hl' F1 _ _ hx1 own1 _ w1 hr2) ?_;have idle:∀ (a':Act) (w':World) F2 own2 st2,(∀ b,F1 b->F2 b)->StRel F2 B fn.ntmps own2 st2 a' w'->Gi pks o.length S H st2.h (lH (km ts st2 fn.results.toList))->
     LeavesInM (rd none) 0 P fn a'.tmps (fun e w'=>∃ r own',(jQ p S H).post r/\FH F w own o.length e own' w' ((jQ p S H).res r)) a'.defers .returning w':=by
    intro a' w' F2 own2 st2 hF2 hst2 hdone;refine jz hst2 (by simp) fun w2 hst3=>?_;refine⟨by simp,.inr ⟨fun h=>(by cases h),.func g,#[],g,#[.pointer (some ⟨b,0,none⟩)],rfl,hinv w2,fun _ _=>trivial,?_⟩⟩;refine(hrec.2.1 ⟨b,0,none⟩ w2).mono ?_;rintro e u' w3 ⟨⟨v,rfl⟩,rfl,rfl⟩;exact fin F2 own2 st2 { a' with defers:=B.ds} _ hF2 hst3 hdone
   intro e a' w' hq;cases e with
   |normal=>obtain⟨F2,own2,st2,h0,h1,h2⟩:=hq;exact idle a' w' F2 own2 st2 h0 h1 h2
   |ret=>obtain⟨F2,own2,st2,h0,h1,h2⟩:=hq;exact idle a' w' F2 own2 st2 h0 h1 h2
   |exit jd=>obtain⟨F2,own2,st2,h0,h1,h2⟩:=hq;exact h2.elim
   |panic ch=>
    obtain⟨x,F2,own2,st2,h0,h1,hm,rfl⟩:=hq;change Lj pks o.length fn.results.toList ts S H id st2 (RC x)at hm;cases m1:RC x with
    |none=>rw[m1]at hm;exact hm.elim
    |some s=>
    rw[m1]at hm;obtain⟨hm2,m4,m3⟩:=hm;obtain⟨y,m2⟩:=CY hm2;refine jz h1 (by simp) fun w2 hst3=>?_;refine⟨by simp,.inr ⟨fun h=>(by cases h),.func g,#[],g,#[.pointer (some ⟨b,0,none⟩)],rfl,hinv w2,fun _ _=>trivial,?_⟩⟩;obtain⟨hd2,e2,l2⟩:=hst3.fr.ids id hd ho;refine(hrec.2.2 x s m1 F2 own2 w2 st2.h id hd2 b y m4 hst3.hp m2 e2 (l2.1.trans hp)).mono ?_;rintro e u' w3 ⟨⟨v,rfl⟩,rfl,own3,q1,q2⟩;exact fin F2 own3 ⟨st2.t,_⟩ { a' with defers:=B.ds} w3 h0 (hst3.moved q1 q2) m3
   |_=>exact hq.elim
  |ret=>obtain⟨F1,own,st,h0,h1,h2,_⟩:=hq;cases h2
  |exit jd=>obtain⟨F1,own,st,h0,h1,h2,_⟩:=hq;cases h2
  |panic ch=>obtain⟨x,F1,own,st,h0,h1,⟨h2,_⟩,_⟩:=hq;cases h2
  |_=>exact hq.elim
end
end Go.Sx
end
section
namespace Go.Sx
open Go.Proofs
open IntKind (i64)
theorem Du {l0 l1 l2 l3:List Nat}(a0:JL l0)(a1:JL l1)(a2:JL l2)(a3:JL l3){p:Prop}(h:JL l0->JL l1->JL l2->JL l3->p:=by intro ja jb jc jd;(first|done|(repeat' (first|with_reducible refine And.intro ?_ ?_|((with_reducible show _≠_);first|assumption|omega|(simp_all [et,fN];done) |grind) |with_reducible intro _)) <;>(first|done|with_reducible exact Empty.elim ‹Empty› |with_reducible assumption|rfl|omega|assumption|decide|exact fk ja|exact fk jb|exact fk jc|exact fk jd|exact czl|(simp only[*,cond_true,cond_false,Bool.not_true,Bool.not_false,go_sem,Nat.reduceBEq,Nat.reduceLeDiff,Nat.reduceLT,decide_true,Nat.reduceAdd,Nat.reduceSub,Nat.reduceMul,Int.reduceLE,Int.reduceLT,Int.reduceToNat,Int.reduceNeg,reduceCtorEq];(repeat' (first|with_reducible refine And.intro ?_ ?_|((with_reducible show _≠_);first|assumption|omega|(simp_all [et,fN];done) |grind) |with_reducible intro _)) <;>(first|done|assumption|rfl|omega|decide|exact fk ja|exact fk jb|exact fk jc|exact fk jd|(simp_all [et,fN];done))) |(simp_all [okI,et,fN];done) |(simp_all [et,fN];(first|done|exact fk2 ja|exact fk2 jb|exact fk2 jc|exact fk2 jd)) |exact fk2 ja|exact fk2 jb|exact fk2 jc|exact fk2 jd))):p:=h a0 a1 a2 a3
@[go_sem] noncomputable def Ll:List SV->Option Con:=(pR .case fun l=>(pE (.det True (.rc .case l))))
theorem Pt:FnOk Tryz.prog 65 Ll:=by
 have hG:ConsOk Tryz.prog (mkG [] []):=ar cg0 cg0;refine FT true mixed ak hG (fn:=Tryz.f65) (c:=ae Tryz.f65) kr kr kr kr (bC fun l=>(ai (fun hp=>?_)));dsimp only[ax]at hp;refine⟨nbl rfl,L0,ag _,?_⟩
 ·unfold ae Tryz.f65;exact zq1
@[go_sem] def mc (sides:List Int)(a1:Suit)(k_0:Nat)(s_0:List Int):Empty⊕(List Int):=(bif((sides.getD (Int.toNat (a1.facts.getD k_0 0)) 0) ==1)then .inr (s_0++([(a1.facts.getD k_0 0)]))else .inr s_0)
def gi (sides:List Int)(a1:Suit)(k_0:Nat)(s_0:List Int):Prop:=((0<=(a1.facts.getD k_0 0)/\(a1.facts.getD k_0 0) < (sides.length:Int))/\(((sides.getD (Int.toNat (a1.facts.getD k_0 0)) 0) ==1)=true->((s_0++([(a1.facts.getD k_0 0)])).length*8<=c6)))
@[go_sem] def mf (sides:List Int)(a1:Suit)(k_1:Nat)(s_1:List Int):Empty⊕(List Int):=(bif((sides.getD (Int.toNat (a1.facts.getD k_1 0)) 0) ==0)then .inr (s_1++([(a1.facts.getD k_1 0)]))else .inr s_1)
def gj (sides:List Int)(a1:Suit)(k_1:Nat)(s_1:List Int):Prop:=((0<=(a1.facts.getD k_1 0)/\(a1.facts.getD k_1 0) < (sides.length:Int))/\(((sides.getD (Int.toNat (a1.facts.getD k_1 0)) 0) ==0)=true->((s_1++([(a1.facts.getD k_1 0)])).length*8<=c6)))
@[go_sem] def mg (sides:List Int)(a1:Suit)(k_2:Nat)(s_2:List Int):Empty⊕(List Int):=(bif((sides.getD (Int.toNat (a1.facts.getD k_2 0)) 0) ==1)then .inr (s_2++([(a1.facts.getD k_2 0)]))else .inr s_2)
def gk (sides:List Int)(a1:Suit)(k_2:Nat)(s_2:List Int):Prop:=((0<=(a1.facts.getD k_2 0)/\(a1.facts.getD k_2 0) < (sides.length:Int))/\(((sides.getD (Int.toNat (a1.facts.getD k_2 0)) 0) ==1)=true->((s_2++([(a1.facts.getD k_2 0)])).length*8<=c6)))
@[go_sem] def mh (sides:List Int)(a1:Suit)(k_3:Nat)(s_3:List Int):Empty⊕(List Int):=(bif((sides.getD (Int.toNat (a1.facts.getD k_3 0)) 0) ==0)then .inr (s_3++([(a1.facts.getD k_3 0)]))else .inr s_3)
def gl (sides:List Int)(a1:Suit)(k_3:Nat)(s_3:List Int):Prop:=((0<=(a1.facts.getD k_3 0)/\(a1.facts.getD k_3 0) < (sides.length:Int))/\(((sides.getD (Int.toNat (a1.facts.getD k_3 0)) 0) ==0)=true->((s_3++([(a1.facts.getD k_3 0)])).length*8<=c6)))
def bq (sides:List Int)(a1:Suit)(cs:List Case):Case×Int:=letI q0:=({ sides:=sides,cases:=cs}:Cases);letI q1:=bM a1.plea a1.question;letI q2:=aj q0 a1.facts 0;letI q3:=cs.getD (Int.toNat (i64.wrap ((cs.length:Int) - 1))) default;letI q4:=aj q0 a1.facts 1;letI q5:=dN q0;letI q6:=iW a1.plea;(bif(q5 !=0)then(({ no:=0,hour:=0,winner:=0,facts:=[],reason:=[]}:Case),q5)else(bif(q6 !=0)then(({ no:=0,hour:=0,winner:=0,facts:=[],reason:=[]}:Case),q6)else(bif(aw (q1.2==0) (q1.2))then(bif(aw (q2.2.2==0) (q2.2.2))then(bif(aw ((aG a1.no 0 1048576)&&(aG a1.hour 0 4096)) 520)then(bif(decide ((cs.length:Int) > 0))then(bif(aw ((decide (a1.no > q3.no))&&(decide (a1.hour>=q3.hour))) 520)then(bif((!q2.2.1)&&(q4.2.1||(q1.1 !=1)))then(match an (mc sides a1) a1.facts.length 0 ([])with| .inl x=>x.elim| .inr s_0=>(({ no:=a1.no,hour:=a1.hour,winner:=1,facts:=a1.facts,reason:=s_0}:Case),0))else(match an (mf sides a1) a1.facts.length 0 ([])with| .inl x=>x.elim| .inr s_1=>(({ no:=a1.no,hour:=a1.hour,winner:=0,facts:=a1.facts,reason:=s_1}:Case),0)))else(({ no:=0,hour:=0,winner:=0,facts:=[],reason:=[]}:Case),520))else(bif((!q2.2.1)&&(q4.2.1||(q1.1 !=1)))then(match an (mg sides a1) a1.facts.length 0 ([])with| .inl x=>x.elim| .inr s_2=>(({ no:=a1.no,hour:=a1.hour,winner:=1,facts:=a1.facts,reason:=s_2}:Case),0))else(match an (mh sides a1) a1.facts.length 0 ([])with| .inl x=>x.elim| .inr s_3=>(({ no:=a1.no,hour:=a1.hour,winner:=0,facts:=a1.facts,reason:=s_3}:Case),0))))else(({ no:=0,hour:=0,winner:=0,facts:=[],reason:=[]}:Case),520))else(({ no:=0,hour:=0,winner:=0,facts:=[],reason:=[]}:Case),(q2.2.2)))else(({ no:=0,hour:=0,winner:=0,facts:=[],reason:=[]}:Case),(q1.2)))))
def dw (sides:List Int)(a1:Suit)(cs:List Case):Prop:=letI q0:=({ sides:=sides,cases:=cs}:Cases);letI q2:=bM a1.plea a1.question;letI q3:=aj q0 a1.facts 0;letI q4:=aj q0 a1.facts 1;letI q5:=(cs.length:Int);letI q1:=i64.wrap (q5 - 1);letI q6:=cs.getD (Int.toNat q1) default;letI q7:=q2.1 !=1;letI q8:=decide (a1.no > q6.no);((f_ q0)/\(((dN q0) !=0)=false->((iX a1.plea)/\(((iW a1.plea) !=0)=false->((iz a1.plea a1.question)/\((aw (q2.2==0) (q2.2))=true->((cT q0 a1.facts 0)/\((aw (q3.2.2==0) (q3.2.2))=true->((cT q0 a1.facts 1)/\((aw ((aG a1.no 0 1048576)&&(aG a1.hour 0 4096)) 520)=true->(cs.length<=aD->(((decide (q5 > 0))=true->((0<=q1/\q1<q5)/\((q8=true->(0<=q1/\q1<q5))/\((aw (q8&&(decide (a1.hour>=q6.hour))) 520)=true->((((!q3.2.1)&&(q4.2.1||q7))=true->(a1.facts.length<=aD->okI (mc sides a1) (gi sides a1) a1.facts.length 0 ([])))/\(((!q3.2.1)&&(q4.2.1||q7))=false->(a1.facts.length<=aD->okI (mf sides a1) (gj sides a1) a1.facts.length 0 ([]))))))))/\((decide (q5 > 0))=false->((((!q3.2.1)&&(q4.2.1||q7))=true->(a1.facts.length<=aD->okI (mg sides a1) (gk sides a1) a1.facts.length 0 ([])))/\(((!q3.2.1)&&(q4.2.1||q7))=false->(a1.facts.length<=aD->okI (mh sides a1) (gl sides a1) a1.facts.length 0 ([])))))))))))))))))
noncomputable def nA:List SV->List Ob->Option HCon:=qz (fun x_:(List Int)×Suit×(List Case) =>[.agg [.rs .int x_.1,.os 0],.agg (cellsOf .suit x_.2.1)]) (fun x_=>[.row .case x_.2.2]) (fun x_=>jQ (dw x_.1 x_.2.1 x_.2.2) (.tup [.agg (cellsOf .case ((bq x_.1 x_.2.1 x_.2.2).1)),.v (.int .i64 ((bq x_.1 x_.2.1 x_.2.2).2))]) [.row .case x_.2.2])
@[go_sem] theorem E1 (sides:List Int)(a1:Suit)(cs:List Case):nA ([.agg [.rs .int sides,.os 0],.agg [.v (.int .i64 a1.no),.v (.int .i64 a1.hour),.v (.int .i64 a1.question),.rs .int a1.plea.facts,.rs .clause a1.plea.clauses,.rs .int a1.facts]]) ([.row .case cs])=some (jQ (dw sides a1 cs) (.tup [.agg (cellsOf .case ((bq sides a1 cs).1)),.v (.int .i64 ((bq sides a1 cs).2))]) [.row .case cs]):=nT (A:=fun x_:(List Int)×Suit×(List Case) =>[.agg [.rs .int x_.1,.os 0],.agg (cellsOf .suit x_.2.1)]) (H:=fun x_=>[.row .case x_.2.2]) (K:=fun x_=>jQ (dw x_.1 x_.2.1 x_.2.2) (.tup [.agg (cellsOf .case ((bq x_.1 x_.2.1 x_.2.2).1)),.v (.int .i64 ((bq x_.1 x_.2.1 x_.2.2).2))]) [.row .case x_.2.2]) (x:=(sides,a1,cs))
theorem Lm {l0:List Nat}(a0:JL l0){p:Prop}(h:JL l0->p:=by intro ja;simp only[go_sem,Nat.reduceBEq,Nat.reduceLeDiff,Nat.reduceLT,decide_true,Nat.reduceAdd,Nat.reduceSub,Nat.reduceMul,Int.reduceLE,Int.reduceLT,Int.reduceToNat,Int.reduceNeg,reduceCtorEq,hs0,hs1,qs,oQ,RCJ];all_goals exact jA ja):p:=h a0
theorem wu:FnOkO Tryz.prog 24 nA:=by
 have hG:ConsOk Tryz.prog (mkG [(34,fun l=>lj (bp [.st .cases,.sl .int,.o] l)),(35,fun l=>p6 (bp [.st .plea,.o] l)),(52,gP),(58,kz),(64,fun l=>li (bp [.st .cases] l)),(67,fun l=>qS (bp [.st .plea] l))] []):=ar (cgc (oh.norm [.st .cases,.sl .int,.o]) (cgc (rX.norm [.st .plea,.o]) (cgc iF (cgc mo (cgc (og.norm [.st .cases]) (cgc (tg.norm [.st .plea]) cg0)))))) cg0;refine Ps F0 [.st .case,.o] mixed ak hG (fn:=Tryz.f24) (c0:=qs (ae Tryz.f24)) (c1:=oQ (oQ (ae Tryz.f24))) (i1:=QZ (qs (oQ (ae Tryz.f24)))) (o1:=Of 0 (qs (oQ (ae Tryz.f24)))) (q:=5) (tys:= #[104]) kr kr kr (by refine⟨?_,?_,?_⟩ <;>kernel_rfl) kr kr fun l o con h=>?_;obtain⟨⟨sides,a1,cs⟩,rfl,rfl,rfl⟩:=lp h;clear h;try dsimp only
 refine⟨_,_,_,rfl,rfl,fun hp=>?_⟩;unfold dw at hp;rcases Bool.eq_false_or_eq_true (decide ((cs.length:Int) > 0))with hs0|hs0 <;>rcases Bool.eq_false_or_eq_true ((!(aj ({ sides:=sides,cases:=cs}:Cases) a1.facts 0).2.1)&&((aj ({ sides:=sides,cases:=cs}:Cases) a1.facts 1).2.1||((bM a1.plea a1.question).1 !=1)))with hs1|hs1
 ·have hsp:True:=trivial;refine⟨nbl rfl,L0,(fun id st=>bif Nat.beq id 0 then some (LCR (ρ:=Empty) (σ:=(List Int)) 5 [.cell 3 4 (.row .int ([]))] [0,1,2,3,4,5] (fun k_0 s_0=>⟨[(2,.ptr 1 0),(4,.ptr 3 0),(5,.ptr 4 0),(115,.rs .int a1.facts),(116,.v (.int .i64 (a1.facts.length:Int))),(117,.v (.int .i64 (k_0:Int)))],[.row .case cs,.cells [.rs .int sides,.os 0],.dead,.cells [.v (.int .i64 a1.no),.v (.int .i64 a1.hour),.v (.int .i64 1),.rs .int a1.facts,.os 5],.cells [.v (.int .i64 ((aj ({ sides:=sides,cases:=cs}:Cases) a1.facts 0).2.2))],.row .int s_0]⟩) (mc sides a1) (gi sides a1) a1.facts.length ([]) (a1.facts.length<=aD) ((·.elim)) ((·.elim)) st)else none),4,?_,?_,?_⟩
  ·unfold ae Tryz.f24;simp only[qs,am,and_self,true_and,and_true]
  ·unfold ae Tryz.f24;simp only[oQ];simp only[am,true_and,and_true]
   ·refine a_ mixed ak hG kr (fun _=>rfl) (a1.facts.length:Int) rfl gA (fun hb0 k_0 s_0 hlt0 hq0 hw hc=>⟨L0,ag _,?_⟩) (fun hb0 s_0 hc=>?_)
    ·unfold gi at hq0;try simp only[hw,Int.toNat_natCast]at hq0
     exact ov (jl [0,1,2,3,4,7]) (jl [0,1,2,3,4,5])
    ·exact mP (jl [0,1,2,3,4,7]) (jl [0,1,2,3,4,5])
  ·unfold ae Tryz.f24;try unfold bq
   exact Lm (jl [0])
 ·have hsp:True:=trivial;refine⟨nbl rfl,L0,(fun id st=>bif Nat.beq id 0 then some (LCR (ρ:=Empty) (σ:=(List Int)) 5 [.cell 3 4 (.row .int ([]))] [0,1,2,3,4,5] (fun k_1 s_1=>⟨[(2,.ptr 1 0),(4,.ptr 3 0),(5,.ptr 4 0),(115,.rs .int a1.facts),(116,.v (.int .i64 (a1.facts.length:Int))),(117,.v (.int .i64 (k_1:Int)))],[.row .case cs,.cells [.rs .int sides,.os 0],.dead,.cells [.v (.int .i64 a1.no),.v (.int .i64 a1.hour),.v (.int .i64 0),.rs .int a1.facts,.os 5],.cells [.v (.int .i64 ((aj ({ sides:=sides,cases:=cs}:Cases) a1.facts 0).2.2))],.row .int s_1]⟩) (mf sides a1) (gj sides a1) a1.facts.length ([]) (a1.facts.length<=aD) ((·.elim)) ((·.elim)) st)else none),4,?_,?_,?_⟩
  ·unfold ae Tryz.f24;simp only[qs,am,and_self,true_and,and_true]
  ·unfold ae Tryz.f24;simp only[oQ];simp only[am,true_and,and_true]
   ·refine a_ mixed ak hG kr (fun _=>rfl) (a1.facts.length:Int) rfl gA (fun hb1 k_1 s_1 hlt1 hq1 hw hc=>⟨L0,ag _,?_⟩) (fun hb1 s_1 hc=>?_)
    ·unfold gj at hq1;try simp only[hw,Int.toNat_natCast]at hq1
     exact ov (jl [0,1,2,3,4,7]) (jl [0,1,2,3,4,5])
    ·exact mP (jl [0,1,2,3,4,7]) (jl [0,1,2,3,4,5])
  ·unfold ae Tryz.f24;try unfold bq
   exact Lm (jl [0])
 ·have hsp:True:=trivial;refine⟨nbl rfl,L0,(fun id st=>bif Nat.beq id 0 then some (LCR (ρ:=Empty) (σ:=(List Int)) 5 [.cell 3 4 (.row .int ([]))] [0,1,2,3,4,5] (fun k_2 s_2=>⟨[(2,.ptr 1 0),(4,.ptr 3 0),(5,.ptr 4 0),(115,.rs .int a1.facts),(116,.v (.int .i64 (a1.facts.length:Int))),(117,.v (.int .i64 (k_2:Int)))],[.row .case cs,.cells [.rs .int sides,.os 0],.dead,.cells [.v (.int .i64 a1.no),.v (.int .i64 a1.hour),.v (.int .i64 1),.rs .int a1.facts,.os 5],.cells [.v (.int .i64 ((aj ({ sides:=sides,cases:=cs}:Cases) a1.facts 0).2.2))],.row .int s_2]⟩) (mg sides a1) (gk sides a1) a1.facts.length ([]) (a1.facts.length<=aD) ((·.elim)) ((·.elim)) st)else none),4,?_,?_,?_⟩
  ·unfold ae Tryz.f24;simp only[qs,am,and_self,true_and,and_true]
  ·unfold ae Tryz.f24;simp only[oQ];simp only[am,true_and,and_true]
   ·refine a_ mixed ak hG kr (fun _=>rfl) (a1.facts.length:Int) rfl gA (fun hb2 k_2 s_2 hlt2 hq2 hw hc=>⟨L0,ag _,?_⟩) (fun hb2 s_2 hc=>?_)
    ·unfold gk at hq2;try simp only[hw,Int.toNat_natCast]at hq2
     exact ov (jl [0,1,2,3,4,7]) (jl [0,1,2,3,4,5])
    ·exact mP (jl [0,1,2,3,4,7]) (jl [0,1,2,3,4,5])
  ·unfold ae Tryz.f24;try unfold bq
   exact Lm (jl [0])
 ·have hsp:True:=trivial;refine⟨nbl rfl,L0,(fun id st=>bif Nat.beq id 0 then some (LCR (ρ:=Empty) (σ:=(List Int)) 5 [.cell 3 4 (.row .int ([]))] [0,1,2,3,4,5] (fun k_3 s_3=>⟨[(2,.ptr 1 0),(4,.ptr 3 0),(5,.ptr 4 0),(115,.rs .int a1.facts),(116,.v (.int .i64 (a1.facts.length:Int))),(117,.v (.int .i64 (k_3:Int)))],[.row .case cs,.cells [.rs .int sides,.os 0],.dead,.cells [.v (.int .i64 a1.no),.v (.int .i64 a1.hour),.v (.int .i64 0),.rs .int a1.facts,.os 5],.cells [.v (.int .i64 ((aj ({ sides:=sides,cases:=cs}:Cases) a1.facts 0).2.2))],.row .int s_3]⟩) (mh sides a1) (gl sides a1) a1.facts.length ([]) (a1.facts.length<=aD) ((·.elim)) ((·.elim)) st)else none),4,?_,?_,?_⟩
  ·unfold ae Tryz.f24;simp only[qs,am,and_self,true_and,and_true]
  ·unfold ae Tryz.f24;simp only[oQ];simp only[am,true_and,and_true]
   ·refine a_ mixed ak hG kr (fun _=>rfl) (a1.facts.length:Int) rfl gA (fun hb3 k_3 s_3 hlt3 hq3 hw hc=>⟨L0,ag _,?_⟩) (fun hb3 s_3 hc=>?_)
    ·unfold gl at hq3;try simp only[hw,Int.toNat_natCast]at hq3
     exact ov (jl [0,1,2,3,4,7]) (jl [0,1,2,3,4,5])
    ·exact mP (jl [0,1,2,3,4,7]) (jl [0,1,2,3,4,5])
  ·unfold ae Tryz.f24;try unfold bq
   exact Lm (jl [0])
theorem ZT (sides:List Int)(a1:Suit)(cs:List Case):bq sides a1 cs=bv ({ sides:=sides,cases:=cs}:Cases) a1:=(rfl)
theorem Pu (sides:List Int)(a1:Suit)(cs:List Case):dw sides a1 cs=jp ({ sides:=sides,cases:=cs}:Cases) a1:=(rfl)
attribute [go_sem] GM
@[go_sem ↓] theorem ZU (x:Suit):mkE .suit [.v (.int .i64 x.no),.v (.int .i64 x.hour),.v (.int .i64 x.question),.rs .int x.plea.facts,.rs .clause x.plea.clauses,.rs .int x.facts]=x:=(rfl)
@[go_sem ↓] theorem Vq (l:List Int)(c:List Case):mkE .cases [.rs .int l,.rs .case c]=({ sides:=l,cases:=c}:Cases):=(rfl)
def pD2 {σ:Type}(A B:Nat->σ->St)(k:Nat)(s:σ):St:=bif Nat.beq k 0 then A k s else B k s
@[go_sem] theorem ZV {σ:Type}{A B:Nat->σ->St}{s:σ}:pD2 A B 0 s=A 0 s:=(rfl)
@[go_sem] theorem ZW {σ:Type}{A B:Nat->σ->St}{k:Nat}{s:σ}:pD2 A B (k+1) s=B (k+1) s:=(rfl)
@[go_sem] def gm (sides:List Int)(l_:List Suit)(k_0:Nat)(s_0:List Case):Int⊕(List Case):=letI q0:=bq sides (l_.getD k_0 default) s_0;letI q1:=s_0++([(q0.1)]);(bif(q0.2 !=0)then .inl (q0.2)else(bif(decide ((q1.length:Int) > 64))then .inl 2 else .inr q1))
def fo (sides:List Int)(l_:List Suit)(k_0:Nat)(s_0:List Case):Prop:=((dw sides (l_.getD k_0 default) s_0)/\(((bq sides (l_.getD k_0 default) s_0).2 !=0)=false->((s_0++([((bq sides (l_.getD k_0 default) s_0).1)])).length*72<=c6)))
def dF (a0:Cases)(l_:List Suit):Cases×Int:=letI q0:=dN a0;(bif(q0 !=0)then(({ sides:=[],cases:=[]}:Cases),q0)else(match an (gm a0.sides l_) l_.length 0 a0.cases with| .inl x_0_0=>(({ sides:=[],cases:=[]}:Cases),x_0_0) | .inr s_0=>(({ sides:=a0.sides,cases:=s_0}:Cases),0)))
def g8 (a0:Cases)(l_:List Suit):Prop:=((f_ a0)/\(((dN a0) !=0)=false->(l_.length<=aD->okI (gm a0.sides l_) (fo a0.sides l_) l_.length 0 a0.cases)))
@[go_sem] def oL:List SV->Option Con:=(pD .cases fun a0=>(pR .suit fun l_=>(pE (.det (g8 a0 l_) (.tup [.agg (cellsOf .cases ((dF a0 l_).1)),.v (.int .i64 ((dF a0 l_).2))])))))
theorem ZX {l0 l1 l2 l3:List Nat}(a0:JL l0)(a1:JL l1)(a2:JL l2)(a3:JL l3){p:Prop}(h:JL l0->JL l1->JL l2->JL l3->p:=by intro ja jb jc jd;simp only[go_sem,Nat.reduceBEq,Nat.reduceLeDiff,Nat.reduceLT,decide_true,Nat.reduceAdd,Nat.reduceSub,Nat.reduceMul,Int.reduceLE,Int.reduceLT,Int.reduceToNat,Int.reduceNeg,reduceCtorEq,hc,hw,ek,kd,kp];all_goals exact Du ja jb jc jd):p:=h a0 a1 a2 a3
theorem ZY {l0 l1 l2 l3:List Nat}(a0:JL l0)(a1:JL l1)(a2:JL l2)(a3:JL l3){p:Prop}(h:JL l0->JL l1->JL l2->JL l3->p:=by intro ja jb jc jd;simp only[go_sem,Nat.reduceBEq,Nat.reduceLeDiff,Nat.reduceLT,decide_true,Nat.reduceAdd,Nat.reduceSub,Nat.reduceMul,Int.reduceLE,Int.reduceLT,Int.reduceToNat,Int.reduceNeg,reduceCtorEq,hc,hw,ek];all_goals exact Du ja jb jc jd):p:=h a0 a1 a2 a3
theorem Tm {l0 l1 l2 l3:List Nat}(a0:JL l0)(a1:JL l1)(a2:JL l2)(a3:JL l3){p:Prop}(h:JL l0->JL l1->JL l2->JL l3->p:=by intro ja jb jc jd;simp only[go_sem,Nat.reduceBEq,Nat.reduceLeDiff,Nat.reduceLT,decide_true,Nat.reduceAdd,Nat.reduceSub,Nat.reduceMul,Int.reduceLE,Int.reduceLT,Int.reduceToNat,Int.reduceNeg,reduceCtorEq,hc,ek];all_goals exact Du ja jb jc jd):p:=h a0 a1 a2 a3
theorem Tn {p:Prop}(h:p:=by simp only[go_sem,Nat.reduceBEq,Nat.reduceLeDiff,Nat.reduceLT,decide_true,Nat.reduceAdd,Nat.reduceSub,Nat.reduceMul,Int.reduceLE,Int.reduceLT,Int.reduceToNat,Int.reduceNeg,reduceCtorEq,ek];all_goals exact cl):p:=h
theorem ve:FnOk Tryz.prog 21 oL:=by
 have hG:ConsOk Tryz.prog (mkG [(24,fun l=>tn (bp [.st .cases,.st .suit] l)),(64,fun l=>li (bp [.st .cases] l)),(65,fun l=>Ll (bp [.sl .case] l))] [(24,nA)]):=ar (cgc (xQ.norm [.st .cases,.st .suit]) (cgc (og.norm [.st .cases]) (cgc (Pt.norm [.sl .case]) cg0))) (cgc wu cg0);refine ay [.st .cases,.o] mixed ak hG (fn:=Tryz.f21) (c:=ae Tryz.f21) kr kr kr kr (bk fun a0=>(bC fun l_=>(ai (fun hp=>?_))));dsimp only[ax]at hp;unfold g8 at hp;refine⟨nbl rfl,(fun id st=>bif Nat.beq id 0 then some (LCR (ρ:=Int) (σ:=(List Case)) 2 [] [0,1] (pD2 (fun k_0 s_0=>⟨[(2,.ptr 0 0),(4,.ptr 1 0),(20,.rs .suit l_),(21,.v (.int .i64 (l_.length:Int))),(22,.v (.int .i64 (k_0:Int)))],[.cells [.rs .int a0.sides,.rc .case s_0],.cells [.v (.slice none 0 0),.v (.slice none 0 0)]]⟩) (fun k_0 s_0=>⟨[(2,.ptr 0 0),(4,.ptr 1 0),(20,.rs .suit l_),(21,.v (.int .i64 (l_.length:Int))),(22,.v (.int .i64 (k_0:Int)))],[.cells [.rs .int a0.sides,.os 2],.cells [.v (.slice none 0 0),.v (.slice none 0 0)],.row .case s_0]⟩)) (gm a0.sides l_) (fo a0.sides l_) l_.length a0.cases (l_.length<=aD) (fun _=>.ret) (fun x_0_0=>⟨[(4,.ptr 1 0),(5,.v (.int .i64 x_0_0))],[.dead,.cells [.v (.slice none 0 0),.v (.slice none 0 0)]]⟩) st)else none),?_,?_⟩
 ·unfold ae Tryz.f21;simp only[am,true_and,and_true]
  ·refine a_ mixed ak hG kr (fun _=>rfl) (l_.length:Int) rfl gA (fun hb0 k_0 s_0 hlt0 hq0 hw hc=>⟨L0,ag _,?_⟩) (fun hb0 s_0 hc=>?_)
   ·unfold fo at hq0;try simp only[hw,Int.toNat_natCast]at hq0
    cases hk:Nat.beq k_0 0 with
    |true=>
     have ek:∀ (A B:Nat->List Case->St) (s:List Case),pD2 A B k_0 s=A k_0 s:=fun A B s=>by unfold pD2;rw[hk];rfl
     have kd:∀ (x:Suit),bv ({ sides:=a0.sides,cases:=s_0}:Cases) x=bq a0.sides x s_0:=fun x=>(ZT _ _ _).symm;have kp:∀ (x:Suit),jp ({ sides:=a0.sides,cases:=s_0}:Cases) x=dw a0.sides x s_0:=fun x=>(Pu _ _ _).symm;exact ZX (jl [0,1]) (jl [0,1,5]) (jl [0,1,6]) (jl [0,1,2])
    |false=>
     have ek:∀ (A B:Nat->List Case->St) (s:List Case),pD2 A B k_0 s=B k_0 s:=fun A B s=>by unfold pD2;rw[hk];rfl
     exact ZY (jl [0,1]) (jl [0,1,5]) (jl [0,1,6]) (jl [0,1,2])
   ·cases hk:Nat.beq l_.length 0 with
    |true=>
     have ek:∀ (A B:Nat->List Case->St) (s:List Case),pD2 A B l_.length s=A l_.length s:=fun A B s=>by unfold pD2;rw[hk];rfl
     exact Tm (jl [0,1]) (jl [0,1,5]) (jl [0,1,6]) (jl [0,1,2])
    |false=>
     have ek:∀ (A B:Nat->List Case->St) (s:List Case),pD2 A B l_.length s=B l_.length s:=fun A B s=>by unfold pD2;rw[hk];rfl
     exact Tm (jl [0,1]) (jl [0,1,5]) (jl [0,1,6]) (jl [0,1,2])
 ·unfold ae Tryz.f21;try unfold dF
  cases hk:Nat.beq l_.length 0 with
  |true=>
   have ek:∀ (A B:Nat->List Case->St) (s:List Case),pD2 A B l_.length s=A l_.length s:=fun A B s=>by unfold pD2;rw[hk];rfl
   exact Tn
  |false=>
   have ek:∀ (A B:Nat->List Case->St) (s:List Case),pD2 A B l_.length s=B l_.length s:=fun A B s=>by unfold pD2;rw[hk];rfl
   exact Tn
end Go.Sx
end
