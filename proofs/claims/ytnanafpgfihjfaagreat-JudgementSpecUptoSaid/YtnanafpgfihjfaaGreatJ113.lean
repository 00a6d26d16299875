/- Part of the proof that the law JudgementSpec returns true and leaves its arguments as they were, for all arguments of bulk at most 1048576 (the Upto form). -/
import Derived.Test.YtnanafpgfihjfaaGreatJ112
import Derived.Test.YtnanafpgfihjfaaGreatJ108
import Derived.Test.YtnanafpgfihjfaaGreatJ111
import Derived.Test.YtnanafpgfihjfaaGreatJ110
import Derived.Test.YtnanafpgfihjfaaGreatJ109
import Derived.Test.YtnanafpgfihjfaaGreatJ107
set_option linter.all false
set_option maxHeartbeats 4000000
set_option maxRecDepth 100000
section
namespace Go.Sx
open Go.Proofs
open IntKind (i64)
def mF (c:Clause)(q:Int)(k_:PleasCourt):Bool:=((c.then_==q)&&(j3 k_ c))
@[go_sem] def pA:List SV→Option Con:=(pD .clause fun c=>(pX .int fun q=>(pXX .pleasCourt fun k_=>(pE (.det True (.v (.bool (mF c q k_))))))))
theorem uQ:FnOk Tryz.prog 169 pA:=by
 have hG:ConsOk Tryz.prog (mkG [(165,fun l=>j4 (a7 [.o,.st .clause] l))] []):=aq (cgc (l6.norm [.o,.st .clause]) cg0) cg0;refine ax [.o] mixed ak hG (fn:=Tryz.f169) (c:=aa Tryz.f169) kr kr kr kr (aM fun c=>(aQ fun q=>(bG fun k_=>(ai (fun hp=>?_)))));dsimp only[ar]at hp;refine⟨nbl rfl,L0,ah _,?_⟩
 ·unfold aa Tryz.f169;try unfold mF
  exact zq1
@[go_sem] def fN (s_:List Clause)(q:Int)(k_:PleasCourt)(k_0:Nat)(s_0:Unit):Int⊕Unit:=(bif(mF (s_.getD k_0 (default:Clause)) q k_)then .inl (k_0:Int)else .inr ())
def ee (s_:List Clause)(q:Int)(k_:PleasCourt):Int:=(match ay (fN s_ q k_) s_.length 0 ()with| .inl x_0_0=>x_0_0| .inr s_0=>(-1))
@[go_sem] def bB:List SV→Option Con:=(pR .clause fun s_=>(pFn 169 (pX .int fun q=>(pXX .pleasCourt fun k_=>(pE ((pE (.det True (.v (.int .i64 (ee s_ q k_)))))))))))
theorem cd:FnOk Tryz.prog 156 bB:=by
 have hG:ConsOk Tryz.prog (mkG [(169,fun l=>pA (a7 [.st .clause,.o,.o] l))] []):=aq (cgc (uQ.norm [.st .clause,.o,.o]) cg0) cg0;refine ax [.o] mixed ak hG (fn:=Tryz.f156) (c:=aa Tryz.f156) kr kr kr kr (a8 fun s_=>(bF (aQ fun q=>(bG fun k_=>(ai ((ai (fun hp=>?_))))))));dsimp only[ar]at hp;refine⟨nbl rfl,(fun id st=>bif Nat.beq id 0 then some (LCR (ρ:=Int) (σ:=Unit) 0 [] [] (fun k_0 s_0=>⟨[(0,.rs .clause s_),(1,.fn 169 [] [.ep [.v (.int .i64 q)] 0,.ep [.ep (cellsOf .pleasCourt k_) 0] 0]),(7,.v (.int .i64 (s_.length:Int))),(8,.v (.int .i64 (k_0:Int)))],[]⟩) (fN s_ q k_) pT s_.length () (s_.length≤aJ) (fun _=>.ret) (fun x_0_0=>⟨[(4,.v (.int .i64 x_0_0))],[]⟩) st)else none),?_,?_⟩
 ·unfold aa Tryz.f156;simp only[ap,true_and,and_true]
  ·refine bf mixed ak hG kr (fun _=>rfl) (s_.length:Int) rfl fD (fun hb0 k_0 s_0 hlt0 _ hw hc=>⟨L0,ah _,?_⟩) (fun hb0 s_0 hc=>?_)
   ·exact aY (jl [])
   ·exact aX (jl [])
 ·unfold aa Tryz.f156;try unfold ee
  exact zq1
@[go_sem] noncomputable def d7:List SV→Option Con:=fun l=>(bB l)
theorem kK:FnOk Tryz.prog 156 d7:=cd
def kL (k_:PleasCourt)(q:Int):Int:=(i64.wrap (1+(ee k_.plea.clauses q k_)))
@[go_sem] def rE:List SV→Option Con:=(pX .pleasCourt fun k_=>(pI fun q=>(pE (.det True (.v (.int .i64 (kL k_ q)))))))
theorem Yu {p:Prop}(h:p:=by simp only[go_sem,Nat.reduceBEq,Nat.reduceLeDiff,Nat.reduceLT,decide_true,Nat.reduceAdd,Nat.reduceSub,Nat.reduceMul,Int.reduceLE,Int.reduceLT,Int.reduceToNat,Int.reduceNeg,reduceCtorEq,d7];all_goals exact cl):p:=h
theorem vW:FnOk Tryz.prog 133 rE:=by
 have hG:ConsOk Tryz.prog (mkG [(156,fun l=>d7 (a7 [.sl .clause,.o] l))] []):=aq (cgc (kK.norm [.sl .clause,.o]) cg0) cg0;refine ax [.o] mixed ak hG (fn:=Tryz.f133) (c:=aa Tryz.f133) kr kr kr kr (aQ fun k_=>(bt fun q=>(ai (fun hp=>?_))));dsimp only[ar]at hp;refine⟨nbl rfl,L0,ah _,?_⟩
 ·unfold aa Tryz.f133;try unfold kL
  exact Yu
def kM (c:Clause)(k_:PleasCourt)(w_:Clause):Bool:=((j3 k_ c)&&(decide (c.rank > w_.rank)))
@[go_sem] def oh:List SV→Option Con:=(pD .clause fun c=>(pXX .pleasCourt fun k_=>(pX .clause fun w_=>(pE (.det True (.v (.bool (kM c k_ w_))))))))
theorem tv:FnOk Tryz.prog 168 oh:=by
 have hG:ConsOk Tryz.prog (mkG [(165,fun l=>j4 (a7 [.o,.st .clause] l))] []):=aq (cgc (l6.norm [.o,.st .clause]) cg0) cg0;refine ax [.o] mixed ak hG (fn:=Tryz.f168) (c:=aa Tryz.f168) kr kr kr kr (aM fun c=>(bG fun k_=>(aQ fun w_=>(ai (fun hp=>?_)))));dsimp only[ar]at hp;refine⟨nbl rfl,L0,ah _,?_⟩
 ·unfold aa Tryz.f168;try unfold kM
  exact zq1
def j5 (c:Clause)(k_:PleasCourt):Bool:=(!(lh k_ c))
@[go_sem] def nC:List SV→Option Con:=(pD .clause fun c=>(pXX .pleasCourt fun k_=>(pE (.det True (.v (.bool (j5 c k_)))))))
theorem s7:FnOk Tryz.prog 172 nC:=by
 have hG:ConsOk Tryz.prog (mkG [(167,fun l=>l7 (a7 [.o,.st .clause] l))] []):=aq (cgc (oO.norm [.o,.st .clause]) cg0) cg0;refine ax [.o] mixed ak hG (fn:=Tryz.f172) (c:=aa Tryz.f172) kr kr kr kr (aM fun c=>(bG fun k_=>(ai (fun hp=>?_))));dsimp only[ar]at hp;refine⟨nbl rfl,L0,ah _,?_⟩
 ·unfold aa Tryz.f172;try unfold j5
  exact zq1
def iV (c:Clause)(k_:PleasCourt)(w_:Clause):Bool:=((!(lh k_ c))&&(decide (c.rank > w_.rank)))
@[go_sem] def l8:List SV→Option Con:=(pD .clause fun c=>(pXX .pleasCourt fun k_=>(pX .clause fun w_=>(pE (.det True (.v (.bool (iV c k_ w_))))))))
theorem rY:FnOk Tryz.prog 175 l8:=by
 have hG:ConsOk Tryz.prog (mkG [(167,fun l=>l7 (a7 [.o,.st .clause] l))] []):=aq (cgc (oO.norm [.o,.st .clause]) cg0) cg0;refine ax [.o] mixed ak hG (fn:=Tryz.f175) (c:=aa Tryz.f175) kr kr kr kr (aM fun c=>(bG fun k_=>(aQ fun w_=>(ai (fun hp=>?_)))));dsimp only[ar]at hp;refine⟨nbl rfl,L0,ah _,?_⟩
 ·unfold aa Tryz.f175;try unfold iV
  exact zq1
def mG (c:Clause)(q0:Int)(k2:PleasCourt):Bool:=((c.then_==q0)&&(j3 k2 c))
@[go_sem] def kO:List SV→Option Con:=(pD .clause fun c=>(pX .int fun q0=>(IA 165 (pX .pleasCourt fun k2=>(pE ((pE (.det True (.v (.bool (mG c q0 k2)))))))))))
theorem o4:FnOk Tryz.prog 207 kO:=by
 have hG:ConsOk Tryz.prog (mkG [(165,fun l=>j4 (a7 [.o,.st .clause] l))] []):=aq (cgc (l6.norm [.o,.st .clause]) cg0) cg0;refine ax [.o] mixed ak hG (fn:=Tryz.f207) (c:=aa Tryz.f207) kr kr kr kr (aM fun c=>(aQ fun q0=>(Ce (aQ fun k2=>(ai ((ai (fun hp=>?_))))))));dsimp only[ar]at hp;refine⟨nbl rfl,L0,ah _,?_⟩
 ·unfold aa Tryz.f207;try unfold mG
  exact zq1
def mH (c:Clause)(q0:Int)(k2:PleasCourt)(w_:Clause):Bool:=((c.then_==q0)&&(kM c k2 w_))
@[go_sem] def kP:List SV→Option Con:=(pD .clause fun c=>(pX .int fun q0=>(pXF 168 (pXX .pleasCourt fun k2=>(pX .clause fun w_=>(pE ((pE (.det True (.v (.bool (mH c q0 k2 w_))))))))))))
theorem o5:FnOk Tryz.prog 207 kP:=by
 have hG:ConsOk Tryz.prog (mkG [(168,fun l=>oh (a7 [.st .clause,.o,.o] l))] []):=aq (cgc (tv.norm [.st .clause,.o,.o]) cg0) cg0;refine ax [.o] mixed ak hG (fn:=Tryz.f207) (c:=aa Tryz.f207) kr kr kr kr (aM fun c=>(aQ fun q0=>(kB (bG fun k2=>(aQ fun w_=>(ai ((ai (fun hp=>?_)))))))));dsimp only[ar]at hp;refine⟨nbl rfl,L0,ah _,?_⟩
 ·unfold aa Tryz.f207;try unfold mH
  exact zq1
def mI (c:Clause)(q0:Int)(k2:PleasCourt):Bool:=((c.then_==q0)&&(j5 c k2))
@[go_sem] def kQ:List SV→Option Con:=(pD .clause fun c=>(pX .int fun q0=>(pXF 172 (pXX .pleasCourt fun k2=>(pE ((pE (.det True (.v (.bool (mI c q0 k2)))))))))))
theorem o6:FnOk Tryz.prog 207 kQ:=by
 have hG:ConsOk Tryz.prog (mkG [(172,fun l=>nC (a7 [.st .clause,.o] l))] []):=aq (cgc (s7.norm [.st .clause,.o]) cg0) cg0;refine ax [.o] mixed ak hG (fn:=Tryz.f207) (c:=aa Tryz.f207) kr kr kr kr (aM fun c=>(aQ fun q0=>(kB (bG fun k2=>(ai ((ai (fun hp=>?_))))))));dsimp only[ar]at hp;refine⟨nbl rfl,L0,ah _,?_⟩
 ·unfold aa Tryz.f207;try unfold mI
  exact zq1
def mJ (c:Clause)(q0:Int)(k2:PleasCourt)(w_:Clause):Bool:=((c.then_==q0)&&(iV c k2 w_))
@[go_sem] def kR:List SV→Option Con:=(pD .clause fun c=>(pX .int fun q0=>(pXF 175 (pXX .pleasCourt fun k2=>(pX .clause fun w_=>(pE ((pE (.det True (.v (.bool (mJ c q0 k2 w_))))))))))))
theorem o7:FnOk Tryz.prog 207 kR:=by
 have hG:ConsOk Tryz.prog (mkG [(175,fun l=>l8 (a7 [.st .clause,.o,.o] l))] []):=aq (cgc (rY.norm [.st .clause,.o,.o]) cg0) cg0;refine ax [.o] mixed ak hG (fn:=Tryz.f207) (c:=aa Tryz.f207) kr kr kr kr (aM fun c=>(aQ fun q0=>(kB (bG fun k2=>(aQ fun w_=>(ai ((ai (fun hp=>?_)))))))));dsimp only[ar]at hp;refine⟨nbl rfl,L0,ah _,?_⟩
 ·unfold aa Tryz.f207;try unfold mJ
  exact zq1
@[go_sem] noncomputable def fj:List SV→Option Con:=fun l=>(orC (kO l) (orC (kP l) (orC (kQ l) (kR l))))
theorem io:FnOk Tryz.prog 207 fj:=(FnOk.or o4 (FnOk.or o5 (FnOk.or o6 o7)))
@[go_sem] def fO (s_:List Clause)(q0:Int)(k2:PleasCourt)(k_0:Nat)(s_0:Unit):Int⊕Unit:=(bif(mG (s_.getD k_0 (default:Clause)) q0 k2)then .inl (k_0:Int)else .inr ())
def eh (s_:List Clause)(q0:Int)(k2:PleasCourt):Int:=(match ay (fO s_ q0 k2) s_.length 0 ()with| .inl x_0_0=>x_0_0| .inr s_0=>(-1))
@[go_sem] def cq:List SV→Option Con:=(pR .clause fun s_=>(pFn 207 (pX .int fun q0=>(IA 165 (pX .pleasCourt fun k2=>(pE ((pE ((pE (.det True (.v (.int .i64 (eh s_ q0 k2))))))))))))))
theorem Kc {p:Prop}(h:p:=by simp only[go_sem,Nat.reduceBEq,Nat.reduceLeDiff,Nat.reduceLT,decide_true,Nat.reduceAdd,Nat.reduceSub,Nat.reduceMul,Int.reduceLE,Int.reduceLT,Int.reduceToNat,Int.reduceNeg,reduceCtorEq,fj];all_goals exact cl):p:=h
theorem dF:FnOk Tryz.prog 156 cq:=by
 have hG:ConsOk Tryz.prog (mkG [(207,fun l=>fj (a7 [.st .clause,.o,.o] l))] []):=aq (cgc (io.norm [.st .clause,.o,.o]) cg0) cg0;refine ax [.o] mixed ak hG (fn:=Tryz.f156) (c:=aa Tryz.f156) kr kr kr kr (a8 fun s_=>(bF (aQ fun q0=>(Ce (aQ fun k2=>(ai ((ai ((ai (fun hp=>?_)))))))))));dsimp only[ar]at hp;refine⟨nbl rfl,(fun id st=>bif Nat.beq id 0 then some (LCR (ρ:=Int) (σ:=Unit) 0 [] [] (fun k_0 s_0=>⟨[(0,.rs .clause s_),(1,.fn 207 [] [.ep [.v (.int .i64 q0)] 0,.ep [.fn 165 [.ep (cellsOf .pleasCourt k2) 0] []] 0]),(7,.v (.int .i64 (s_.length:Int))),(8,.v (.int .i64 (k_0:Int)))],[]⟩) (fO s_ q0 k2) pT s_.length () (s_.length≤aJ) (fun _=>.ret) (fun x_0_0=>⟨[(4,.v (.int .i64 x_0_0))],[]⟩) st)else none),?_,?_⟩
 ·unfold aa Tryz.f156;simp only[ap,true_and,and_true]
  ·refine bf mixed ak hG kr (fun _=>rfl) (s_.length:Int) rfl fD (fun hb0 k_0 s_0 hlt0 _ hw hc=>⟨L0,ah _,?_⟩) (fun hb0 s_0 hc=>?_)
   ·exact aY (jl [])
   ·exact aX (jl [])
 ·unfold aa Tryz.f156;try unfold eh
  exact Kc
@[go_sem] def fP (s_:List Clause)(q0:Int)(k2:PleasCourt)(w_:Clause)(k_0:Nat)(s_0:Unit):Int⊕Unit:=(bif(mH (s_.getD k_0 (default:Clause)) q0 k2 w_)then .inl (k_0:Int)else .inr ())
def ei (s_:List Clause)(q0:Int)(k2:PleasCourt)(w_:Clause):Int:=(match ay (fP s_ q0 k2 w_) s_.length 0 ()with| .inl x_0_0=>x_0_0| .inr s_0=>(-1))
@[go_sem] def cr:List SV→Option Con:=(pR .clause fun s_=>(pFn 207 (pX .int fun q0=>(pXF 168 (pXX .pleasCourt fun k2=>(pX .clause fun w_=>(pE ((pE ((pE (.det True (.v (.int .i64 (ei s_ q0 k2 w_)))))))))))))))
theorem dH:FnOk Tryz.prog 156 cr:=by
 have hG:ConsOk Tryz.prog (mkG [(207,fun l=>fj (a7 [.st .clause,.o,.o] l))] []):=aq (cgc (io.norm [.st .clause,.o,.o]) cg0) cg0;refine ax [.o] mixed ak hG (fn:=Tryz.f156) (c:=aa Tryz.f156) kr kr kr kr (a8 fun s_=>(bF (aQ fun q0=>(kB (bG fun k2=>(aQ fun w_=>(ai ((ai ((ai (fun hp=>?_))))))))))));dsimp only[ar]at hp;refine⟨nbl rfl,(fun id st=>bif Nat.beq id 0 then some (LCR (ρ:=Int) (σ:=Unit) 0 [] [] (fun k_0 s_0=>⟨[(0,.rs .clause s_),(1,.fn 207 [] [.ep [.v (.int .i64 q0)] 0,.ep [.fn 168 [] [.ep [.ep (cellsOf .pleasCourt k2) 0] 0,.ep (cellsOf .clause w_) 0]] 0]),(7,.v (.int .i64 (s_.length:Int))),(8,.v (.int .i64 (k_0:Int)))],[]⟩) (fP s_ q0 k2 w_) pT s_.length () (s_.length≤aJ) (fun _=>.ret) (fun x_0_0=>⟨[(4,.v (.int .i64 x_0_0))],[]⟩) st)else none),?_,?_⟩
 ·unfold aa Tryz.f156;simp only[ap,true_and,and_true]
  ·refine bf mixed ak hG kr (fun _=>rfl) (s_.length:Int) rfl fD (fun hb0 k_0 s_0 hlt0 _ hw hc=>⟨L0,ah _,?_⟩) (fun hb0 s_0 hc=>?_)
   ·exact aY (jl [])
   ·exact aX (jl [])
 ·unfold aa Tryz.f156;try unfold ei
  exact Kc
@[go_sem] def fQ (s_:List Clause)(q0:Int)(k2:PleasCourt)(k_0:Nat)(s_0:Unit):Int⊕Unit:=(bif(mI (s_.getD k_0 (default:Clause)) q0 k2)then .inl (k_0:Int)else .inr ())
def eo (s_:List Clause)(q0:Int)(k2:PleasCourt):Int:=(match ay (fQ s_ q0 k2) s_.length 0 ()with| .inl x_0_0=>x_0_0| .inr s_0=>(-1))
@[go_sem] def ct:List SV→Option Con:=(pR .clause fun s_=>(pFn 207 (pX .int fun q0=>(pXF 172 (pXX .pleasCourt fun k2=>(pE ((pE ((pE (.det True (.v (.int .i64 (eo s_ q0 k2))))))))))))))
theorem dI:FnOk Tryz.prog 156 ct:=by
 have hG:ConsOk Tryz.prog (mkG [(207,fun l=>fj (a7 [.st .clause,.o,.o] l))] []):=aq (cgc (io.norm [.st .clause,.o,.o]) cg0) cg0;refine ax [.o] mixed ak hG (fn:=Tryz.f156) (c:=aa Tryz.f156) kr kr kr kr (a8 fun s_=>(bF (aQ fun q0=>(kB (bG fun k2=>(ai ((ai ((ai (fun hp=>?_)))))))))));dsimp only[ar]at hp;refine⟨nbl rfl,(fun id st=>bif Nat.beq id 0 then some (LCR (ρ:=Int) (σ:=Unit) 0 [] [] (fun k_0 s_0=>⟨[(0,.rs .clause s_),(1,.fn 207 [] [.ep [.v (.int .i64 q0)] 0,.ep [.fn 172 [] [.ep [.ep (cellsOf .pleasCourt k2) 0] 0]] 0]),(7,.v (.int .i64 (s_.length:Int))),(8,.v (.int .i64 (k_0:Int)))],[]⟩) (fQ s_ q0 k2) pT s_.length () (s_.length≤aJ) (fun _=>.ret) (fun x_0_0=>⟨[(4,.v (.int .i64 x_0_0))],[]⟩) st)else none),?_,?_⟩
 ·unfold aa Tryz.f156;simp only[ap,true_and,and_true]
  ·refine bf mixed ak hG kr (fun _=>rfl) (s_.length:Int) rfl fD (fun hb0 k_0 s_0 hlt0 _ hw hc=>⟨L0,ah _,?_⟩) (fun hb0 s_0 hc=>?_)
   ·exact aY (jl [])
   ·exact aX (jl [])
 ·unfold aa Tryz.f156;try unfold eo
  exact Kc
@[go_sem] def fR (s_:List Clause)(q0:Int)(k2:PleasCourt)(w_:Clause)(k_0:Nat)(s_0:Unit):Int⊕Unit:=(bif(mJ (s_.getD k_0 (default:Clause)) q0 k2 w_)then .inl (k_0:Int)else .inr ())
def er (s_:List Clause)(q0:Int)(k2:PleasCourt)(w_:Clause):Int:=(match ay (fR s_ q0 k2 w_) s_.length 0 ()with| .inl x_0_0=>x_0_0| .inr s_0=>(-1))
@[go_sem] def cw:List SV→Option Con:=(pR .clause fun s_=>(pFn 207 (pX .int fun q0=>(pXF 175 (pXX .pleasCourt fun k2=>(pX .clause fun w_=>(pE ((pE ((pE (.det True (.v (.int .i64 (er s_ q0 k2 w_)))))))))))))))
theorem dJ:FnOk Tryz.prog 156 cw:=by
 have hG:ConsOk Tryz.prog (mkG [(207,fun l=>fj (a7 [.st .clause,.o,.o] l))] []):=aq (cgc (io.norm [.st .clause,.o,.o]) cg0) cg0;refine ax [.o] mixed ak hG (fn:=Tryz.f156) (c:=aa Tryz.f156) kr kr kr kr (a8 fun s_=>(bF (aQ fun q0=>(kB (bG fun k2=>(aQ fun w_=>(ai ((ai ((ai (fun hp=>?_))))))))))));dsimp only[ar]at hp;refine⟨nbl rfl,(fun id st=>bif Nat.beq id 0 then some (LCR (ρ:=Int) (σ:=Unit) 0 [] [] (fun k_0 s_0=>⟨[(0,.rs .clause s_),(1,.fn 207 [] [.ep [.v (.int .i64 q0)] 0,.ep [.fn 175 [] [.ep [.ep (cellsOf .pleasCourt k2) 0] 0,.ep (cellsOf .clause w_) 0]] 0]),(7,.v (.int .i64 (s_.length:Int))),(8,.v (.int .i64 (k_0:Int)))],[]⟩) (fR s_ q0 k2 w_) pT s_.length () (s_.length≤aJ) (fun _=>.ret) (fun x_0_0=>⟨[(4,.v (.int .i64 x_0_0))],[]⟩) st)else none),?_,?_⟩
 ·unfold aa Tryz.f156;simp only[ap,true_and,and_true]
  ·refine bf mixed ak hG kr (fun _=>rfl) (s_.length:Int) rfl fD (fun hb0 k_0 s_0 hlt0 _ hw hc=>⟨L0,ah _,?_⟩) (fun hb0 s_0 hc=>?_)
   ·exact aY (jl [])
   ·exact aX (jl [])
 ·unfold aa Tryz.f156;try unfold er
  exact Kc
@[go_sem] noncomputable def bh:List SV→Option Con:=fun l=>(orC (bB l) (orC (cq l) (orC (cr l) (orC (ct l) (cw l)))))
theorem cy:FnOk Tryz.prog 156 bh:=(FnOk.or cd (FnOk.or dF (FnOk.or dH (FnOk.or dI dJ))))
def dL (s_:List Clause)(q0:Int)(k2:PleasCourt):Bool:=(decide ((eh s_ q0 k2)≥0))
@[go_sem] def bV:List SV→Option Con:=(pR .clause fun s_=>(pFn 207 (pX .int fun q0=>(IA 165 (pX .pleasCourt fun k2=>(pE ((pE ((pE (.det True (.v (.bool (dL s_ q0 k2))))))))))))))
theorem Ke {p:Prop}(h:p:=by simp only[go_sem,Nat.reduceBEq,Nat.reduceLeDiff,Nat.reduceLT,decide_true,Nat.reduceAdd,Nat.reduceSub,Nat.reduceMul,Int.reduceLE,Int.reduceLT,Int.reduceToNat,Int.reduceNeg,reduceCtorEq,bh];all_goals exact cl):p:=h
theorem df:FnOk Tryz.prog 116 bV:=by
 have hG:ConsOk Tryz.prog (mkG [(156,fun l=>bh (a7 [.sl .clause,.o] l))] []):=aq (cgc (cy.norm [.sl .clause,.o]) cg0) cg0;refine ax [.o] mixed ak hG (fn:=Tryz.f116) (c:=aa Tryz.f116) kr kr kr kr (a8 fun s_=>(bF (aQ fun q0=>(Ce (aQ fun k2=>(ai ((ai ((ai (fun hp=>?_)))))))))));dsimp only[ar]at hp;refine⟨nbl rfl,L0,ah _,?_⟩
 ·unfold aa Tryz.f116;try unfold dL
  exact Ke
def dM (s_:List Clause)(q0:Int)(k2:PleasCourt)(w_:Clause):Bool:=(decide ((ei s_ q0 k2 w_)≥0))
@[go_sem] def bW:List SV→Option Con:=(pR .clause fun s_=>(pFn 207 (pX .int fun q0=>(pXF 168 (pXX .pleasCourt fun k2=>(pX .clause fun w_=>(pE ((pE ((pE (.det True (.v (.bool (dM s_ q0 k2 w_)))))))))))))))
theorem dg:FnOk Tryz.prog 116 bW:=by
 have hG:ConsOk Tryz.prog (mkG [(156,fun l=>bh (a7 [.sl .clause,.o] l))] []):=aq (cgc (cy.norm [.sl .clause,.o]) cg0) cg0;refine ax [.o] mixed ak hG (fn:=Tryz.f116) (c:=aa Tryz.f116) kr kr kr kr (a8 fun s_=>(bF (aQ fun q0=>(kB (bG fun k2=>(aQ fun w_=>(ai ((ai ((ai (fun hp=>?_))))))))))));dsimp only[ar]at hp;refine⟨nbl rfl,L0,ah _,?_⟩
 ·unfold aa Tryz.f116;try unfold dM
  exact Ke
def dN (s_:List Clause)(q0:Int)(k2:PleasCourt):Bool:=(decide ((eo s_ q0 k2)≥0))
@[go_sem] def bX:List SV→Option Con:=(pR .clause fun s_=>(pFn 207 (pX .int fun q0=>(pXF 172 (pXX .pleasCourt fun k2=>(pE ((pE ((pE (.det True (.v (.bool (dN s_ q0 k2))))))))))))))
theorem dh:FnOk Tryz.prog 116 bX:=by
 have hG:ConsOk Tryz.prog (mkG [(156,fun l=>bh (a7 [.sl .clause,.o] l))] []):=aq (cgc (cy.norm [.sl .clause,.o]) cg0) cg0;refine ax [.o] mixed ak hG (fn:=Tryz.f116) (c:=aa Tryz.f116) kr kr kr kr (a8 fun s_=>(bF (aQ fun q0=>(kB (bG fun k2=>(ai ((ai ((ai (fun hp=>?_)))))))))));dsimp only[ar]at hp;refine⟨nbl rfl,L0,ah _,?_⟩
 ·unfold aa Tryz.f116;try unfold dN
  exact Ke
def dO (s_:List Clause)(q0:Int)(k2:PleasCourt)(w_:Clause):Bool:=(decide ((er s_ q0 k2 w_)≥0))
@[go_sem] def bY:List SV→Option Con:=(pR .clause fun s_=>(pFn 207 (pX .int fun q0=>(pXF 175 (pXX .pleasCourt fun k2=>(pX .clause fun w_=>(pE ((pE ((pE (.det True (.v (.bool (dO s_ q0 k2 w_)))))))))))))))
theorem di:FnOk Tryz.prog 116 bY:=by
 have hG:ConsOk Tryz.prog (mkG [(156,fun l=>bh (a7 [.sl .clause,.o] l))] []):=aq (cgc (cy.norm [.sl .clause,.o]) cg0) cg0;refine ax [.o] mixed ak hG (fn:=Tryz.f116) (c:=aa Tryz.f116) kr kr kr kr (a8 fun s_=>(bF (aQ fun q0=>(kB (bG fun k2=>(aQ fun w_=>(ai ((ai ((ai (fun hp=>?_))))))))))));dsimp only[ar]at hp;refine⟨nbl rfl,L0,ah _,?_⟩
 ·unfold aa Tryz.f116;try unfold dO
  exact Ke
@[go_sem] noncomputable def aW:List SV→Option Con:=fun l=>(orC (bV l) (orC (bW l) (orC (bX l) (bY l))))
theorem bZ:FnOk Tryz.prog 116 aW:=(FnOk.or df (FnOk.or dg (FnOk.or dh di)))
def oP (k_:PleasCourt)(q:Int)(k2:PleasCourt):Bool:=(dL k_.plea.clauses q k2)
@[go_sem] def mK:List SV→Option Con:=(pX .pleasCourt fun k_=>(pI fun q=>(pFB 165 (pX .pleasCourt fun k2=>(pE ((pE (.det True (.v (.bool (oP k_ q k2)))))))))))
theorem Kf {p:Prop}(h:p:=by simp only[go_sem,Nat.reduceBEq,Nat.reduceLeDiff,Nat.reduceLT,decide_true,Nat.reduceAdd,Nat.reduceSub,Nat.reduceMul,Int.reduceLE,Int.reduceLT,Int.reduceToNat,Int.reduceNeg,reduceCtorEq,aW];all_goals exact cl):p:=h
theorem p7:FnOk Tryz.prog 164 mK:=by
 have hG:ConsOk Tryz.prog (mkG [(116,fun l=>aW (a7 [.sl .clause,.o] l))] []):=aq (cgc (bZ.norm [.sl .clause,.o]) cg0) cg0;refine ax [.o] mixed ak hG (fn:=Tryz.f164) (c:=aa Tryz.f164) kr kr kr kr (aQ fun k_=>(bt fun q=>(QA (aQ fun k2=>(ai ((ai (fun hp=>?_))))))));dsimp only[ar]at hp;refine⟨nbl rfl,L0,ah _,?_⟩
 ·unfold aa Tryz.f164;try unfold oP
  exact Kf
def oQ (k_:PleasCourt)(q:Int)(k2:PleasCourt)(w_:Clause):Bool:=(dM k_.plea.clauses q k2 w_)
@[go_sem] def mL:List SV→Option Con:=(pX .pleasCourt fun k_=>(pI fun q=>(pFn 168 (pXX .pleasCourt fun k2=>(pX .clause fun w_=>(pE ((pE (.det True (.v (.bool (oQ k_ q k2 w_))))))))))))
theorem p8:FnOk Tryz.prog 164 mL:=by
 have hG:ConsOk Tryz.prog (mkG [(116,fun l=>aW (a7 [.sl .clause,.o] l))] []):=aq (cgc (bZ.norm [.sl .clause,.o]) cg0) cg0;refine ax [.o] mixed ak hG (fn:=Tryz.f164) (c:=aa Tryz.f164) kr kr kr kr (aQ fun k_=>(bt fun q=>(bF (bG fun k2=>(aQ fun w_=>(ai ((ai (fun hp=>?_)))))))));dsimp only[ar]at hp;refine⟨nbl rfl,L0,ah _,?_⟩
 ·unfold aa Tryz.f164;try unfold oQ
  exact Kf
def oR (k_:PleasCourt)(q:Int)(k2:PleasCourt):Bool:=(dN k_.plea.clauses q k2)
@[go_sem] def mM:List SV→Option Con:=(pX .pleasCourt fun k_=>(pI fun q=>(pFn 172 (pXX .pleasCourt fun k2=>(pE ((pE (.det True (.v (.bool (oR k_ q k2)))))))))))
theorem p9:FnOk Tryz.prog 164 mM:=by
 have hG:ConsOk Tryz.prog (mkG [(116,fun l=>aW (a7 [.sl .clause,.o] l))] []):=aq (cgc (bZ.norm [.sl .clause,.o]) cg0) cg0;refine ax [.o] mixed ak hG (fn:=Tryz.f164) (c:=aa Tryz.f164) kr kr kr kr (aQ fun k_=>(bt fun q=>(bF (bG fun k2=>(ai ((ai (fun hp=>?_))))))));dsimp only[ar]at hp;refine⟨nbl rfl,L0,ah _,?_⟩
 ·unfold aa Tryz.f164;try unfold oR
  exact Kf
def oS (k_:PleasCourt)(q:Int)(k2:PleasCourt)(w_:Clause):Bool:=(dO k_.plea.clauses q k2 w_)
@[go_sem] def mN:List SV→Option Con:=(pX .pleasCourt fun k_=>(pI fun q=>(pFn 175 (pXX .pleasCourt fun k2=>(pX .clause fun w_=>(pE ((pE (.det True (.v (.bool (oS k_ q k2 w_))))))))))))
theorem p_:FnOk Tryz.prog 164 mN:=by
 have hG:ConsOk Tryz.prog (mkG [(116,fun l=>aW (a7 [.sl .clause,.o] l))] []):=aq (cgc (bZ.norm [.sl .clause,.o]) cg0) cg0;refine ax [.o] mixed ak hG (fn:=Tryz.f164) (c:=aa Tryz.f164) kr kr kr kr (aQ fun k_=>(bt fun q=>(bF (bG fun k2=>(aQ fun w_=>(ai ((ai (fun hp=>?_)))))))));dsimp only[ar]at hp;refine⟨nbl rfl,L0,ah _,?_⟩
 ·unfold aa Tryz.f164;try unfold oS
  exact Kf
@[go_sem] noncomputable def jF:List SV→Option Con:=fun l=>(orC (mK l) (orC (mL l) (orC (mM l) (mN l))))
theorem rF:FnOk Tryz.prog 164 jF:=(FnOk.or p7 (FnOk.or p8 (FnOk.or p9 p_)))
def mO (s_:Clause)(k_:PleasCourt)(q:Int):Bool:=((!(lh k_ s_))&&(!(oQ k_ q k_ s_)))
@[go_sem] def pC:List SV→Option Con:=(pD .clause fun s_=>(pXX .pleasCourt fun k_=>(pX .int fun q=>(pE (.det True (.v (.bool (mO s_ k_ q))))))))
theorem RU {p:Prop}(h:p:=by simp only[go_sem,Nat.reduceBEq,Nat.reduceLeDiff,Nat.reduceLT,decide_true,Nat.reduceAdd,Nat.reduceSub,Nat.reduceMul,Int.reduceLE,Int.reduceLT,Int.reduceToNat,Int.reduceNeg,reduceCtorEq,jF];all_goals exact cl):p:=h
theorem uR:FnOk Tryz.prog 166 pC:=by
 have hG:ConsOk Tryz.prog (mkG [(164,jF),(167,fun l=>l7 (a7 [.o,.st .clause] l))] []):=aq (cgc rF (cgc (oO.norm [.o,.st .clause]) cg0)) cg0;refine ax [.o] mixed ak hG (fn:=Tryz.f166) (c:=aa Tryz.f166) kr kr kr kr (aM fun s_=>(bG fun k_=>(aQ fun q=>(ai (fun hp=>?_)))));dsimp only[ar]at hp;refine⟨nbl rfl,L0,ah _,?_⟩
 ·unfold aa Tryz.f166;try unfold mO
  exact RU
def j6 (s_:Clause)(k_:PleasCourt)(q:Int):Bool:=((j3 k_ s_)&&(!(oS k_ q k_ s_)))
@[go_sem] def nD:List SV→Option Con:=(pD .clause fun s_=>(pXX .pleasCourt fun k_=>(pX .int fun q=>(pE (.det True (.v (.bool (j6 s_ k_ q))))))))
theorem ta:FnOk Tryz.prog 174 nD:=by
 have hG:ConsOk Tryz.prog (mkG [(164,jF),(165,fun l=>j4 (a7 [.o,.st .clause] l))] []):=aq (cgc rF (cgc (l6.norm [.o,.st .clause]) cg0)) cg0;refine ax [.o] mixed ak hG (fn:=Tryz.f174) (c:=aa Tryz.f174) kr kr kr kr (aM fun s_=>(bG fun k_=>(aQ fun q=>(ai (fun hp=>?_)))));dsimp only[ar]at hp;refine⟨nbl rfl,L0,ah _,?_⟩
 ·unfold aa Tryz.f174;try unfold j6
  exact RU
def mP (c:Clause)(q0:Int)(k2:PleasCourt)(q2:Int):Bool:=((c.then_==q0)&&(mO c k2 q2))
@[go_sem] def pF:List SV→Option Con:=(pD .clause fun c=>(pX .int fun q0=>(pXF 166 (pXX .pleasCourt fun k2=>(pX .int fun q2=>(pE ((pE (.det True (.v (.bool (mP c q0 k2 q2))))))))))))
theorem uS:FnOk Tryz.prog 207 pF:=by
 have hG:ConsOk Tryz.prog (mkG [(166,fun l=>pC (a7 [.st .clause,.o,.o] l))] []):=aq (cgc (uR.norm [.st .clause,.o,.o]) cg0) cg0;refine ax [.o] mixed ak hG (fn:=Tryz.f207) (c:=aa Tryz.f207) kr kr kr kr (aM fun c=>(aQ fun q0=>(kB (bG fun k2=>(aQ fun q2=>(ai ((ai (fun hp=>?_)))))))));dsimp only[ar]at hp;refine⟨nbl rfl,L0,ah _,?_⟩
 ·unfold aa Tryz.f207;try unfold mP
  exact zq1
def mQ (c:Clause)(q0:Int)(k2:PleasCourt)(q2:Int):Bool:=((c.then_==q0)&&(j6 c k2 q2))
@[go_sem] def pG:List SV→Option Con:=(pD .clause fun c=>(pX .int fun q0=>(pXF 174 (pXX .pleasCourt fun k2=>(pX .int fun q2=>(pE ((pE (.det True (.v (.bool (mQ c q0 k2 q2))))))))))))
theorem uT:FnOk Tryz.prog 207 pG:=by
 have hG:ConsOk Tryz.prog (mkG [(174,fun l=>nD (a7 [.st .clause,.o,.o] l))] []):=aq (cgc (ta.norm [.st .clause,.o,.o]) cg0) cg0;refine ax [.o] mixed ak hG (fn:=Tryz.f207) (c:=aa Tryz.f207) kr kr kr kr (aM fun c=>(aQ fun q0=>(kB (bG fun k2=>(aQ fun q2=>(ai ((ai (fun hp=>?_)))))))));dsimp only[ar]at hp;refine⟨nbl rfl,L0,ah _,?_⟩
 ·unfold aa Tryz.f207;try unfold mQ
  exact zq1
@[go_sem] noncomputable def iS:List SV→Option Con:=fun l=>(orC (kO l) (orC (kP l) (orC (kQ l) (orC (kR l) (orC (pF l) (pG l))))))
theorem pH:FnOk Tryz.prog 207 iS:=(FnOk.or o4 (FnOk.or o5 (FnOk.or o6 (FnOk.or o7 (FnOk.or uS uT)))))
@[go_sem] def fS (s_:List Clause)(q0:Int)(k2:PleasCourt)(q2:Int)(k_0:Nat)(s_0:Unit):Int⊕Unit:=(bif(mP (s_.getD k_0 (default:Clause)) q0 k2 q2)then .inl (k_0:Int)else .inr ())
def et (s_:List Clause)(q0:Int)(k2:PleasCourt)(q2:Int):Int:=(match ay (fS s_ q0 k2 q2) s_.length 0 ()with| .inl x_0_0=>x_0_0| .inr s_0=>(-1))
@[go_sem] def dY:List SV→Option Con:=(pR .clause fun s_=>(pFn 207 (pX .int fun q0=>(pXF 166 (pXX .pleasCourt fun k2=>(pX .int fun q2=>(pE ((pE ((pE (.det True (.v (.int .i64 (et s_ q0 k2 q2)))))))))))))))
theorem RV {p:Prop}(h:p:=by simp only[go_sem,Nat.reduceBEq,Nat.reduceLeDiff,Nat.reduceLT,decide_true,Nat.reduceAdd,Nat.reduceSub,Nat.reduceMul,Int.reduceLE,Int.reduceLT,Int.reduceToNat,Int.reduceNeg,reduceCtorEq,iS];all_goals exact cl):p:=h
theorem fT:FnOk Tryz.prog 156 dY:=by
 have hG:ConsOk Tryz.prog (mkG [(207,fun l=>iS (a7 [.st .clause,.o,.o] l))] []):=aq (cgc (pH.norm [.st .clause,.o,.o]) cg0) cg0;refine ax [.o] mixed ak hG (fn:=Tryz.f156) (c:=aa Tryz.f156) kr kr kr kr (a8 fun s_=>(bF (aQ fun q0=>(kB (bG fun k2=>(aQ fun q2=>(ai ((ai ((ai (fun hp=>?_))))))))))));dsimp only[ar]at hp;refine⟨nbl rfl,(fun id st=>bif Nat.beq id 0 then some (LCR (ρ:=Int) (σ:=Unit) 0 [] [] (fun k_0 s_0=>⟨[(0,.rs .clause s_),(1,.fn 207 [] [.ep [.v (.int .i64 q0)] 0,.ep [.fn 166 [] [.ep [.ep (cellsOf .pleasCourt k2) 0] 0,.ep [.v (.int .i64 q2)] 0]] 0]),(7,.v (.int .i64 (s_.length:Int))),(8,.v (.int .i64 (k_0:Int)))],[]⟩) (fS s_ q0 k2 q2) pT s_.length () (s_.length≤aJ) (fun _=>.ret) (fun x_0_0=>⟨[(4,.v (.int .i64 x_0_0))],[]⟩) st)else none),?_,?_⟩
 ·unfold aa Tryz.f156;simp only[ap,true_and,and_true]
  ·refine bf mixed ak hG kr (fun _=>rfl) (s_.length:Int) rfl fD (fun hb0 k_0 s_0 hlt0 _ hw hc=>⟨L0,ah _,?_⟩) (fun hb0 s_0 hc=>?_)
   ·exact aY (jl [])
   ·exact aX (jl [])
 ·unfold aa Tryz.f156;try unfold et
  exact RV
@[go_sem] def fU (s_:List Clause)(q0:Int)(k2:PleasCourt)(q2:Int)(k_0:Nat)(s_0:Unit):Int⊕Unit:=(bif(mQ (s_.getD k_0 (default:Clause)) q0 k2 q2)then .inl (k_0:Int)else .inr ())
def eu (s_:List Clause)(q0:Int)(k2:PleasCourt)(q2:Int):Int:=(match ay (fU s_ q0 k2 q2) s_.length 0 ()with| .inl x_0_0=>x_0_0| .inr s_0=>(-1))
@[go_sem] def dZ:List SV→Option Con:=(pR .clause fun s_=>(pFn 207 (pX .int fun q0=>(pXF 174 (pXX .pleasCourt fun k2=>(pX .int fun q2=>(pE ((pE ((pE (.det True (.v (.int .i64 (eu s_ q0 k2 q2)))))))))))))))
theorem fV:FnOk Tryz.prog 156 dZ:=by
 have hG:ConsOk Tryz.prog (mkG [(207,fun l=>iS (a7 [.st .clause,.o,.o] l))] []):=aq (cgc (pH.norm [.st .clause,.o,.o]) cg0) cg0;refine ax [.o] mixed ak hG (fn:=Tryz.f156) (c:=aa Tryz.f156) kr kr kr kr (a8 fun s_=>(bF (aQ fun q0=>(kB (bG fun k2=>(aQ fun q2=>(ai ((ai ((ai (fun hp=>?_))))))))))));dsimp only[ar]at hp;refine⟨nbl rfl,(fun id st=>bif Nat.beq id 0 then some (LCR (ρ:=Int) (σ:=Unit) 0 [] [] (fun k_0 s_0=>⟨[(0,.rs .clause s_),(1,.fn 207 [] [.ep [.v (.int .i64 q0)] 0,.ep [.fn 174 [] [.ep [.ep (cellsOf .pleasCourt k2) 0] 0,.ep [.v (.int .i64 q2)] 0]] 0]),(7,.v (.int .i64 (s_.length:Int))),(8,.v (.int .i64 (k_0:Int)))],[]⟩) (fU s_ q0 k2 q2) pT s_.length () (s_.length≤aJ) (fun _=>.ret) (fun x_0_0=>⟨[(4,.v (.int .i64 x_0_0))],[]⟩) st)else none),?_,?_⟩
 ·unfold aa Tryz.f156;simp only[ap,true_and,and_true]
  ·refine bf mixed ak hG kr (fun _=>rfl) (s_.length:Int) rfl fD (fun hb0 k_0 s_0 hlt0 _ hw hc=>⟨L0,ah _,?_⟩) (fun hb0 s_0 hc=>?_)
   ·exact aY (jl [])
   ·exact aX (jl [])
 ·unfold aa Tryz.f156;try unfold eu
  exact RV
@[go_sem] noncomputable def cD:List SV→Option Con:=fun l=>(orC (bB l) (orC (cq l) (orC (cr l) (orC (ct l) (orC (cw l) (orC (dY l) (dZ l)))))))
theorem gb:FnOk Tryz.prog 156 cD:=(FnOk.or cd (FnOk.or dF (FnOk.or dH (FnOk.or dI (FnOk.or dJ (FnOk.or fT fV))))))
def dP (s_:List Clause)(q0:Int)(k2:PleasCourt)(q2:Int):Bool:=(decide ((et s_ q0 k2 q2)≥0))
@[go_sem] def du:List SV→Option Con:=(pR .clause fun s_=>(pFn 207 (pX .int fun q0=>(pXF 166 (pXX .pleasCourt fun k2=>(pX .int fun q2=>(pE ((pE ((pE (.det True (.v (.bool (dP s_ q0 k2 q2)))))))))))))))
theorem RW {p:Prop}(h:p:=by simp only[go_sem,Nat.reduceBEq,Nat.reduceLeDiff,Nat.reduceLT,decide_true,Nat.reduceAdd,Nat.reduceSub,Nat.reduceMul,Int.reduceLE,Int.reduceLT,Int.reduceToNat,Int.reduceNeg,reduceCtorEq,cD];all_goals exact cl):p:=h
theorem ft:FnOk Tryz.prog 116 du:=by
 have hG:ConsOk Tryz.prog (mkG [(156,fun l=>cD (a7 [.sl .clause,.o] l))] []):=aq (cgc (gb.norm [.sl .clause,.o]) cg0) cg0;refine ax [.o] mixed ak hG (fn:=Tryz.f116) (c:=aa Tryz.f116) kr kr kr kr (a8 fun s_=>(bF (aQ fun q0=>(kB (bG fun k2=>(aQ fun q2=>(ai ((ai ((ai (fun hp=>?_))))))))))));dsimp only[ar]at hp;refine⟨nbl rfl,L0,ah _,?_⟩
 ·unfold aa Tryz.f116;try unfold dP
  exact RW
def dQ (s_:List Clause)(q0:Int)(k2:PleasCourt)(q2:Int):Bool:=(decide ((eu s_ q0 k2 q2)≥0))
@[go_sem] def dv:List SV→Option Con:=(pR .clause fun s_=>(pFn 207 (pX .int fun q0=>(pXF 174 (pXX .pleasCourt fun k2=>(pX .int fun q2=>(pE ((pE ((pE (.det True (.v (.bool (dQ s_ q0 k2 q2)))))))))))))))
theorem fu:FnOk Tryz.prog 116 dv:=by
 have hG:ConsOk Tryz.prog (mkG [(156,fun l=>cD (a7 [.sl .clause,.o] l))] []):=aq (cgc (gb.norm [.sl .clause,.o]) cg0) cg0;refine ax [.o] mixed ak hG (fn:=Tryz.f116) (c:=aa Tryz.f116) kr kr kr kr (a8 fun s_=>(bF (aQ fun q0=>(kB (bG fun k2=>(aQ fun q2=>(ai ((ai ((ai (fun hp=>?_))))))))))));dsimp only[ar]at hp;refine⟨nbl rfl,L0,ah _,?_⟩
 ·unfold aa Tryz.f116;try unfold dQ
  exact RW
@[go_sem] noncomputable def b9:List SV→Option Con:=fun l=>(orC (bV l) (orC (bW l) (orC (bX l) (orC (bY l) (orC (du l) (dv l))))))
theorem fA:FnOk Tryz.prog 116 b9:=(FnOk.or df (FnOk.or dg (FnOk.or dh (FnOk.or di (FnOk.or ft fu)))))
def oT (k_:PleasCourt)(q:Int)(k2:PleasCourt)(q2:Int):Bool:=(dP k_.plea.clauses q k2 q2)
@[go_sem] def rG:List SV→Option Con:=(pX .pleasCourt fun k_=>(pI fun q=>(pFn 166 (pXX .pleasCourt fun k2=>(pX .int fun q2=>(pE ((pE (.det True (.v (.bool (oT k_ q k2 q2))))))))))))
theorem RX {p:Prop}(h:p:=by simp only[go_sem,Nat.reduceBEq,Nat.reduceLeDiff,Nat.reduceLT,decide_true,Nat.reduceAdd,Nat.reduceSub,Nat.reduceMul,Int.reduceLE,Int.reduceLT,Int.reduceToNat,Int.reduceNeg,reduceCtorEq,b9];all_goals exact cl):p:=h
theorem vX:FnOk Tryz.prog 164 rG:=by
 have hG:ConsOk Tryz.prog (mkG [(116,fun l=>b9 (a7 [.sl .clause,.o] l))] []):=aq (cgc (fA.norm [.sl .clause,.o]) cg0) cg0;refine ax [.o] mixed ak hG (fn:=Tryz.f164) (c:=aa Tryz.f164) kr kr kr kr (aQ fun k_=>(bt fun q=>(bF (bG fun k2=>(aQ fun q2=>(ai ((ai (fun hp=>?_)))))))));dsimp only[ar]at hp;refine⟨nbl rfl,L0,ah _,?_⟩
 ·unfold aa Tryz.f164;try unfold oT
  exact RX
def oU (k_:PleasCourt)(q:Int)(k2:PleasCourt)(q2:Int):Bool:=(dQ k_.plea.clauses q k2 q2)
@[go_sem] def rH:List SV→Option Con:=(pX .pleasCourt fun k_=>(pI fun q=>(pFn 174 (pXX .pleasCourt fun k2=>(pX .int fun q2=>(pE ((pE (.det True (.v (.bool (oU k_ q k2 q2))))))))))))
theorem vY:FnOk Tryz.prog 164 rH:=by
 have hG:ConsOk Tryz.prog (mkG [(116,fun l=>b9 (a7 [.sl .clause,.o] l))] []):=aq (cgc (fA.norm [.sl .clause,.o]) cg0) cg0;refine ax [.o] mixed ak hG (fn:=Tryz.f164) (c:=aa Tryz.f164) kr kr kr kr (aQ fun k_=>(bt fun q=>(bF (bG fun k2=>(aQ fun q2=>(ai ((ai (fun hp=>?_)))))))));dsimp only[ar]at hp;refine⟨nbl rfl,L0,ah _,?_⟩
 ·unfold aa Tryz.f164;try unfold oU
  exact RX
@[go_sem] noncomputable def ii:List SV→Option Con:=fun l=>(orC (mK l) (orC (mL l) (orC (mM l) (orC (mN l) (orC (rG l) (rH l))))))
theorem mR:FnOk Tryz.prog 164 ii:=(FnOk.or p7 (FnOk.or p8 (FnOk.or p9 (FnOk.or p_ (FnOk.or vX vY)))))
def iK (k_:PleasCourt)(q:Int):Bool:=(bif(fZ .int .bool k_.strict q)then true else(bif((fZ .int .bool k_.strict (i64.wrap (0 - q))) ||(!(oP k_ q k_)))then false else(!(oT k_ (i64.wrap (0 - q)) k_ q))))
@[go_sem] def rI:List SV→Option Con:=(pX .pleasCourt fun k_=>(pI fun q=>(pE (.det True (.v (.bool (iK k_ q)))))))
theorem Oe {p:Prop}(h:p:=by simp only[go_sem,Nat.reduceBEq,Nat.reduceLeDiff,Nat.reduceLT,decide_true,Nat.reduceAdd,Nat.reduceSub,Nat.reduceMul,Int.reduceLE,Int.reduceLT,Int.reduceToNat,Int.reduceNeg,reduceCtorEq,ii];all_goals exact cl):p:=h
theorem vZ:FnOk Tryz.prog 132 rI:=by
 have hG:ConsOk Tryz.prog (mkG [(164,ii)] []):=aq (cgc mR cg0) cg0;refine ax [.o] mixed ak hG (fn:=Tryz.f132) (c:=aa Tryz.f132) kr kr kr kr (aQ fun k_=>(bt fun q=>(ai (fun hp=>?_))));dsimp only[ar]at hp;refine⟨nbl rfl,L0,ah _,?_⟩
 ·unfold aa Tryz.f132;try unfold iK
  exact Oe
def lC (k_:PleasCourt)(q:Int):Bool:=(fZ .int .bool k_.strict (i64.wrap (0 - q)))
@[go_sem] def o8:List SV→Option Con:=(pXX .pleasCourt fun k_=>(pX .int fun q=>(pE (.det True (.v (.bool (lC k_ q)))))))
theorem ug:FnOk Tryz.prog 170 o8:=by
 have hG:ConsOk Tryz.prog (mkG [] []):=aq cg0 cg0;refine ax [.o] mixed ak hG (fn:=Tryz.f170) (c:=aa Tryz.f170) kr kr kr kr (bG fun k_=>(aQ fun q=>(ai (fun hp=>?_))));dsimp only[ar]at hp;refine⟨nbl rfl,L0,ah _,?_⟩
 ·unfold aa Tryz.f170;try unfold lC
  exact zq1
def lD (k_:PleasCourt)(q:Int):Bool:=(!(oR k_ q k_))
@[go_sem] def o9:List SV→Option Con:=(pXX .pleasCourt fun k_=>(pX .int fun q=>(pE (.det True (.v (.bool (lD k_ q)))))))
theorem uh:FnOk Tryz.prog 171 o9:=by
 have hG:ConsOk Tryz.prog (mkG [(164,ii)] []):=aq (cgc mR cg0) cg0;refine ax [.o] mixed ak hG (fn:=Tryz.f171) (c:=aa Tryz.f171) kr kr kr kr (bG fun k_=>(aQ fun q=>(ai (fun hp=>?_))));dsimp only[ar]at hp;refine⟨nbl rfl,L0,ah _,?_⟩
 ·unfold aa Tryz.f171;try unfold lD
  exact Oe
def lE (k_:PleasCourt)(q:Int):Bool:=(oU k_ (i64.wrap (0 - q)) k_ q)
@[go_sem] def o_:List SV→Option Con:=(pXX .pleasCourt fun k_=>(pX .int fun q=>(pE (.det True (.v (.bool (lE k_ q)))))))
theorem ui:FnOk Tryz.prog 173 o_:=by
 have hG:ConsOk Tryz.prog (mkG [(164,ii)] []):=aq (cgc mR cg0) cg0;refine ax [.o] mixed ak hG (fn:=Tryz.f173) (c:=aa Tryz.f173) kr kr kr kr (bG fun k_=>(aQ fun q=>(ai (fun hp=>?_))));dsimp only[ar]at hp;refine⟨nbl rfl,L0,ah _,?_⟩
 ·unfold aa Tryz.f173;try unfold lE
  exact Oe
@[go_sem] def CU (x:Int):List SV:=[.v (.int .i64 x)]
@[go_sem] def qx:List SV→Option Con:=(pE (.det True (.fn 159 [] [])))
theorem tT:FnOk Tryz.prog 119 qx:=by
 have hG:ConsOk Tryz.prog (mkG [] []):=aq cg0 cg0;refine ax [.o] mixed ak hG (fn:=Tryz.f119) (c:=aa Tryz.f119) kr kr kr kr (ai (fun hp=>?_));refine⟨nbl rfl,L0,ah _,?_⟩;unfold aa Tryz.f119;simp only[go_sem,G5,G6,Nat.reduceBEq,Nat.reduceLeDiff,Nat.reduceAdd,Nat.reduceSub,Nat.reduceMul]
@[go_sem] def ij (k_0:Nat)(s_0:List Int×Int):(List Int)⊕(List Int×Int):=(bif(decide (s_0.2≤32))then(bif(s_0.2 !=0)then .inr ((s_0.1++[s_0.2]),(i64.wrap (s_0.2+1)))else .inr (s_0.1,(i64.wrap (s_0.2+1))))else .inl s_0.1)
def lF (items_:List (List SV))(k_0:Nat)(s_0:List Int×Int):Prop:=((decide (s_0.2≤32))=true→(((s_0.2 !=0)=true→(items_[s_0.1.length]? =some (CU s_0.2)))∧((s_0.2 !=0)=false→((s_0.2 !=0)=false))))
def aP:List Int:=(match ay (ij) 66 0 (([]:List Int),(-32))with| .inl x_0_0=>x_0_0| .inr s_0=>default)
def eO (items_:List (List SV)):Prop:=(okI (ij) (lF items_) 66 0 (([]:List Int),(-32))∧(∀ z_,ay (ij) 66 0 (([]:List Int),(-32))≠ .inr z_)∧(∀ x_0_0,ay (ij) 66 0 (([]:List Int),(-32))=.inl x_0_0→(items_.length=x_0_0.length)))
theorem sh (items_:List (List SV))(hp:eO items_):GH Tryz.prog 159 (fun y=>[y]) [] items_:=by
 unfold eO at hp;refine NW mixed ak (fn:=Tryz.f159) (c:=aa Tryz.f159) kr kr kr kr rfl (n:=0) rfl (G:=fun r_=>E2 [] [] (Lq items_ r_)) (fun r_ hy=>?_) (fun args w=>by kernel_rfl);have hG:ConsOk Tryz.prog (E2 [] [] (Lq items_ r_)):=E3 cg0 cg0 hy;refine⟨hG,nbl rfl,(fun id st=>bif Nat.beq id 0 then some (T1 (ρ:=(List Int)) (σ:=(List Int×Int)) 1 [] [0] (fun k_0 s_0=>⟨[(0,.os 0),(2,.v (.int .i64 s_0.2))],[.ab (r_.1 (s_0.1.length+1))]⟩) (ij) (lF items_) 66 (([]:List Int),(-32)) (fun _=>.normal) (fun x_0_0=>⟨[],[.ab (r_.1 (x_0_0.length+1))]⟩) ⟨[],[.ab (r_.1 0)]⟩ st)else none),?_,?_⟩
 ·unfold aa Tryz.f159;simp only[ap,true_and,and_true]
  ·refine Lr mixed ak hG kr (fun _=>rfl) fun k_0 s_0 hq0=>⟨L0,ah _,?_⟩
   ·unfold lF at hq0;exact T6 (jl [0])
 ·unfold aa Tryz.f159;exact T6 (jl [0])
def tb (q:Int)(m:List (Int×Bool)):Bool:=(!(fZ .int .bool m q))
@[go_sem] def uU:List SV→Option Con:=(pI fun q=>(pXM .int .bool fun m=>(pE (.det True (.v (.bool (tb q m)))))))
theorem zi:FnOk Tryz.prog 158 uU:=by
 have hG:ConsOk Tryz.prog (mkG [] []):=aq cg0 cg0;refine ax [.o] mixed ak hG (fn:=Tryz.f158) (c:=aa Tryz.f158) kr kr kr kr (bt fun q=>(Fd fun m=>(ai (fun hp=>?_))));dsimp only[ar]at hp;refine⟨nbl rfl,L0,ah _,?_⟩
 ·unfold aa Tryz.f158;try unfold tb
  exact zq1
@[go_sem] def ky (s_:List Int)(m:List (Int×Bool))(k_0:Nat)(s_0:Unit):Int⊕Unit:=(bif(tb (s_.getD k_0 (0:Int)) m)then .inl (k_0:Int)else .inr ())
def iL (s_:List Int)(m:List (Int×Bool)):Int:=(match ay (ky s_ m) s_.length 0 ()with| .inl x_0_0=>x_0_0| .inr s_0=>(-1))
@[go_sem] def li:List SV→Option Con:=(pR .int fun s_=>(pFn 158 (pXM .int .bool fun m=>(pE ((pE (.det True (.v (.int .i64 (iL s_ m))))))))))
theorem rJ:FnOk Tryz.prog 203 li:=by
 have hG:ConsOk Tryz.prog (mkG [(158,uU)] []):=aq (cgc zi cg0) cg0;refine ax [.o] mixed ak hG (fn:=Tryz.f203) (c:=aa Tryz.f203) kr kr kr kr (a8 fun s_=>(bF (Fd fun m=>(ai ((ai (fun hp=>?_)))))));dsimp only[ar]at hp;refine⟨nbl rfl,(fun id st=>bif Nat.beq id 0 then some (LCR (ρ:=Int) (σ:=Unit) 0 [] [] (fun k_0 s_0=>⟨[(0,.rs .int s_),(1,.fn 158 [] [.ep [.rm .int .bool m] 0]),(7,.v (.int .i64 (s_.length:Int))),(8,.v (.int .i64 (k_0:Int)))],[]⟩) (ky s_ m) pT s_.length () (s_.length≤aJ) (fun _=>.ret) (fun x_0_0=>⟨[(4,.v (.int .i64 x_0_0))],[]⟩) st)else none),?_,?_⟩
 ·unfold aa Tryz.f203;simp only[ap,true_and,and_true]
  ·refine bf mixed ak hG kr (fun _=>rfl) (s_.length:Int) rfl fD (fun hb0 k_0 s_0 hlt0 _ hw hc=>⟨L0,ah _,?_⟩) (fun hb0 s_0 hc=>?_)
   ·exact aY (jl [])
   ·exact aX (jl [])
 ·unfold aa Tryz.f203;try unfold iL
  exact zq1
@[go_sem] noncomputable def ip:List SV→Option Con:=fun l=>(orC (iI l) (orC (ia l) (li l)))
theorem rZ:FnOk Tryz.prog 203 ip:=(FnOk.or l5 (FnOk.or kx rJ))
def gU (s_:List Int)(m:List (Int×Bool)):Bool:=(decide ((iL s_ m)≥0))
@[go_sem] def jB:List SV→Option Con:=(pR .int fun s_=>(pFn 158 (pXM .int .bool fun m=>(pE ((pE (.det True (.v (.bool (gU s_ m))))))))))
theorem Yv {p:Prop}(h:p:=by simp only[go_sem,Nat.reduceBEq,Nat.reduceLeDiff,Nat.reduceLT,decide_true,Nat.reduceAdd,Nat.reduceSub,Nat.reduceMul,Int.reduceLE,Int.reduceLT,Int.reduceToNat,Int.reduceNeg,reduceCtorEq,ip];all_goals exact cl):p:=h
theorem pJ:FnOk Tryz.prog 157 jB:=by
 have hG:ConsOk Tryz.prog (mkG [(203,fun l=>ip (a7 [.sl .int,.o] l))] []):=aq (cgc (rZ.norm [.sl .int,.o]) cg0) cg0;refine ax [.o] mixed ak hG (fn:=Tryz.f157) (c:=aa Tryz.f157) kr kr kr kr (a8 fun s_=>(bF (Fd fun m=>(ai ((ai (fun hp=>?_)))))));dsimp only[ar]at hp;refine⟨nbl rfl,L0,ah _,?_⟩
 ·unfold aa Tryz.f157;try unfold gU
  exact Yv
@[go_sem] noncomputable def gF:List SV→Option Con:=fun l=>(orC (gS l) (orC (gu l) (jB l)))
theorem pW:FnOk Tryz.prog 157 gF:=(FnOk.or jZ (FnOk.or jk pJ))
@[go_sem] def oA (p:Plea)(k_0:Nat)(s_0:List (Int×Bool)):Empty⊕(List (Int×Bool)):=.inr (lR .int .bool s_0 (p.facts.getD k_0 (0:Int)) true)
@[go_sem] def vP (p:Plea)(s_1:List (Int×Bool))(k_2:Nat)(s_2:Unit):(List (Int×Bool))⊕Unit:=(bif(((p.clauses.getD k_2 (default:Clause)).strict&&(!(fZ .int .bool s_1 ((p.clauses.getD k_2 (default:Clause)).then_))))&&(!(gU ((p.clauses.getD k_2 (default:Clause)).if_) s_1)))then .inl (lR .int .bool s_1 ((p.clauses.getD k_2 (default:Clause)).then_) true)else .inr ())
@[go_sem] def r4 (p:Plea)(k_1:Nat)(s_1:List (Int×Bool)):(List (Int×Bool))⊕(List (Int×Bool)):=(match ay (vP p s_1) p.clauses.length 0 ()with| .inl x_2_0=>.inr x_2_0| .inr s_2=>.inl s_1)
def eX (p:Plea):List (Int×Bool):=(match ay (oA p) p.facts.length 0 ([])with| .inl x=>x.elim| .inr s_0=>(match ay (r4 p) (p.clauses.length+1) 0 s_0 with| .inl x_1_0=>x_1_0| .inr s_1=>default))
def iM (p:Plea):Prop:=(p.facts.length≤aJ→(∀ s_0,ay (oA p) p.facts.length 0 ([])=.inr s_0→(∀ z_,ay (r4 p) (p.clauses.length+1) 0 s_0≠ .inr z_)))
@[go_sem] def td:List SV→Option Con:=(pD .plea fun p=>(pE (.det (iM p) (.nm .int .bool (eX p)))))
theorem Yw {p:Prop}(h:p:=by simp only[go_sem,Nat.reduceBEq,Nat.reduceLeDiff,Nat.reduceLT,decide_true,Nat.reduceAdd,Nat.reduceSub,Nat.reduceMul,Int.reduceLE,Int.reduceLT,Int.reduceToNat,Int.reduceNeg,reduceCtorEq,gF];all_goals exact cl):p:=h
theorem vQ:FnOk Tryz.prog 118 td:=by
 have hG:ConsOk Tryz.prog (mkG [(157,fun l=>gF (a7 [.sl .int,.o] l))] []):=aq (cgc (pW.norm [.sl .int,.o]) cg0) cg0;refine MJ true mixed ak hG (fn:=Tryz.f118) (c:=aa Tryz.f118) kr kr kr kr (aM fun p=>(ai (fun hp=>?_)));dsimp only[ar]at hp;unfold iM at hp;refine⟨nbl rfl,(fun id st=>bif Nat.beq id 0 then some (LCR (ρ:=Empty) (σ:=(List (Int×Bool))) 3 [] [0,1,2] (fun k_0 s_0=>⟨[(1,.ptr 0 0),(3,.ptr 2 0),(11,.rs .int p.facts),(12,.v (.int .i64 (p.facts.length:Int))),(13,.v (.int .i64 (k_0:Int)))],[.cells (cellsOf .plea p),.mp .int .bool s_0 none,.cells [.os 1]]⟩) (oA p) pT p.facts.length ([]) (p.facts.length≤aJ) ((·.elim)) ((·.elim)) st)else bif Nat.beq id 2 then some (LCV (ρ:=(List (Int×Bool))) (σ:=(List (Int×Bool))) 3 [] [0,1,2] (fun k_1 s_1=>⟨[(1,.ptr 0 0),(3,.ptr 2 0)],[.cells (cellsOf .plea p),.mp .int .bool s_1 none,.cells [.os 1]]⟩) (r4 p) pT (p.clauses.length+1) (dT (ay (oA p) p.facts.length 0 ([]))) (fun _=>.ret) (fun x_1_0=>⟨[(2,.os 3)],[.dead,.dead,.dead,.mp .int .bool x_1_0 none]⟩) st)else none),?_,?_⟩
 ·unfold aa Tryz.f118;simp only[ap,true_and,and_true];refine⟨?_,?_⟩
  ·refine bf mixed ak hG kr (fun _=>rfl) (p.facts.length:Int) rfl fD (fun hb0 k_0 s_0 hlt0 _ hw hc=>⟨L0,ah _,?_⟩) (fun hb0 s_0 hc=>?_)
   ·exact aY (jl [0,1,2])
   ·exact aX (jl [0,1,2])
  ·refine mq mixed ak hG kr (fun _=>rfl) fun k_1 s_1 _=>⟨(fun id st=>bif Nat.beq id 4 then some (LCR (ρ:=(List (Int×Bool))) (σ:=Unit) 3 [] [0,1,2] (fun k_2 s_2=>⟨[(1,.ptr 0 0),(3,.ptr 2 0),(21,.rs .clause p.clauses),(22,.v (.int .i64 (p.clauses.length:Int))),(23,.v (.int .i64 (k_2:Int)))],[.cells (cellsOf .plea p),.mp .int .bool s_1 none,.cells [.os 1]]⟩) (vP p s_1) pT p.clauses.length () (p.clauses.length≤aJ) (fun _=>.exit 3) (fun x_2_0=>⟨[(1,.ptr 0 0),(3,.ptr 2 0)],[.cells (cellsOf .plea p),.mp .int .bool x_2_0 none,.cells [.os 1]]⟩) st)else none),?_,?_⟩
   ·simp only[ap,true_and,and_true]
    ·refine bf mixed ak hG kr (fun _=>rfl) (p.clauses.length:Int) rfl fD (fun hb2 k_2 s_2 hlt2 _ hw hc=>⟨L0,ah _,?_⟩) (fun hb2 s_2 hc=>?_)
     ·exact aY (jl [0,1,2])
     ·exact aX (jl [0,1,2])
   ·exact CB (jl [0,1,2]) (jl [0,1,2,1])
 ·unfold aa Tryz.f118;try unfold eX
  exact Yw
@[go_sem] def fW (s_:List Clause)(k_0:Nat)(s_0:Unit):Int⊕Unit:=(bif(uf (s_.getD k_0 (default:Clause)))then .inl (k_0:Int)else .inr ())
def ev (s_:List Clause):Int:=(match ay (fW s_) s_.length 0 ()with| .inl x_0_0=>x_0_0| .inr s_0=>(-1))
@[go_sem] def gc:List SV→Option Con:=(pR .clause fun s_=>(pFn 115 (pE ((pE (.det True (.v (.int .i64 (ev s_)))))))))
theorem ko:FnOk Tryz.prog 156 gc:=by
 have hG:ConsOk Tryz.prog (mkG [(115,fun l=>vO (a7 [.st .clause] l))] []):=aq (cgc (z8.norm [.st .clause]) cg0) cg0;refine ax [.o] mixed ak hG (fn:=Tryz.f156) (c:=aa Tryz.f156) kr kr kr kr (a8 fun s_=>(bF (ai ((ai (fun hp=>?_))))));dsimp only[ar]at hp;refine⟨nbl rfl,(fun id st=>bif Nat.beq id 0 then some (LCR (ρ:=Int) (σ:=Unit) 0 [] [] (fun k_0 s_0=>⟨[(0,.rs .clause s_),(1,.fn 115 [] []),(7,.v (.int .i64 (s_.length:Int))),(8,.v (.int .i64 (k_0:Int)))],[]⟩) (fW s_) pT s_.length () (s_.length≤aJ) (fun _=>.ret) (fun x_0_0=>⟨[(4,.v (.int .i64 x_0_0))],[]⟩) st)else none),?_,?_⟩
 ·unfold aa Tryz.f156;simp only[ap,true_and,and_true]
  ·refine bf mixed ak hG kr (fun _=>rfl) (s_.length:Int) rfl fD (fun hb0 k_0 s_0 hlt0 _ hw hc=>⟨L0,ah _,?_⟩) (fun hb0 s_0 hc=>?_)
   ·exact aY (jl [])
   ·exact aX (jl [])
 ·unfold aa Tryz.f156;try unfold ev
  exact zq1
@[go_sem] noncomputable def d8:List SV→Option Con:=fun l=>(orC (bB l) (orC (cq l) (orC (cr l) (orC (ct l) (orC (cw l) (orC (dY l) (orC (dZ l) (gc l))))))))
theorem kS:FnOk Tryz.prog 156 d8:=(FnOk.or cd (FnOk.or dF (FnOk.or dH (FnOk.or dI (FnOk.or dJ (FnOk.or fT (FnOk.or fV ko)))))))
def ce (s_:List Clause):Bool:=(decide ((ev s_)≥0))
@[go_sem] def fB:List SV→Option Con:=(pR .clause fun s_=>(pFn 115 (pE ((pE (.det True (.v (.bool (ce s_)))))))))
theorem Yx {p:Prop}(h:p:=by simp only[go_sem,Nat.reduceBEq,Nat.reduceLeDiff,Nat.reduceLT,decide_true,Nat.reduceAdd,Nat.reduceSub,Nat.reduceMul,Int.reduceLE,Int.reduceLT,Int.reduceToNat,Int.reduceNeg,reduceCtorEq,d8];all_goals exact cl):p:=h
theorem jv:FnOk Tryz.prog 116 fB:=by
 have hG:ConsOk Tryz.prog (mkG [(156,fun l=>d8 (a7 [.sl .clause,.o] l))] []):=aq (cgc (kS.norm [.sl .clause,.o]) cg0) cg0;refine ax [.o] mixed ak hG (fn:=Tryz.f116) (c:=aa Tryz.f116) kr kr kr kr (a8 fun s_=>(bF (ai ((ai (fun hp=>?_))))));dsimp only[ar]at hp;refine⟨nbl rfl,L0,ah _,?_⟩
 ·unfold aa Tryz.f116;try unfold ce
  exact Yx
@[go_sem] noncomputable def bq:List SV→Option Con:=fun l=>(orC (bV l) (orC (bW l) (orC (bX l) (orC (bY l) (orC (du l) (orC (dv l) (fB l)))))))
theorem jE:FnOk Tryz.prog 116 bq:=(FnOk.or df (FnOk.or dg (FnOk.or dh (FnOk.or di (FnOk.or ft (FnOk.or fu jv))))))
@[go_sem] def pK (a0:Plea)(k_0:Nat)(s_0:Bool×Int):Empty⊕(Bool×Int):=.inr (((((((s_0.1&&(decide ((a0.clauses.getD k_0 (default:Clause)).no > s_0.2)))&&(decide ((a0.clauses.getD k_0 (default:Clause)).no≤1048576)))&&(iv ((a0.clauses.getD k_0 (default:Clause)).then_)))&&(decide ((a0.clauses.getD k_0 (default:Clause)).rank≥0)))&&(decide ((a0.clauses.getD k_0 (default:Clause)).rank≤1048576)))&&(kJ ((a0.clauses.getD k_0 (default:Clause)).if_))),(a0.clauses.getD k_0 (default:Clause)).no)
def j7 (a0:Plea)(k_0:Nat)(s_0:Bool×Int):Prop:=((((((s_0.1&&(decide ((a0.clauses.getD k_0 (default:Clause)).no > s_0.2)))&&(decide ((a0.clauses.getD k_0 (default:Clause)).no≤1048576)))&&(iv ((a0.clauses.getD k_0 (default:Clause)).then_)))&&(decide ((a0.clauses.getD k_0 (default:Clause)).rank≥0)))&&(decide ((a0.clauses.getD k_0 (default:Clause)).rank≤1048576)))=true→(jY ((a0.clauses.getD k_0 (default:Clause)).if_)))
@[go_sem] def pL (a0:Plea)(z_1:Int)(s_1:Unit):Unit⊕Unit:=(bif((fZ .int .bool (eX a0) z_1)&&(fZ .int .bool (eX a0) (i64.wrap (0 - z_1))))then .inl ()else .inr ())
def Aa (a0:Plea)(z_1:Int)(s_1:Unit):Prop:=True
def gV (a0:Plea):Int:=(bif(((decide ((a0.facts.length:Int) > 64)) ||(decide ((a0.clauses.length:Int) > 64))) ||(ce a0.clauses))then 2 else(match ay (pK a0) a0.clauses.length 0 ((kJ a0.facts),(-1))with| .inl x=>x.elim| .inr s_0=>(bif(!s_0.1)then 510 else(match nI (pL a0) aP ()with| .inl x_1_0=>510| .inr s_1=>0))))
def jw (a0:Plea):Prop:=(a0.facts.length≤aJ→((((decide ((a0.facts.length:Int) > 64)) ||(decide ((a0.clauses.length:Int) > 64))) ||(ce a0.clauses))=false→((jY a0.facts)∧(a0.clauses.length≤aJ→(okI (pK a0) (j7 a0) a0.clauses.length 0 ((kJ a0.facts),(-1))∧(∀ s_0,ay (pK a0) a0.clauses.length 0 ((kJ a0.facts),(-1))=.inr s_0→((!s_0.1)=false→((iM a0)∧(eO ((aP).map CU))))))))))
@[go_sem] def qP:List SV→Option Con:=(pD .plea fun a0=>(pE (.det (jw a0) (.v (.int .i64 (gV a0))))))
theorem Yy {l0:List Nat}(a0:JL l0){p:Prop}(h:JL l0→p:=by intro ja;simp only[go_sem,Nat.reduceBEq,Nat.reduceLeDiff,Nat.reduceLT,decide_true,Nat.reduceAdd,Nat.reduceSub,Nat.reduceMul,Int.reduceLE,Int.reduceLT,Int.reduceToNat,Int.reduceNeg,reduceCtorEq,bq,pL,psT,CU,List.cons_append,List.nil_append];all_goals exact kX ja):p:=h a0
theorem RY {l0:List Nat}(a0:JL l0){p:Prop}(h:JL l0→p:=by intro ja;simp only[go_sem,Nat.reduceBEq,Nat.reduceLeDiff,Nat.reduceLT,decide_true,Nat.reduceAdd,Nat.reduceSub,Nat.reduceMul,Int.reduceLE,Int.reduceLT,Int.reduceToNat,Int.reduceNeg,reduceCtorEq,bq];all_goals exact kX ja):p:=h a0
theorem Yz {p:Prop}(h:p:=by simp only[go_sem,Nat.reduceBEq,Nat.reduceLeDiff,Nat.reduceLT,decide_true,Nat.reduceAdd,Nat.reduceSub,Nat.reduceMul,Int.reduceLE,Int.reduceLT,Int.reduceToNat,Int.reduceNeg,reduceCtorEq,bq];all_goals exact cl):p:=h
theorem tf:FnOk Tryz.prog 67 qP:=by
 have hG:ConsOk Tryz.prog (mkG [(83,oz),(116,fun l=>bq (a7 [.sl .clause,.o] l)),(117,fun l=>wV (a7 [.sl .int] l)),(118,fun l=>td (a7 [.st .plea] l)),(119,fun l=>qx (a7 [] l))] []):=aq (cgc qv (cgc (jE.norm [.sl .clause,.o]) (cgc (AS.norm [.sl .int]) (cgc (vQ.norm [.st .plea]) (cgc (tT.norm []) cg0))))) cg0;refine ax [.o] mixed ak hG (fn:=Tryz.f67) (c:=aa Tryz.f67) kr kr kr kr (aM fun a0=>(ai (fun hp=>?_)));dsimp only[ar]at hp;unfold jw at hp;refine⟨nbl rfl,(fun id st=>bif Nat.beq id 0 then some (LCR (ρ:=Empty) (σ:=(Bool×Int)) 2 [] [0,1] (fun k_0 s_0=>⟨[(1,.ptr 0 0),(2,.ptr 1 0),(4,.v (.bool s_0.1)),(5,.v (.int .i64 s_0.2)),(30,.rs .clause a0.clauses),(31,.v (.int .i64 (a0.clauses.length:Int))),(32,.v (.int .i64 (k_0:Int)))],[.cells (cellsOf .plea a0),.cells [.v (.int .i64 0)]]⟩) (pK a0) (j7 a0) a0.clauses.length ((kJ a0.facts),(-1)) (a0.clauses.length≤aJ) ((·.elim)) ((·.elim)) st)else bif Nat.beq id 2 then some (LC (ρ:=Unit) (σ:=Unit) (lk 2 st.t=.ptr 1 0∧lk 8 st.t=.ptr 3 0∧lk 75 st.t=.fn 159 [] []∧st.h=[.cells (cellsOf .plea a0),.cells [.v (.int .i64 0)],.mp .int .bool (eX a0) none,.cells [.os 2]]∧eO ((aP).map CU)) (nI (pL a0) aP ()) (fun _=>.ret) (fun x_1_0=>⟨[(2,.ptr 1 0),(8,.ptr 3 0)],[.dead,.cells [.v (.int .i64 510)],.mp .int .bool (eX a0) none,.cells [.os 2]]⟩) (fun s_1=>⟨[(2,.ptr 1 0),(8,.ptr 3 0)],[.dead,.cells [.v (.int .i64 0)],.mp .int .bool (eX a0) none,.cells [.os 2]]⟩))else none),?_,?_⟩
 ·unfold aa Tryz.f67;simp only[ap,true_and,and_true];refine⟨?_,?_⟩
  ·refine bf mixed ak hG kr (fun _=>rfl) (a0.clauses.length:Int) rfl fD (fun hb0 k_0 s_0 hlt0 hq0 hw hc=>⟨L0,ah _,?_⟩) (fun hb0 s_0 hc=>?_)
   ·unfold j7 at hq0;try simp only[hw,Int.toNat_natCast]at hq0
    exact aY (jl [0,1])
   ·exact aX (jl [0,1])
  ·refine zJ mixed ak hG (by decide) (by decide) kr kr fun st lc hC hp=>?_;simp only[go_sem,Nat.reduceBEq,Option.some.injEq]at hC;subst hC;obtain⟨t,h⟩:=st;dsimp only[LC]at hp;obtain⟨e1_0,e1_1,e1_2,rfl,hb1⟩:=hp;refine⟨159,[],Int,_,_,aP,CU,(pL a0),(Aa a0),_,(),_,_,_,[(2,.ptr 1 0),(8,.ptr 3 0)],(fun s_1=>[.dead,.cells [.v (.int .i64 0)],.mp .int .bool (eX a0) none,.cells [.os 2]]),(fun x_1_0=>[.dead,.cells [.v (.int .i64 510)],.mp .int .bool (eX a0) none,.cells [.os 2]]),[0,1,2,3],?_,rfl,JT _ _ fun _ _ _=>trivial,nbl rfl,?_,sh _ hb1,fun z_1 s_1 hq1=>⟨rfl,L0,fun l=>?_,fun l=>?_,?_⟩,fun s_1=>?_,fun y=>?_⟩
   ·simp only[go_sem,e1_0,e1_1,e1_2]
   ·simp only[go_sem,Nat.reduceBEq,Nat.reduceLeDiff,Nat.reduceLT,decide_true,Nat.reduceAdd,Nat.reduceSub,Nat.reduceMul,Int.reduceLE,Int.reduceLT,Int.reduceToNat,Int.reduceNeg,reduceCtorEq,wx,oF,List.flatMap_cons,List.flatMap_nil,List.nil_append,List.append_nil,List.map_nil,e1_0,e1_1,e1_2];all_goals (first|done|decide|(repeat' (first|refine And.intro ?_ ?_|rfl|decide)))
   ·simp only[ap,and_self,true_and,and_true]
   ·simp only[ap,and_self,true_and,and_true]
   ·skip
    exact Yy (jl [0,1,2,3])
   ·exact RY (jl [0,1,2,3])
   ·exact RY (jl [0,1,2,3])
 ·unfold aa Tryz.f67;try unfold gV
  exact Yz
def j8 (k1:PleasCourt)(q1:Int):Bool:=(lC k1 q1)
@[go_sem] def nE:List SV→Option Con:=(pFn 170 (pXX .pleasCourt fun k1=>(pX .int fun q1=>(pE ((pE (.det True (.v (.bool (j8 k1 q1))))))))))
theorem tg:FnOk Tryz.prog 177 nE:=by
 have hG:ConsOk Tryz.prog (mkG [(170,o8)] []):=aq (cgc ug cg0) cg0;refine ax [.o] mixed ak hG (fn:=Tryz.f177) (c:=aa Tryz.f177) kr kr kr kr (bF (bG fun k1=>(aQ fun q1=>(ai ((ai (fun hp=>?_)))))));dsimp only[ar]at hp;refine⟨nbl rfl,L0,ah _,?_⟩
 ·unfold aa Tryz.f177;try unfold j8
  exact zq1
def j_ (k2:PleasCourt)(q2:Int):Bool:=(lD k2 q2)
@[go_sem] def nF:List SV→Option Con:=(pFn 171 (pXX .pleasCourt fun k2=>(pX .int fun q2=>(pE ((pE (.det True (.v (.bool (j_ k2 q2))))))))))
theorem th:FnOk Tryz.prog 177 nF:=by
 have hG:ConsOk Tryz.prog (mkG [(171,o9)] []):=aq (cgc uh cg0) cg0;refine ax [.o] mixed ak hG (fn:=Tryz.f177) (c:=aa Tryz.f177) kr kr kr kr (bF (bG fun k2=>(aQ fun q2=>(ai ((ai (fun hp=>?_)))))));dsimp only[ar]at hp;refine⟨nbl rfl,L0,ah _,?_⟩
 ·unfold aa Tryz.f177;try unfold j_
  exact zq1
def ka (k3:PleasCourt)(q3:Int):Bool:=(lE k3 q3)
@[go_sem] def nG:List SV→Option Con:=(pFn 173 (pXX .pleasCourt fun k3=>(pX .int fun q3=>(pE ((pE (.det True (.v (.bool (ka k3 q3))))))))))
theorem tj:FnOk Tryz.prog 177 nG:=by
 have hG:ConsOk Tryz.prog (mkG [(173,o_)] []):=aq (cgc ui cg0) cg0;refine ax [.o] mixed ak hG (fn:=Tryz.f177) (c:=aa Tryz.f177) kr kr kr kr (bF (bG fun k3=>(aQ fun q3=>(ai ((ai (fun hp=>?_)))))));dsimp only[ar]at hp;refine⟨nbl rfl,L0,ah _,?_⟩
 ·unfold aa Tryz.f177;try unfold ka
  exact zq1
@[go_sem] noncomputable def gJ:List SV→Option Con:=fun l=>(orC (nE l) (orC (nF l) (nG l)))
theorem tw:FnOk Tryz.prog 177 gJ:=(FnOk.or tg (FnOk.or th tj))
@[go_sem] def cS (k1:PleasCourt)(q1:Int)(k2:PleasCourt)(q2:Int)(k3:PleasCourt)(q3:Int)(k_0:Nat)(s_0:Unit):Int⊕Unit:=(bif(Nat.beq k_0 0)then(bif(j8 k1 q1)then .inl 0 else .inr ())else(bif(Nat.beq k_0 1)then(bif(j_ k2 q2)then .inl 1 else .inr ())else(bif(ka k3 q3)then .inl 2 else .inr ())))
def gl (k1:PleasCourt)(q1:Int)(k2:PleasCourt)(q2:Int)(k3:PleasCourt)(q3:Int)(k_0:Nat)(s_0:Unit):Prop:=True
def e_ (k1:PleasCourt)(q1:Int)(k2:PleasCourt)(q2:Int)(k3:PleasCourt)(q3:Int):Int:=(match ay (cS k1 q1 k2 q2 k3 q3) 3 0 ()with| .inl x_0_0=>x_0_0| .inr s_0=>(-1))
@[go_sem] def gW:List SV→Option Con:=(pLS (pFn 170 (pXX .pleasCourt fun k1=>(pX .int fun q1=>(pE ((pFn 171 (pXX .pleasCourt fun k2=>(pX .int fun q2=>(pE ((pFn 173 (pXX .pleasCourt fun k3=>(pX .int fun q3=>(pE ((pE ((pFn 177 (pE ((pE (.det True (.v (.int .i64 (e_ k1 q1 k2 q2 k3 q3))))))))))))))))))))))))))
theorem YA {p:Prop}(h:p:=by simp only[go_sem,Nat.reduceBEq,Nat.reduceLeDiff,Nat.reduceLT,decide_true,Nat.reduceAdd,Nat.reduceSub,Nat.reduceMul,Int.reduceLE,Int.reduceLT,Int.reduceToNat,Int.reduceNeg,reduceCtorEq,gJ];all_goals exact cl):p:=h
theorem mb:FnOk Tryz.prog 210 gW:=by
 have hG:ConsOk Tryz.prog (mkG [(177,gJ)] []):=aq (cgc tw cg0) cg0;refine ax [.o] mixed ak hG (fn:=Tryz.f210) (c:=aa Tryz.f210) kr kr kr kr (J0 (bF (bG fun k1=>(aQ fun q1=>(ai ((bF (bG fun k2=>(aQ fun q2=>(ai ((bF (bG fun k3=>(aQ fun q3=>(ai ((ai ((bF (ai ((ai (fun hp=>?_)))))))))))))))))))))));dsimp only[ar]at hp;refine⟨nbl rfl,(fun id st=>bif Nat.beq id 0 then some (LC (ρ:=Int) (σ:=Unit) (lk 0 st.t=.ls [.fn 170 [] [.ep [.ep (cellsOf .pleasCourt k1) 0] 0,.ep [.v (.int .i64 q1)] 0],.fn 171 [] [.ep [.ep (cellsOf .pleasCourt k2) 0] 0,.ep [.v (.int .i64 q2)] 0],.fn 173 [] [.ep [.ep (cellsOf .pleasCourt k3) 0] 0,.ep [.v (.int .i64 q3)] 0]]∧lk 1 st.t=.fn 177 [] []∧lk 7 st.t=.v (.int .i64 3)∧lk 8 st.t=.v (.int .i64 0)∧st.h=[]) (ay (cS k1 q1 k2 q2 k3 q3) 3 0 ()) (fun _=>.ret) (fun x_0_0=>⟨[(4,.v (.int .i64 x_0_0))],[]⟩) (fun s_0=>⟨[],[]⟩))else none),?_,?_⟩
 ·unfold aa Tryz.f210;simp only[ap,true_and,and_true]
  ·refine La mixed ak hG kr fun st lc hC hp=>?_;simp only[go_sem,Nat.reduceBEq,Option.some.injEq]at hC;subst hC;obtain⟨t,h⟩:=st;dsimp only[LC]at hp;obtain⟨e0_0,e0_1,e0_2,e0_3,rfl⟩:=hp;refine⟨_,_,_,(cS k1 q1 k2 q2 k3 q3),(gl k1 q1 k2 q2 k3 q3),3,(),_,_,_,(fun k_0 s_0=>⟨[(0,.ls [.fn 170 [] [.ep [.ep (cellsOf .pleasCourt k1) 0] 0,.ep [.v (.int .i64 q1)] 0],.fn 171 [] [.ep [.ep (cellsOf .pleasCourt k2) 0] 0,.ep [.v (.int .i64 q2)] 0],.fn 173 [] [.ep [.ep (cellsOf .pleasCourt k3) 0] 0,.ep [.v (.int .i64 q3)] 0]]),(1,.fn 177 [] []),(7,.v (.int .i64 3)),(8,.v (.int .i64 (k_0:Int)))],[]⟩),⟨t,[]⟩,[],rfl,lT _ _ _ fun _ _ _ _=>trivial,NilS.refl _,nbl rfl,?_,fun k_0 s_0 hk0 hp0=>?_⟩
   ·simp only[go_sem,Nat.reduceBEq,Nat.reduceLeDiff,Nat.reduceLT,decide_true,Nat.reduceAdd,Nat.reduceSub,Nat.reduceMul,Int.reduceLE,Int.reduceLT,Int.reduceToNat,Int.reduceNeg,reduceCtorEq,e0_0,e0_1,e0_2,e0_3];all_goals (first|done|decide|(repeat' (first|refine And.intro ?_ ?_|rfl|decide)))
   refine⟨L0,?_,?_⟩
   ·simp only[ap,and_self,true_and,and_true]
   ·have hkk:k_0=0∨k_0=1∨k_0=2∨k_0=3:=by omega
    have hw0_0:i64.wrap ((0:Int)+1)=((0+1:Nat):Int):=by decide
    have hw0_1:i64.wrap ((1:Int)+1)=((1+1:Nat):Int):=by decide
    have hw0_2:i64.wrap ((2:Int)+1)=((2+1:Nat):Int):=by decide
    rcases hkk with rfl|rfl|rfl|rfl;all_goals try (have hq0:=hp0 (by decide))
    all_goals try unfold gl at hq0
    all_goals try simp only[go_sem,Nat.reduceBEq,Nat.reduceEqDiff,cond_true,cond_false,true_imp_iff,false_imp_iff,Bool.false_eq_true,true_and,and_true,reduceCtorEq]at hq0
    all_goals simp only[go_sem,Nat.reduceBEq,Nat.reduceLeDiff,Nat.reduceLT,decide_true,Nat.reduceAdd,Nat.reduceSub,Nat.reduceMul,Int.reduceLE,Int.reduceLT,Int.reduceToNat,Int.reduceNeg,reduceCtorEq,gJ,cS,Int.cast_ofNat_Int,Nat.reduceLT,Nat.reduceEqDiff]
    all_goals exact kX (jl [])
 ·unfold aa Tryz.f210;try unfold e_
  exact YA
def eF (k1:PleasCourt)(q1:Int)(k2:PleasCourt)(q2:Int)(k3:PleasCourt)(q3:Int):Bool:=(decide ((e_ k1 q1 k2 q2 k3 q3)≥0))
@[go_sem] def gm:List SV→Option Con:=(pLS (pFn 170 (pXX .pleasCourt fun k1=>(pX .int fun q1=>(pE ((pFn 171 (pXX .pleasCourt fun k2=>(pX .int fun q2=>(pE ((pFn 173 (pXX .pleasCourt fun k3=>(pX .int fun q3=>(pE ((pE ((pFn 177 (pE ((pE (.det True (.v (.bool (eF k1 q1 k2 q2 k3 q3))))))))))))))))))))))))))
theorem kT:FnOk Tryz.prog 176 gm:=by
 have hG:ConsOk Tryz.prog (mkG [(210,gW)] []):=aq (cgc mb cg0) cg0;refine ax [.o] mixed ak hG (fn:=Tryz.f176) (c:=aa Tryz.f176) kr kr kr kr (J0 (bF (bG fun k1=>(aQ fun q1=>(ai ((bF (bG fun k2=>(aQ fun q2=>(ai ((bF (bG fun k3=>(aQ fun q3=>(ai ((ai ((bF (ai ((ai (fun hp=>?_)))))))))))))))))))))));dsimp only[ar]at hp;refine⟨nbl rfl,L0,ah _,?_⟩
 ·unfold aa Tryz.f176;try unfold eF
  exact zq1
def jG (k_:PleasCourt)(q:Int):Bool:=((!(fZ .int .bool k_.strict q))&&(eF k_ q k_ q k_ q))
@[go_sem] def qa:List SV→Option Con:=(pX .pleasCourt fun k_=>(pI fun q=>(pE (.det True (.v (.bool (jG k_ q)))))))
theorem vC:FnOk Tryz.prog 134 qa:=by
 have hG:ConsOk Tryz.prog (mkG [(176,gm)] []):=aq (cgc kT cg0) cg0;refine ax [.o] mixed ak hG (fn:=Tryz.f134) (c:=aa Tryz.f134) kr kr kr kr (aQ fun k_=>(bt fun q=>(ai (fun hp=>?_))));dsimp only[ar]at hp;refine⟨nbl rfl,L0,ah _,?_⟩
 ·unfold aa Tryz.f134;try unfold jG
  exact zq1
def T8 (k:Option HCon):List Ob→Option HCon
 | [] =>k
 |_=>none
@[go_sem] theorem YB {k:Option HCon}:T8 k []=k:=(rfl)
theorem Of {k:Option HCon}{h:List Ob}{c:HCon}(e:T8 k h=some c):h=[]∧k=some c:=by
 cases h with
 |nil=>exact⟨rfl,e⟩
 |cons=>cases e
@[go_sem] def T9 (p:Plea)(st:List (Int×Bool))(kn:List (Int×Int)):List Ob:=[.cells [.rs .int p.facts,.rs .clause p.clauses,.os 1,.os 2],.mp .int .bool st none,.mp .int .int kn none]
@[go_sem] noncomputable def qy:List SV→List Ob→Option HCon:=fun l h=>T8 (pD .plea (fun p=>pE (jp (iM p) (.ptr 0 0) (T9 p (eX p) []))) l) h
theorem zj:FnOkO Tryz.prog 84 qy:=by
 have hG:ConsOk Tryz.prog (mkG [(118,fun l=>td (a7 [.st .plea] l))] []):=aq (cgc (vQ.norm [.st .plea]) cg0) cg0;refine pi mixed ak hG (fn:=Tryz.f84) (c:=aa Tryz.f84) kr kr kr kr fun l o con h=>?_;unfold qy at h;obtain⟨rfl,h⟩:=Of h;obtain⟨p,r1,rfl,h1⟩:=MU h;obtain⟨rfl,rfl⟩:=B6 h1;clear h h1;refine⟨_,_,_,rfl,fun hp=>?_⟩;refine⟨nbl rfl,L0,ah _,?_⟩;unfold aa Tryz.f84;simp only[go_sem,Nat.reduceBEq,Nat.reduceLeDiff,Nat.reduceLT,decide_true,Nat.reduceAdd,Nat.reduceSub,Nat.reduceMul,Int.reduceLE,Int.reduceLT,Int.reduceToNat,Int.reduceNeg,reduceCtorEq];refine⟨hp,rfl,?_⟩;exact fk (jl [3,1,2])
def jm (x:Reason)(facts:List Int)(clauses:List Clause)(strict_:List (Int×Bool))(known_:List (Int×Int)):List (Int×Int):=(bif x.proved then(lR .int .int (lR .int .int known_ x.literal 2) x.literal 1)else(lR .int .int known_ x.literal 2))
noncomputable def nP:List SV→List Ob→Option HCon:=qp (fun x_:Reason×(List Int)×(List Clause)×(List (Int×Bool))×(List (Int×Int)) =>[.ptr 0 0,.agg (cellsOf .reason x_.1)]) (fun x_=>[.cells [.rs .int x_.2.1,.rs .clause x_.2.2.1,.os 1,.os 2],.mp .int .bool x_.2.2.2.1 none,.mp .int .int x_.2.2.2.2 none]) (fun x_=>jp True (.tup []) [.cells [.rs .int x_.2.1,.rs .clause x_.2.2.1,.os 1,.os 2],.mp .int .bool x_.2.2.2.1 none,.mp .int .int (jm x_.1 x_.2.1 x_.2.2.1 x_.2.2.2.1 x_.2.2.2.2) none])
@[go_sem] theorem Fx (x:Reason)(facts:List Int)(clauses:List Clause)(strict_:List (Int×Bool))(known_:List (Int×Int)){p1_:Option (Nat×Option Tag.int.T)}(hp1_:p1_=none){p2_:Option (Nat×Option Tag.int.T)}(hp2_:p2_=none):nP ([.ptr 0 0,.agg [.v (.int .i64 x.literal),.v (.int .i64 x.clause),.v (.bool x.proved)]]) ([.cells [.rs .int facts,.rs .clause clauses,.os 1,.os 2],.mp .int .bool strict_ p1_,.mp .int .int known_ p2_])=some (jp True (.tup []) [.cells [.rs .int facts,.rs .clause clauses,.os 1,.os 2],.mp .int .bool strict_ none,.mp .int .int (jm x facts clauses strict_ known_) none]):=by
 subst hp1_;subst hp2_;exact nv (A:=fun x_:Reason×(List Int)×(List Clause)×(List (Int×Bool))×(List (Int×Int)) =>[.ptr 0 0,.agg (cellsOf .reason x_.1)]) (H:=fun x_=>[.cells [.rs .int x_.2.1,.rs .clause x_.2.2.1,.os 1,.os 2],.mp .int .bool x_.2.2.2.1 none,.mp .int .int x_.2.2.2.2 none]) (K:=fun x_=>jp True (.tup []) [.cells [.rs .int x_.2.1,.rs .clause x_.2.2.1,.os 1,.os 2],.mp .int .bool x_.2.2.2.1 none,.mp .int .int (jm x_.1 x_.2.1 x_.2.2.1 x_.2.2.2.1 x_.2.2.2.2) none]) (x:=(x,facts,clauses,strict_,known_))
theorem wX:FnOkO Tryz.prog 135 (nP):=by
 have hG:ConsOk Tryz.prog (mkG [] []):=aq cg0 cg0;refine pi mixed ak hG (fn:=Tryz.f135) (c:=aa Tryz.f135) kr kr kr kr fun l o con h=>?_;obtain⟨⟨x,facts,clauses,strict_,known_⟩,rfl,rfl,rfl⟩:=kH h;clear h;try dsimp only
 refine⟨_,_,_,rfl,fun hp=>?_⟩;refine⟨nbl rfl,L0,?_,?_⟩
 ·unfold aa Tryz.f135;simp only[ap,and_self,true_and,and_true]
 ·unfold aa Tryz.f135;try unfold jm
  exact rg (jl [0,1,2])
end Go.Sx
end
section
namespace Go.Sx
open Go.RowKit
section
variable {P:Program}{ts:Tis}{G:Cons}{N:Nat}
theorem IS (hm:P.follows .mixedOrders=true)(hts:ts.ok P)(hG:ConsOk P G){id:Nat}{g:Operand}{ps:Array Tmp}{assign body:Code}{C:St→Option LCon}
  (hpn:ps.toList.Nodup) (hpN:∀ p∈ps.toList,p<N) (hca:cg N assign=true) (hcb:cg N body=true)
  (h:∀ st0 lc,C st0=some lc→lc.pre→∃ st,NilS st0 st∧∃ (f:FuncId) (caps:List SV) (τ ρ σ:Type) (l:List τ) (mk:τ→List SV) (step:τ→σ→ρ⊕σ) (p:τ→σ→Prop) (pre:Prop) (s0:σ) (exE:ρ→Ex) (outE:ρ→St) (outN:σ→St) (T:List (Nat×SV)) (H:σ→List Ob) (Hy:ρ→List Ob) (js:List Nat),
   raw st.t g=.fn f [] caps∧lc=LC pre (nI step l s0) exE outE outN∧okL step p l s0∧st.h.length≤(H s0).length∧Sub js st.h.length ⟨st.t,wx (oF st caps) st.h⟩ ⟨T,H s0⟩∧
   GH P f (fun y=>y::caps.map (ren (Iw (oF st caps)) 3)) (GJ (oF st caps) st.h) (l.map mk)∧
   (∀ x s,p x s→(mk x).length=ps.size∧∃ L,(∀ l,ap P (some l) N L assign)∧(∀ l,ap P (some l) N L body)∧exec ts G L assign ⟨psT ps.toList (mk x)++T,H s⟩ (fun e st1=>e=.normal∧exec ts G L body st1 (rgQ step exE T H Hy st.h.length id x s)))∧
   (∀ s,jo (outN s) st.h.length ⟨T,H s⟩)∧∀ y,jo (outE y) st.h.length ⟨T,Hy y⟩):mn P none N id (.rangeFunc g ps assign body) C:=by
 intro nd F w0 st0 lc hC hpre own a w hr;obtain⟨st,hN,hrest⟩:=h st0 lc hC hpre;obtain⟨own',hr'⟩:=hN.rel hr;refine zJ hm hts hG hpn hpN hca hcb (C:=fun s=>@ite _ (s=st) (Classical.propDecidable _) (some lc) none) (fun s l e _=>?_) nd F w0 st lc (if_pos rfl) hpre own' a w hr';split at e
 ·rename_i e1;subst e1;cases e;exact hrest
 ·cases e
end
end Go.Sx
end
section
namespace Go.Sx
open Go.Proofs
open IntKind (i64)
theorem Og {l0 l1:List Nat}(a0:JL l0)(a1:JL l1){p:Prop}(h:JL l0→JL l1→p:=by intro ja jb;(first|done|(repeat' (first|with_reducible refine And.intro ?_ ?_|((with_reducible show _≠_);first|assumption|omega|(simp_all [dT,dW];done) |grind) |with_reducible intro _)) <;>(first|done|with_reducible exact Empty.elim ‹Empty› |with_reducible assumption|rfl|omega|assumption|decide|exact fk ja|exact fk jb|exact czl|(simp only[*,cond_true,cond_false,Bool.not_true,Bool.not_false,go_sem,Nat.reduceBEq,Nat.reduceLeDiff,Nat.reduceLT,decide_true,Nat.reduceAdd,Nat.reduceSub,Nat.reduceMul,Int.reduceLE,Int.reduceLT,Int.reduceToNat,Int.reduceNeg,reduceCtorEq];(repeat' (first|with_reducible refine And.intro ?_ ?_|((with_reducible show _≠_);first|assumption|omega|(simp_all [dT,dW];done) |grind) |with_reducible intro _)) <;>(first|done|assumption|rfl|omega|decide|exact fk ja|exact fk jb|(simp_all [dT,dW];done))) |(simp_all [okI,dT,dW];done) |(simp_all [dT,dW];(first|done|exact fk2 ja|exact fk2 jb)) |exact fk2 ja|exact fk2 jb|(simp_all only[dT,dW,cond_true,cond_false];(first|done|exact fk ja|exact fk jb|exact fk2 ja|exact fk2 jb|(simp only[go_sem,Nat.reduceBEq,Nat.reduceLeDiff,Nat.reduceLT,decide_true,Nat.reduceAdd,Nat.reduceSub,Nat.reduceMul,Int.reduceLE,Int.reduceLT,Int.reduceToNat,Int.reduceNeg,reduceCtorEq];((repeat' (first|with_reducible refine And.intro ?_ ?_|((with_reducible show _≠_);first|assumption|omega|(simp_all [dT,dW];done) |grind) |with_reducible intro _)) <;>(first|done|rfl|exact fk ja|exact fk jb|exact fk2 ja|exact fk2 jb)))))))):p:=h a0 a1
theorem Hl {l0 l1 l2:List Nat}(a0:JL l0)(a1:JL l1)(a2:JL l2){p:Prop}(h:JL l0→JL l1→JL l2→p:=by intro ja jb jc;(first|done|(repeat' (first|with_reducible refine And.intro ?_ ?_|((with_reducible show _≠_);first|assumption|omega|(simp_all [dT,dW];done) |grind) |with_reducible intro _)) <;>(first|done|with_reducible exact Empty.elim ‹Empty› |with_reducible assumption|rfl|omega|assumption|decide|exact fk ja|exact fk jb|exact fk jc|exact czl|(simp only[*,cond_true,cond_false,Bool.not_true,Bool.not_false,go_sem,Nat.reduceBEq,Nat.reduceLeDiff,Nat.reduceLT,decide_true,Nat.reduceAdd,Nat.reduceSub,Nat.reduceMul,Int.reduceLE,Int.reduceLT,Int.reduceToNat,Int.reduceNeg,reduceCtorEq];(repeat' (first|with_reducible refine And.intro ?_ ?_|((with_reducible show _≠_);first|assumption|omega|(simp_all [dT,dW];done) |grind) |with_reducible intro _)) <;>(first|done|assumption|rfl|omega|decide|exact fk ja|exact fk jb|exact fk jc|(simp_all [dT,dW];done))) |(simp_all [okI,dT,dW];done) |(simp_all [dT,dW];(first|done|exact fk2 ja|exact fk2 jb|exact fk2 jc)) |exact fk2 ja|exact fk2 jb|exact fk2 jc|(simp_all only[dT,dW,cond_true,cond_false];(first|done|exact fk ja|exact fk jb|exact fk jc|exact fk2 ja|exact fk2 jb|exact fk2 jc|(simp only[go_sem,Nat.reduceBEq,Nat.reduceLeDiff,Nat.reduceLT,decide_true,Nat.reduceAdd,Nat.reduceSub,Nat.reduceMul,Int.reduceLE,Int.reduceLT,Int.reduceToNat,Int.reduceNeg,reduceCtorEq];((repeat' (first|with_reducible refine And.intro ?_ ?_|((with_reducible show _≠_);first|assumption|omega|(simp_all [dT,dW];done) |grind) |with_reducible intro _)) <;>(first|done|rfl|exact fk ja|exact fk jb|exact fk jc|exact fk2 ja|exact fk2 jb|exact fk2 jc)))))))):p:=h a0 a1 a2
theorem CV {l0:List Nat}(a0:JL l0){p:Prop}(h:JL l0→p:=by intro ja;(first|done|(repeat' (first|with_reducible refine And.intro ?_ ?_|((with_reducible show _≠_);first|assumption|omega|(simp_all [dT,dW];done) |grind) |with_reducible intro _)) <;>(first|done|with_reducible exact Empty.elim ‹Empty› |with_reducible assumption|rfl|omega|assumption|decide|exact fk ja|exact czl|(simp only[*,cond_true,cond_false,Bool.not_true,Bool.not_false,go_sem,Nat.reduceBEq,Nat.reduceLeDiff,Nat.reduceLT,decide_true,Nat.reduceAdd,Nat.reduceSub,Nat.reduceMul,Int.reduceLE,Int.reduceLT,Int.reduceToNat,Int.reduceNeg,reduceCtorEq];(repeat' (first|with_reducible refine And.intro ?_ ?_|((with_reducible show _≠_);first|assumption|omega|(simp_all [dT,dW];done) |grind) |with_reducible intro _)) <;>(first|done|assumption|rfl|omega|decide|exact fk ja|(simp_all [dT,dW];done))) |(simp_all [okI,dT,dW];done) |(simp_all [dT,dW];(first|done|exact fk2 ja)) |exact fk2 ja|(simp_all only[dT,dW,cond_true,cond_false];(first|done|exact fk ja|exact fk2 ja|(simp only[go_sem,Nat.reduceBEq,Nat.reduceLeDiff,Nat.reduceLT,decide_true,Nat.reduceAdd,Nat.reduceSub,Nat.reduceMul,Int.reduceLE,Int.reduceLT,Int.reduceToNat,Int.reduceNeg,reduceCtorEq];((repeat' (first|with_reducible refine And.intro ?_ ?_|((with_reducible show _≠_);first|assumption|omega|(simp_all [dT,dW];done) |grind) |with_reducible intro _)) <;>(first|done|rfl|exact fk ja|exact fk2 ja)))))))):p:=h a0
theorem Oh {l0 l1:List Nat}(a0:JL l0)(a1:JL l1){p:Prop}(h:JL l0→JL l1→p:=by intro ja jb;simp only[go_sem,Nat.reduceBEq,Nat.reduceLeDiff,Nat.reduceLT,decide_true,Nat.reduceAdd,Nat.reduceSub,Nat.reduceMul,Int.reduceLE,Int.reduceLT,Int.reduceToNat,Int.reduceNeg,reduceCtorEq];all_goals exact Og ja jb):p:=h a0 a1
theorem Oi {l0:List Nat}(a0:JL l0){p:Prop}(h:JL l0→p:=by intro ja;simp only[go_sem,Nat.reduceBEq,Nat.reduceLeDiff,Nat.reduceLT,decide_true,Nat.reduceAdd,Nat.reduceSub,Nat.reduceMul,Int.reduceLE,Int.reduceLT,Int.reduceToNat,Int.reduceNeg,reduceCtorEq,hc,hw];all_goals exact CV ja):p:=h a0
theorem Oj {l0:List Nat}(a0:JL l0){p:Prop}(h:JL l0→p:=by intro ja;simp only[go_sem,Nat.reduceBEq,Nat.reduceLeDiff,Nat.reduceLT,decide_true,Nat.reduceAdd,Nat.reduceSub,Nat.reduceMul,Int.reduceLE,Int.reduceLT,Int.reduceToNat,Int.reduceNeg,reduceCtorEq,hc];all_goals exact CV ja):p:=h a0
@[go_sem] def bj (facts:List Int)(clauses:List Clause)(strict_:List (Int×Bool))(s_0:List (Int×Int)×List Reason)(z_1:Int)(s_1:List Reason):Empty⊕(List Reason):=(bif((fZ .int .int s_0.1 z_1) !=0)then .inr s_1 else(bif(fZ .int .bool strict_ z_1)then .inr (s_1++([({ literal:=z_1,clause:=0,proved:=true}:Reason)]))else(bif(iK ({ plea:=({ facts:=facts,clauses:=clauses}:Plea),strict:=strict_,known:=s_0.1}:PleasCourt) z_1)then .inr (s_1++([({ literal:=z_1,clause:=(kL ({ plea:=({ facts:=facts,clauses:=clauses}:Plea),strict:=strict_,known:=s_0.1}:PleasCourt) z_1),proved:=true}:Reason)]))else(bif(jG ({ plea:=({ facts:=facts,clauses:=clauses}:Plea),strict:=strict_,known:=s_0.1}:PleasCourt) z_1)then .inr (s_1++([({ literal:=z_1,clause:=0,proved:=false}:Reason)]))else .inr s_1))))
def eI (facts:List Int)(clauses:List Clause)(strict_:List (Int×Bool))(s_0:List (Int×Int)×List Reason)(z_1:Int)(s_1:List Reason):Prop:=(((fZ .int .int s_0.1 z_1) !=0)=false→(((fZ .int .bool strict_ z_1)=true→((s_1++([({ literal:=z_1,clause:=0,proved:=true}:Reason)])).length*24≤dC))∧((fZ .int .bool strict_ z_1)=false→(((iK ({ plea:=({ facts:=facts,clauses:=clauses}:Plea),strict:=strict_,known:=s_0.1}:PleasCourt) z_1)=true→((s_1++([({ literal:=z_1,clause:=(kL ({ plea:=({ facts:=facts,clauses:=clauses}:Plea),strict:=strict_,known:=s_0.1}:PleasCourt) z_1),proved:=true}:Reason)])).length*24≤dC))∧((iK ({ plea:=({ facts:=facts,clauses:=clauses}:Plea),strict:=strict_,known:=s_0.1}:PleasCourt) z_1)=false→((jG ({ plea:=({ facts:=facts,clauses:=clauses}:Plea),strict:=strict_,known:=s_0.1}:PleasCourt) z_1)=true→((s_1++([({ literal:=z_1,clause:=0,proved:=false}:Reason)])).length*24≤dC)))))))
@[go_sem] def lG (facts:List Int)(clauses:List Clause)(strict_:List (Int×Bool))(s_1:List Reason)(k_2:Nat)(s_2:List (Int×Int)):Empty⊕(List (Int×Int)):=.inr (jm (s_1.getD k_2 (default:Reason)) facts clauses strict_ s_2)
@[go_sem] def iT (facts:List Int)(clauses:List Clause)(strict_:List (Int×Bool))(k_0:Nat)(s_0:List (Int×Int)×List Reason):(List (Int×Int)×List Reason)⊕(List (Int×Int)×List Reason):=(match nI (bj facts clauses strict_ s_0) aP ([])with| .inl x=>x.elim| .inr s_1=>(bif((s_1.length:Int) ==0)then .inl (s_0.1,s_0.2)else(match ay (lG facts clauses strict_ s_1) s_1.length 0 s_0.1 with| .inl x=>x.elim| .inr s_2=>.inr (s_2,(s_0.2++s_1)))))
def fE (facts:List Int)(clauses:List Clause)(strict_:List (Int×Bool))(k_0:Nat)(s_0:List (Int×Int)×List Reason):Prop:=((eO ((aP).map CU))∧okL (bj facts clauses strict_ s_0) (eI facts clauses strict_ s_0) aP ([])∧(∀ s_1,nI (bj facts clauses strict_ s_0) aP ([])=.inr s_1→(s_1.length≤aJ→(((s_1.length:Int) ==0)=false→(s_1.length≤aJ→(∀ s_2,ay (lG facts clauses strict_ s_1) s_1.length 0 s_0.1=.inr s_2→((s_0.2++s_1).length*24≤dC)))))))
def d4 (facts:List Int)(clauses:List Clause)(strict_:List (Int×Bool))(known_:List (Int×Int)):(List (Int×Int))×(List Reason):=(match ay (iT facts clauses strict_) 130 0 (known_,[])with| .inl x_0_0=>(x_0_0.1,x_0_0.2) | .inr s_0=>default)
def eQ (facts:List Int)(clauses:List Clause)(strict_:List (Int×Bool))(known_:List (Int×Int)):Prop:=(okI (iT facts clauses strict_) (fE facts clauses strict_) 130 0 (known_,[])∧(∀ z_,ay (iT facts clauses strict_) 130 0 (known_,[])≠ .inr z_))
noncomputable def mS:List SV→List Ob→Option HCon:=qp (fun x_:(List Int)×(List Clause)×(List (Int×Bool))×(List (Int×Int)) =>[.ptr 0 0]) (fun x_=>[.cells [.rs .int x_.1,.rs .clause x_.2.1,.os 1,.os 2],.mp .int .bool x_.2.2.1 none,.mp .int .int x_.2.2.2 none]) (fun x_=>jp (eQ x_.1 x_.2.1 x_.2.2.1 x_.2.2.2) (.os 3) [.cells [.rs .int x_.1,.rs .clause x_.2.1,.os 1,.os 2],.mp .int .bool x_.2.2.1 none,.mp .int .int ((d4 x_.1 x_.2.1 x_.2.2.1 x_.2.2.2).1) none,.row .reason ((d4 x_.1 x_.2.1 x_.2.2.1 x_.2.2.2).2)])
@[go_sem] theorem Ei (facts:List Int)(clauses:List Clause)(strict_:List (Int×Bool))(known_:List (Int×Int)){p1_:Option (Nat×Option Tag.int.T)}(hp1_:p1_=none){p2_:Option (Nat×Option Tag.int.T)}(hp2_:p2_=none):mS ([.ptr 0 0]) ([.cells [.rs .int facts,.rs .clause clauses,.os 1,.os 2],.mp .int .bool strict_ p1_,.mp .int .int known_ p2_])=some (jp (eQ facts clauses strict_ known_) (.os 3) [.cells [.rs .int facts,.rs .clause clauses,.os 1,.os 2],.mp .int .bool strict_ none,.mp .int .int ((d4 facts clauses strict_ known_).1) none,.row .reason ((d4 facts clauses strict_ known_).2)]):=by
 subst hp1_;subst hp2_;exact nv (A:=fun x_:(List Int)×(List Clause)×(List (Int×Bool))×(List (Int×Int)) =>[.ptr 0 0]) (H:=fun x_=>[.cells [.rs .int x_.1,.rs .clause x_.2.1,.os 1,.os 2],.mp .int .bool x_.2.2.1 none,.mp .int .int x_.2.2.2 none]) (K:=fun x_=>jp (eQ x_.1 x_.2.1 x_.2.2.1 x_.2.2.2) (.os 3) [.cells [.rs .int x_.1,.rs .clause x_.2.1,.os 1,.os 2],.mp .int .bool x_.2.2.1 none,.mp .int .int ((d4 x_.1 x_.2.1 x_.2.2.1 x_.2.2.2).1) none,.row .reason ((d4 x_.1 x_.2.1 x_.2.2.1 x_.2.2.2).2)]) (x:=(facts,clauses,strict_,known_))
theorem YC {l0 l1 l2:List Nat}(a0:JL l0)(a1:JL l1)(a2:JL l2){p:Prop}(h:JL l0→JL l1→JL l2→p:=by intro ja jb jc;simp only[go_sem,Nat.reduceBEq,Nat.reduceLeDiff,Nat.reduceLT,decide_true,Nat.reduceAdd,Nat.reduceSub,Nat.reduceMul,Int.reduceLE,Int.reduceLT,Int.reduceToNat,Int.reduceNeg,reduceCtorEq,bj,psT,CU,List.cons_append,List.nil_append];all_goals exact Hl ja jb jc):p:=h a0 a1 a2
theorem RZ {l0 l1 l2:List Nat}(a0:JL l0)(a1:JL l1)(a2:JL l2){p:Prop}(h:JL l0→JL l1→JL l2→p:=by intro ja jb jc;simp only[go_sem,Nat.reduceBEq,Nat.reduceLeDiff,Nat.reduceLT,decide_true,Nat.reduceAdd,Nat.reduceSub,Nat.reduceMul,Int.reduceLE,Int.reduceLT,Int.reduceToNat,Int.reduceNeg,reduceCtorEq];all_goals exact Hl ja jb jc):p:=h a0 a1 a2
theorem YD {l0:List Nat}(a0:JL l0){p:Prop}(h:JL l0→p:=by intro ja;simp only[go_sem,Nat.reduceBEq,Nat.reduceLeDiff,Nat.reduceLT,decide_true,Nat.reduceAdd,Nat.reduceSub,Nat.reduceMul,Int.reduceLE,Int.reduceLT,Int.reduceToNat,Int.reduceNeg,reduceCtorEq];all_goals exact CV ja):p:=h a0
theorem v6:FnOkO Tryz.prog 85 (mS):=by
 have hG:ConsOk Tryz.prog (mkG [(119,fun l=>qx (a7 [] l)),(132,rI),(133,rE),(134,qa)] [(135,nP)]):=aq (cgc (tT.norm []) (cgc vZ (cgc vW (cgc vC cg0)))) (cgc wX cg0);refine pi mixed ak hG (fn:=Tryz.f85) (c:=aa Tryz.f85) kr kr kr kr fun l o con h=>?_;obtain⟨⟨facts,clauses,strict_,known_⟩,rfl,rfl,rfl⟩:=kH h;clear h;try dsimp only
 refine⟨_,_,_,rfl,fun hp=>?_⟩;unfold eQ at hp;refine⟨nbl rfl,(fun id st=>bif Nat.beq id 0 then some (LCV (ρ:=(List (Int×Int)×List Reason)) (σ:=(List (Int×Int)×List Reason)) 4 [.slot 2 (.row .reason ([]))] [0,1,2,3,4] (fun k_0 s_0=>⟨[(1,.ptr 3 0),(2,.os 4)],[.cells [.rs .int facts,.rs .clause clauses,.os 1,.os 2],.mp .int .bool strict_ none,.mp .int .int s_0.1 none,.cells [.ptr 0 0],.row .reason s_0.2]⟩) (iT facts clauses strict_) (fE facts clauses strict_) 130 (known_,[]) (fun _=>.ret) (fun x_0_0=>⟨[(2,.os 4)],[.cells [.rs .int facts,.rs .clause clauses,.os 1,.os 2],.mp .int .bool strict_ none,.mp .int .int x_0_0.1 none,.dead,.row .reason x_0_0.2]⟩) st)else none),?_,?_⟩
 ·unfold aa Tryz.f85;simp only[ap,true_and,and_true,and_assoc]
  ·refine mq mixed ak hG kr (fun _=>rfl) fun k_0 s_0 hq0=>⟨(fun id st=>bif Nat.beq id 2 then some (LC (ρ:=Empty) (σ:=List Reason) (lk 1 st.t=.ptr 3 0∧lk 2 st.t=.os 4∧lk 3 st.t=.ptr 5 0∧lk 7 st.t=.fn 159 [] []∧st.h=[.cells [.rs .int facts,.rs .clause clauses,.os 1,.os 2],.mp .int .bool strict_ none,.mp .int .int s_0.1 none,.cells [.ptr 0 0],.row .reason s_0.2,.cells [.v (.slice none 0 0)]]∧eO ((aP).map CU)∧okL (bj facts clauses strict_ s_0) (eI facts clauses strict_ s_0) aP ([])) (nI (bj facts clauses strict_ s_0) aP ([])) (fun x=>x.elim) (fun x=>x.elim) (fun s_1=>⟨[(1,.ptr 3 0),(2,.os 4),(3,.ptr 5 0)],[.cells [.rs .int facts,.rs .clause clauses,.os 1,.os 2],.mp .int .bool strict_ none,.mp .int .int s_0.1 none,.cells [.ptr 0 0],.row .reason s_0.2,.cells [.os 7],.dead,.row .reason s_1]⟩))else bif Nat.beq id 5 then some (LCR (ρ:=Empty) (σ:=(List (Int×Int))) 8 [] [0,1,2,3,4,5,6,7] (fun k_2 s_2=>⟨[(1,.ptr 3 0),(2,.os 4),(3,.ptr 5 0),(54,.os 7),(55,.v (.int .i64 ((dT (nI (bj facts clauses strict_ s_0) aP ([]))).length:Int))),(56,.v (.int .i64 (k_2:Int)))],[.cells [.rs .int facts,.rs .clause clauses,.os 1,.os 2],.mp .int .bool strict_ none,.mp .int .int s_2 none,.cells [.ptr 0 0],.row .reason s_0.2,.cells [.os 7],.dead,.row .reason (dT (nI (bj facts clauses strict_ s_0) aP ([])))]⟩) (lG facts clauses strict_ (dT (nI (bj facts clauses strict_ s_0) aP ([])))) pT ((dT (nI (bj facts clauses strict_ s_0) aP ([]))).length) s_0.1 ((dT (nI (bj facts clauses strict_ s_0) aP ([]))).length≤aJ) ((·.elim)) ((·.elim)) st)else none),?_,?_⟩
   ·simp only[ap,true_and,and_true];refine⟨?_,?_⟩
    ·refine IS mixed ak hG (by decide) (by decide) kr kr fun st lc hC hp=>?_;simp only[go_sem,Nat.reduceBEq,Option.some.injEq]at hC;subst hC;obtain⟨t,h⟩:=st;dsimp only[LC]at hp;obtain⟨e1_0,e1_1,e1_2,e1_3,rfl,hb1,hok1⟩:=hp;refine⟨⟨t,[.cells [.rs .int facts,.rs .clause clauses,.os 1,.os 2],.mp .int .bool strict_ none,.mp .int .int s_0.1 none,.cells [.ptr 0 0],.row .reason s_0.2,.cells [.os 6],.row .reason ([])]⟩,NilS.cell (h:=[.cells [.rs .int facts,.rs .clause clauses,.os 1,.os 2],.mp .int .bool strict_ none,.mp .int .int s_0.1 none,.cells [.ptr 0 0],.row .reason s_0.2,.cells [.v (.slice none 0 0)]]) (i:=5) (j:=0) (.row .reason ([])) (NilS.refl _) rfl rfl (.inl ⟨_,rfl⟩),159,[],Int,_,_,aP,CU,(bj facts clauses strict_ s_0),(eI facts clauses strict_ s_0),_,([]),_,_,_,[(1,.ptr 3 0),(2,.os 4),(3,.ptr 5 0)],(fun s_1=>[.cells [.rs .int facts,.rs .clause clauses,.os 1,.os 2],.mp .int .bool strict_ none,.mp .int .int s_0.1 none,.cells [.ptr 0 0],.row .reason s_0.2,.cells [.os 7],.dead,.row .reason s_1]),(fun x=>x.elim),[0,1,2,3,4,5,6,6],?_,rfl,hok1,nbl rfl,?_,sh _ hb1,fun z_1 s_1 hq1=>⟨rfl,L0,fun l=>?_,fun l=>?_,?_⟩,fun s_1=>?_,fun y=>?_⟩
     ·simp only[go_sem,e1_0,e1_1,e1_2,e1_3]
     ·simp only[go_sem,Nat.reduceBEq,Nat.reduceLeDiff,Nat.reduceLT,decide_true,Nat.reduceAdd,Nat.reduceSub,Nat.reduceMul,Int.reduceLE,Int.reduceLT,Int.reduceToNat,Int.reduceNeg,reduceCtorEq,wx,oF,List.flatMap_cons,List.flatMap_nil,List.nil_append,List.append_nil,List.map_nil,e1_0,e1_1,e1_2,e1_3];all_goals (first|done|decide|(repeat' (first|refine And.intro ?_ ?_|rfl|decide)))
     ·simp only[ap,and_self,true_and,and_true]
     ·simp only[ap,and_self,true_and,and_true]
     ·unfold eI at hq1;exact YC (jl [0,1,2,3,4,5,6,7]) (jl [0,1,2,3,4,5,6,9]) (jl [0,1,2,3,4,5,6,8])
     ·exact RZ (jl [0,1,2,3,4,5,6,7]) (jl [0,1,2,3,4,5,6,9]) (jl [0,1,2,3,4,5,6,8])
     ·exact RZ (jl [0,1,2,3,4,5,6,7]) (jl [0,1,2,3,4,5,6,9]) (jl [0,1,2,3,4,5,6,8])
    ·refine bf mixed ak hG kr (fun _=>rfl) ((dT (nI (bj facts clauses strict_ s_0) aP ([]))).length:Int) rfl fD (fun hb2 k_2 s_2 hlt2 _ hw hc=>⟨L0,ah _,?_⟩) (fun hb2 s_2 hc=>?_)
     ·exact Oi (jl [0,1,2,3,4,5,6,7])
     ·exact Oj (jl [0,1,2,3,4,5,6,7])
   ·unfold fE at hq0;exact Oh (jl [0,1,2,3,8]) (jl [0,1,2,3,4])
 ·unfold aa Tryz.f85;try unfold d4
  exact YD (jl [0,1,2,4])
def ba (p:Plea)(q:Int):Int×Int:=(bif((gV p) !=0)then(0,(gV p))else(bif(!(iv q))then(0,1)else(bif((fZ .int .int ((d4 p.facts p.clauses (eX p) ([])).1) q) ==0)then(3,0)else((fZ .int .int ((d4 p.facts p.clauses (eX p) ([])).1) q),0))))
def kc (p:Plea)(q:Int):Prop:=((jw p)∧(((gV p) !=0)=false→((!(iv q))=false→((iM p)∧(eQ p.facts p.clauses (eX p) ([]))))))
@[go_sem] def tl:List SV→Option Con:=(pD .plea fun p=>(pI fun q=>(pE (.det (kc p q) (.tup [.v (.int .i64 ((ba p q).1)),.v (.int .i64 ((ba p q).2))])))))
theorem vR:FnOk Tryz.prog 35 tl:=by
 have hG:ConsOk Tryz.prog (mkG [(67,fun l=>qP (a7 [.st .plea] l)),(83,oz)] [(84,qy),(85,mS)]):=aq (cgc (tf.norm [.st .plea]) (cgc qv cg0)) (cgc zj (cgc v6 cg0));refine ax [.o,.o] mixed ak hG (fn:=Tryz.f35) (c:=aa Tryz.f35) kr kr kr kr (aM fun p=>(bt fun q=>(ai (fun hp=>?_))));dsimp only[ar]at hp;unfold kc at hp;refine⟨nbl rfl,L0,ah _,?_⟩
 ·unfold aa Tryz.f35;try unfold ba
  exact zq1
@[go_sem] def nQ (a0:Cases)(a1:Suit)(k_0:Nat)(s_0:List Int):Empty⊕(List Int):=(bif((a0.sides.getD (Int.toNat (a1.facts.getD k_0 (0:Int))) (0:Int)) ==1)then .inr (s_0++([(a1.facts.getD k_0 (0:Int))]))else .inr s_0)
def lH (a0:Cases)(a1:Suit)(k_0:Nat)(s_0:List Int):Prop:=((0≤(a1.facts.getD k_0 (0:Int))∧(a1.facts.getD k_0 (0:Int)) < (a0.sides.length:Int))∧(((a0.sides.getD (Int.toNat (a1.facts.getD k_0 (0:Int))) (0:Int)) ==1)=true→((s_0++([(a1.facts.getD k_0 (0:Int))])).length*8≤dC)))
@[go_sem] def nR (a0:Cases)(a1:Suit)(k_1:Nat)(s_1:List Int):Empty⊕(List Int):=(bif((a0.sides.getD (Int.toNat (a1.facts.getD k_1 (0:Int))) (0:Int)) ==0)then .inr (s_1++([(a1.facts.getD k_1 (0:Int))]))else .inr s_1)
def lI (a0:Cases)(a1:Suit)(k_1:Nat)(s_1:List Int):Prop:=((0≤(a1.facts.getD k_1 (0:Int))∧(a1.facts.getD k_1 (0:Int)) < (a0.sides.length:Int))∧(((a0.sides.getD (Int.toNat (a1.facts.getD k_1 (0:Int))) (0:Int)) ==0)=true→((s_1++([(a1.facts.getD k_1 (0:Int))])).length*8≤dC)))
@[go_sem] def nS (a0:Cases)(a1:Suit)(k_2:Nat)(s_2:List Int):Empty⊕(List Int):=(bif((a0.sides.getD (Int.toNat (a1.facts.getD k_2 (0:Int))) (0:Int)) ==1)then .inr (s_2++([(a1.facts.getD k_2 (0:Int))]))else .inr s_2)
def lJ (a0:Cases)(a1:Suit)(k_2:Nat)(s_2:List Int):Prop:=((0≤(a1.facts.getD k_2 (0:Int))∧(a1.facts.getD k_2 (0:Int)) < (a0.sides.length:Int))∧(((a0.sides.getD (Int.toNat (a1.facts.getD k_2 (0:Int))) (0:Int)) ==1)=true→((s_2++([(a1.facts.getD k_2 (0:Int))])).length*8≤dC)))
@[go_sem] def nT (a0:Cases)(a1:Suit)(k_3:Nat)(s_3:List Int):Empty⊕(List Int):=(bif((a0.sides.getD (Int.toNat (a1.facts.getD k_3 (0:Int))) (0:Int)) ==0)then .inr (s_3++([(a1.facts.getD k_3 (0:Int))]))else .inr s_3)
def lK (a0:Cases)(a1:Suit)(k_3:Nat)(s_3:List Int):Prop:=((0≤(a1.facts.getD k_3 (0:Int))∧(a1.facts.getD k_3 (0:Int)) < (a0.sides.length:Int))∧(((a0.sides.getD (Int.toNat (a1.facts.getD k_3 (0:Int))) (0:Int)) ==0)=true→((s_3++([(a1.facts.getD k_3 (0:Int))])).length*8≤dC)))
def iy (a0:Cases)(a1:Suit):Case×Int:=(bif((dB a0) !=0)then(({ no:=0,hour:=0,winner:=0,facts:=[],reason:=[]}:Case),(dB a0))else(bif((gV a1.plea) !=0)then(({ no:=0,hour:=0,winner:=0,facts:=[],reason:=[]}:Case),(gV a1.plea))else(bif(aw ((ba a1.plea a1.question).2==0) ((ba a1.plea a1.question).2))then(bif(aw ((am a0 a1.facts 0).2.2==0) ((am a0 a1.facts 0).2.2))then(bif(aw ((aI a1.no 0 1048576)&&(aI a1.hour 0 4096)) 520)then(bif(decide ((a0.cases.length:Int) > 0))then(bif(aw ((decide (a1.no > (a0.cases.getD (Int.toNat (i64.wrap ((a0.cases.length:Int) - 1))) (default:Case)).no))&&(decide (a1.hour≥(a0.cases.getD (Int.toNat (i64.wrap ((a0.cases.length:Int) - 1))) (default:Case)).hour))) 520)then(bif((!(am a0 a1.facts 0).2.1)&&((am a0 a1.facts 1).2.1||((ba a1.plea a1.question).1 !=1)))then(match ay (nQ a0 a1) a1.facts.length 0 ([])with| .inl x=>x.elim| .inr s_0=>(({ no:=a1.no,hour:=a1.hour,winner:=1,facts:=a1.facts,reason:=s_0}:Case),0))else(match ay (nR a0 a1) a1.facts.length 0 ([])with| .inl x=>x.elim| .inr s_1=>(({ no:=a1.no,hour:=a1.hour,winner:=0,facts:=a1.facts,reason:=s_1}:Case),0)))else(({ no:=0,hour:=0,winner:=0,facts:=[],reason:=[]}:Case),520))else(bif((!(am a0 a1.facts 0).2.1)&&((am a0 a1.facts 1).2.1||((ba a1.plea a1.question).1 !=1)))then(match ay (nS a0 a1) a1.facts.length 0 ([])with| .inl x=>x.elim| .inr s_2=>(({ no:=a1.no,hour:=a1.hour,winner:=1,facts:=a1.facts,reason:=s_2}:Case),0))else(match ay (nT a0 a1) a1.facts.length 0 ([])with| .inl x=>x.elim| .inr s_3=>(({ no:=a1.no,hour:=a1.hour,winner:=0,facts:=a1.facts,reason:=s_3}:Case),0))))else(({ no:=0,hour:=0,winner:=0,facts:=[],reason:=[]}:Case),520))else(({ no:=0,hour:=0,winner:=0,facts:=[],reason:=[]}:Case),((am a0 a1.facts 0).2.2)))else(({ no:=0,hour:=0,winner:=0,facts:=[],reason:=[]}:Case),((ba a1.plea a1.question).2)))))
def tn (a0:Cases)(a1:Suit):Prop:=((fC a0)∧(((dB a0) !=0)=false→((jw a1.plea)∧(((gV a1.plea) !=0)=false→((kc a1.plea a1.question)∧((aw ((ba a1.plea a1.question).2==0) ((ba a1.plea a1.question).2))=true→((eN a0 a1.facts 0)∧((aw ((am a0 a1.facts 0).2.2==0) ((am a0 a1.facts 0).2.2))=true→((eN a0 a1.facts 1)∧((aw ((aI a1.no 0 1048576)&&(aI a1.hour 0 4096)) 520)=true→(a0.cases.length≤aJ→(((decide ((a0.cases.length:Int) > 0))=true→((0≤(i64.wrap ((a0.cases.length:Int) - 1))∧(i64.wrap ((a0.cases.length:Int) - 1)) < (a0.cases.length:Int))∧(((decide (a1.no > (a0.cases.getD (Int.toNat (i64.wrap ((a0.cases.length:Int) - 1))) (default:Case)).no))=true→(0≤(i64.wrap ((a0.cases.length:Int) - 1))∧(i64.wrap ((a0.cases.length:Int) - 1)) < (a0.cases.length:Int)))∧((aw ((decide (a1.no > (a0.cases.getD (Int.toNat (i64.wrap ((a0.cases.length:Int) - 1))) (default:Case)).no))&&(decide (a1.hour≥(a0.cases.getD (Int.toNat (i64.wrap ((a0.cases.length:Int) - 1))) (default:Case)).hour))) 520)=true→((((!(am a0 a1.facts 0).2.1)&&((am a0 a1.facts 1).2.1||((ba a1.plea a1.question).1 !=1)))=true→(a1.facts.length≤aJ→okI (nQ a0 a1) (lH a0 a1) a1.facts.length 0 ([])))∧(((!(am a0 a1.facts 0).2.1)&&((am a0 a1.facts 1).2.1||((ba a1.plea a1.question).1 !=1)))=false→(a1.facts.length≤aJ→okI (nR a0 a1) (lI a0 a1) a1.facts.length 0 ([]))))))))∧((decide ((a0.cases.length:Int) > 0))=false→((((!(am a0 a1.facts 0).2.1)&&((am a0 a1.facts 1).2.1||((ba a1.plea a1.question).1 !=1)))=true→(a1.facts.length≤aJ→okI (nS a0 a1) (lJ a0 a1) a1.facts.length 0 ([])))∧(((!(am a0 a1.facts 0).2.1)&&((am a0 a1.facts 1).2.1||((ba a1.plea a1.question).1 !=1)))=false→(a1.facts.length≤aJ→okI (nT a0 a1) (lK a0 a1) a1.facts.length 0 ([])))))))))))))))))
@[go_sem] def tp:List SV→Option Con:=(pD .cases fun a0=>(pD .suit fun a1=>(pE (.det (tn a0 a1) (.tup [.agg (cellsOf .case ((iy a0 a1).1)),.v (.int .i64 ((iy a0 a1).2))])))))
theorem Kg {p:Prop}(h:p:=by simp only[go_sem,Nat.reduceBEq,Nat.reduceLeDiff,Nat.reduceLT,decide_true,Nat.reduceAdd,Nat.reduceSub,Nat.reduceMul,Int.reduceLE,Int.reduceLT,Int.reduceToNat,Int.reduceNeg,reduceCtorEq,hs0,hs1,qf,oG,RCJ];all_goals exact cl):p:=h
theorem xm:FnOk Tryz.prog 24 tp:=by
 have hG:ConsOk Tryz.prog (mkG [(34,fun l=>oN (a7 [.st .cases,.sl .int,.o] l)),(35,fun l=>tl (a7 [.st .plea,.o] l)),(52,f7),(58,jO),(64,fun l=>kI (a7 [.st .cases] l)),(67,fun l=>qP (a7 [.st .plea] l))] []):=aq (cgc (sf.norm [.st .cases,.sl .int,.o]) (cgc (vR.norm [.st .plea,.o]) (cgc g9 (cgc lW (cgc (nO.norm [.st .cases]) (cgc (tf.norm [.st .plea]) cg0)))))) cg0;refine JV E8 [.st .case,.o] mixed ak hG (fn:=Tryz.f24) (c0:=qf (aa Tryz.f24)) (c1:=oG (oG (aa Tryz.f24))) (i1:=PI (qf (oG (aa Tryz.f24)))) (o1:=M0 0 (qf (oG (aa Tryz.f24)))) (q:=5) (tys:= #[104]) kr kr kr (by refine⟨?_,?_,?_⟩ <;>kernel_rfl) kr kr (aM fun a0=>(aM fun a1=>(ai (fun hp=>?_))));dsimp only[ar]at hp;unfold tn at hp;rcases Bool.eq_false_or_eq_true (decide ((a0.cases.length:Int) > 0))with hs0|hs0 <;>rcases Bool.eq_false_or_eq_true ((!(am a0 a1.facts 0).2.1)&&((am a0 a1.facts 1).2.1||((ba a1.plea a1.question).1 !=1)))with hs1|hs1
 ·have hsp:True:=trivial;refine⟨nbl rfl,L0,(fun id st=>bif Nat.beq id 0 then some (LCR (ρ:=Empty) (σ:=(List Int)) 4 [.cell 2 4 (.row .int ([]))] [0,1,2,3,4] (fun k_0 s_0=>⟨[(2,.ptr 0 0),(4,.ptr 2 0),(5,.ptr 3 0),(115,.rs .int a1.facts),(116,.v (.int .i64 (a1.facts.length:Int))),(117,.v (.int .i64 (k_0:Int)))],[.cells (cellsOf .cases a0),.dead,.cells [.v (.int .i64 a1.no),.v (.int .i64 a1.hour),.v (.int .i64 1),.rs .int a1.facts,.os 4],.cells [.v (.int .i64 ((am a0 a1.facts 0).2.2))],.row .int s_0]⟩) (nQ a0 a1) (lH a0 a1) a1.facts.length ([]) (a1.facts.length≤aJ) ((·.elim)) ((·.elim)) st)else none),3,?_,?_,?_⟩
  ·unfold aa Tryz.f24;simp only[qf,ap,and_self,true_and,and_true]
  ·unfold aa Tryz.f24;simp only[oG];simp only[ap,true_and,and_true]
   ·refine bf mixed ak hG kr (fun _=>rfl) (a1.facts.length:Int) rfl fD (fun hb0 k_0 s_0 hlt0 hq0 hw hc=>⟨L0,ah _,?_⟩) (fun hb0 s_0 hc=>?_)
    ·unfold lH at hq0;try simp only[hw,Int.toNat_natCast]at hq0
     exact kZ (jl [0,1,2,3,6]) (jl [0,1,2,3,4])
    ·exact jN (jl [0,1,2,3,6]) (jl [0,1,2,3,4])
  ·unfold aa Tryz.f24;try unfold iy
   exact Kg
 ·have hsp:True:=trivial;refine⟨nbl rfl,L0,(fun id st=>bif Nat.beq id 0 then some (LCR (ρ:=Empty) (σ:=(List Int)) 4 [.cell 2 4 (.row .int ([]))] [0,1,2,3,4] (fun k_1 s_1=>⟨[(2,.ptr 0 0),(4,.ptr 2 0),(5,.ptr 3 0),(115,.rs .int a1.facts),(116,.v (.int .i64 (a1.facts.length:Int))),(117,.v (.int .i64 (k_1:Int)))],[.cells (cellsOf .cases a0),.dead,.cells [.v (.int .i64 a1.no),.v (.int .i64 a1.hour),.v (.int .i64 0),.rs .int a1.facts,.os 4],.cells [.v (.int .i64 ((am a0 a1.facts 0).2.2))],.row .int s_1]⟩) (nR a0 a1) (lI a0 a1) a1.facts.length ([]) (a1.facts.length≤aJ) ((·.elim)) ((·.elim)) st)else none),3,?_,?_,?_⟩
  ·unfold aa Tryz.f24;simp only[qf,ap,and_self,true_and,and_true]
  ·unfold aa Tryz.f24;simp only[oG];simp only[ap,true_and,and_true]
   ·refine bf mixed ak hG kr (fun _=>rfl) (a1.facts.length:Int) rfl fD (fun hb1 k_1 s_1 hlt1 hq1 hw hc=>⟨L0,ah _,?_⟩) (fun hb1 s_1 hc=>?_)
    ·unfold lI at hq1;try simp only[hw,Int.toNat_natCast]at hq1
     exact kZ (jl [0,1,2,3,6]) (jl [0,1,2,3,4])
    ·exact jN (jl [0,1,2,3,6]) (jl [0,1,2,3,4])
  ·unfold aa Tryz.f24;try unfold iy
   exact Kg
 ·have hsp:True:=trivial;refine⟨nbl rfl,L0,(fun id st=>bif Nat.beq id 0 then some (LCR (ρ:=Empty) (σ:=(List Int)) 4 [.cell 2 4 (.row .int ([]))] [0,1,2,3,4] (fun k_2 s_2=>⟨[(2,.ptr 0 0),(4,.ptr 2 0),(5,.ptr 3 0),(115,.rs .int a1.facts),(116,.v (.int .i64 (a1.facts.length:Int))),(117,.v (.int .i64 (k_2:Int)))],[.cells (cellsOf .cases a0),.dead,.cells [.v (.int .i64 a1.no),.v (.int .i64 a1.hour),.v (.int .i64 1),.rs .int a1.facts,.os 4],.cells [.v (.int .i64 ((am a0 a1.facts 0).2.2))],.row .int s_2]⟩) (nS a0 a1) (lJ a0 a1) a1.facts.length ([]) (a1.facts.length≤aJ) ((·.elim)) ((·.elim)) st)else none),3,?_,?_,?_⟩
  ·unfold aa Tryz.f24;simp only[qf,ap,and_self,true_and,and_true]
  ·unfold aa Tryz.f24;simp only[oG];simp only[ap,true_and,and_true]
   ·refine bf mixed ak hG kr (fun _=>rfl) (a1.facts.length:Int) rfl fD (fun hb2 k_2 s_2 hlt2 hq2 hw hc=>⟨L0,ah _,?_⟩) (fun hb2 s_2 hc=>?_)
    ·unfold lJ at hq2;try simp only[hw,Int.toNat_natCast]at hq2
     exact kZ (jl [0,1,2,3,6]) (jl [0,1,2,3,4])
    ·exact jN (jl [0,1,2,3,6]) (jl [0,1,2,3,4])
  ·unfold aa Tryz.f24;try unfold iy
   exact Kg
 ·have hsp:True:=trivial;refine⟨nbl rfl,L0,(fun id st=>bif Nat.beq id 0 then some (LCR (ρ:=Empty) (σ:=(List Int)) 4 [.cell 2 4 (.row .int ([]))] [0,1,2,3,4] (fun k_3 s_3=>⟨[(2,.ptr 0 0),(4,.ptr 2 0),(5,.ptr 3 0),(115,.rs .int a1.facts),(116,.v (.int .i64 (a1.facts.length:Int))),(117,.v (.int .i64 (k_3:Int)))],[.cells (cellsOf .cases a0),.dead,.cells [.v (.int .i64 a1.no),.v (.int .i64 a1.hour),.v (.int .i64 0),.rs .int a1.facts,.os 4],.cells [.v (.int .i64 ((am a0 a1.facts 0).2.2))],.row .int s_3]⟩) (nT a0 a1) (lK a0 a1) a1.facts.length ([]) (a1.facts.length≤aJ) ((·.elim)) ((·.elim)) st)else none),3,?_,?_,?_⟩
  ·unfold aa Tryz.f24;simp only[qf,ap,and_self,true_and,and_true]
  ·unfold aa Tryz.f24;simp only[oG];simp only[ap,true_and,and_true]
   ·refine bf mixed ak hG kr (fun _=>rfl) (a1.facts.length:Int) rfl fD (fun hb3 k_3 s_3 hlt3 hq3 hw hc=>⟨L0,ah _,?_⟩) (fun hb3 s_3 hc=>?_)
    ·unfold lK at hq3;try simp only[hw,Int.toNat_natCast]at hq3
     exact kZ (jl [0,1,2,3,6]) (jl [0,1,2,3,4])
    ·exact jN (jl [0,1,2,3,6]) (jl [0,1,2,3,4])
  ·unfold aa Tryz.f24;try unfold iy
   exact Kg
end Go.Sx
end
section
namespace Go.Sx
def pCN {α:Type 1}(k:List Int→List SV→Option α):List SV→Option α
 | .agg [.rs .int s,.v (.slice none 0 0)]::r=>k s r
 |_=>none
@[go_sem] theorem abh {α:Type 1}{k:List Int→List SV→Option α}{s:List Tag.int.T}{r:List SV}:pCN k (.agg [.rs .int s,.v (.slice none 0 0)]::r)=k s r:=(rfl)
theorem QV {α:Type 1}{G:List SV→α→Prop}{k:List Int→List SV→Option α}(h:∀ s l c,k s l=some c→G (.agg [.rs .int s,.v (.slice none 0 0)]::l) c):∀ l c,pCN k l=some c→G l c:=by
 intro l c hc;unfold pCN at hc;split at hc
 ·exact h _ _ _ hc
 ·cases hc
end Go.Sx
end
section
namespace Go.Sx
open Go.RowKit
def IT (n0 id:Nat):Ob→SV
 | .row k l=>bif Nat.ble n0 id then .rs k l else .any
 |_=>.any
def isV:SV→Bool
 | .v _=>true
 |_=>false
def wY (n0:Nat)(h:List Ob):SV→SV
 | .v x=>.v x
 | .rs k l=>.rs k l
 | .agg l=>bif l.all isV then .agg l else .any
 | .os id=>IT n0 id (an h id)
 |_=>.any
def Fy (n0:Nat)(h:List Ob):SV→SV
 | .tup l=>.tup (l.map (wY n0 h))
 |s=>wY n0 h s
def Dk (n0:Nat)(own:Own):Own:=fun i=>if i<n0 then own i else none
section
variable {F:Nat→Prop}{own:Own}{w:World}{n0:Nat}{h:List Ob}
theorem zk {b:Nat}(hb:¬bS F own b):¬bS F (Dk n0 own) b:=by
 rintro (hf| ⟨id,hd,e,hm⟩)
 ·exact hb (.inl hf)
 ·unfold Dk at e;split at e
  ·exact hb (.inr ⟨id,hd,e,hm⟩)
  ·cases e
theorem Hm (hp:Hp F own w h):∀ (s:SV) (v:Value),Rel F own w s v→Rel F (Dk n0 own) w (wY n0 h s) v:=by
 intro s v hr;cases s with
 |v x=>exact hr.over (.v x) fun b hb=>zk hb
 |rs k l=>exact hr.over .rs fun b hb=>zk hb
 |agg l=>
  simp only[wY];cases ha:l.all isV with
  |false=>exact .any _
  |true=>
   refine hr.over (.agg fun j s hj=>?_) fun b hb=>zk hb;have:=List.all_eq_true.1 ha s (List.mem_of_getElem? hj);cases s <;>first|exact .v _|cases this
 |os id=>
  obtain⟨hd,h1,rfl,h2⟩:=iB hr;simp only[wY];cases ho:an h id with
  |row k l=>
   simp only[IT];cases hn:Nat.ble n0 id with
   |false=>exact .any _
   |true=>
    have hn':=nbl hn;obtain⟨hd',e0,e⟩:=hp.at ho rfl;rw[h1]at e0;cases e0;have hnb:∀ b∈hd.bs,¬bS F (Dk n0 own) b:=by
     rintro b hb (hf| ⟨i,hi,e1,e2⟩)
     ·exact hp.apart id hd b h1 hb hf
     ·unfold Dk at e1;split at e1
      ·rename_i hlt;have:=hp.inj id i hd hi b h1 e1 hb e2;omega
      ·cases e1
    rcases e with⟨a,e1,rfl,_⟩ | ⟨b,o,cap,cs,ty,e1,e2,h3,h4,h5,h6,h7⟩
    ·rw[e1];exact .rs0
    ·rw[e1];refine .rs (fun i j=>cs.getD (o+i*ae k+j) undef) h5 h6 (fun i x hi j s hj=>?_) (fun i x hi j s hj=>?_)
     ·obtain⟨u,k1,k2⟩:=h7 i x hi j s hj;refine⟨hnb b (by simp[e2]),?_⟩;rw[dV h3,k1];simp[Array.getD_eq_getD_getElem?,k1]
     ·obtain⟨u,k1,k2⟩:=h7 i x hi j s hj;have:cs.getD (o+i*ae k+j) undef=u:=by simp[Array.getD_eq_getD_getElem?,k1]
      rw[this];exact k2.over (q_ hj) fun b hb=>zk hb
  |_=>exact .any _
 |_=>exact .any _
theorem Kh (s:SV):PF (wY n0 h s):=by
 cases s with
 |agg l=>
  simp only[wY];cases ha:l.all isV with
  |false=>exact .any
  |true=>
   refine .agg fun j s hj=>?_;have:=List.all_eq_true.1 ha s (List.mem_of_getElem? hj);cases s <;>first|exact .v _|cases this
 |os id=>
  simp only[wY];cases an h id with
  |row k l=>simp only[IT];cases Nat.ble n0 id <;>first|exact .any|exact .rs
  |_=>exact .any
 |v x=>exact .v x
 |rs k l=>exact .rs
 |_=>exact .any
@[go_sem] theorem YE {l:List SV}:Fy n0 h (.tup l)=.tup (l.map (wY n0 h)):=(rfl)
@[go_sem] theorem aak {id:Nat}:Fy n0 h (.os id)=IT n0 id (an h id):=(rfl)
@[go_sem] theorem abi {x:Value}:Fy n0 h (.v x)=.v x:=(rfl)
@[go_sem] theorem aal {k:Tag}{l:List k.T}:Fy n0 h (.rs k l)=.rs k l:=(rfl)
@[go_sem] theorem YF {l:List SV}:Fy n0 h (.agg l)=bif l.all isV then .agg l else .any:=(rfl)
@[go_sem] theorem abj {x:Value}:wY n0 h (.v x)=.v x:=(rfl)
@[go_sem] theorem aam {k:Tag}{l:List k.T}:wY n0 h (.rs k l)=.rs k l:=(rfl)
@[go_sem] theorem YG {l:List SV}:wY n0 h (.agg l)=bif l.all isV then .agg l else .any:=(rfl)
@[go_sem] theorem aan {id:Nat}:wY n0 h (.os id)=IT n0 id (an h id):=(rfl)
@[go_sem] theorem YH {k:Tag}{l:List k.T}{id:Nat}:IT n0 id (.row k l)=bif Nat.ble n0 id then .rs k l else .any:=(rfl)
@[go_sem] theorem isV_v {x:Value}:isV (.v x)=true:=(rfl)
end
def Ok (pks:List Pk)(n0:Nat)(S:SV)(H:List Ob)(h:List Ob):Option SV→Prop
 |some s=>S=tW pks (Fy n0 h s)∧jo ⟨[],H⟩ n0 ⟨[],h⟩
 |none=>False
def R4 (pks:List Pk)(n0:Nat)(rs:List ResultVar)(ts:Tis)(S:SV)(H:List Ob):Ex→St→Prop
 | .exit _,_=>False
 | .normal,st=>Ok pks n0 S H st.h (kV (jI ts st rs))
 | .ret,st=>Ok pks n0 S H st.h (kV (jI ts st rs))
 | .pan _,_=>False
section
variable {P:Program}{ts:Tis}{G:Cons}{n0:Nat}{S s:SV}{H h:List Ob}{rs:List ResultVar}{st:St}{pks:List Pk}
@[go_sem] theorem Wh:Ok pks n0 S H h (some s)=(S=tW pks (Fy n0 h s)∧jo ⟨[],H⟩ n0 ⟨[],h⟩):=(rfl)
@[go_sem] theorem QW:R4 pks n0 rs ts S H .normal st=Ok pks n0 S H st.h (kV (jI ts st rs)):=(rfl)
@[go_sem] theorem Wi:R4 pks n0 rs ts S H .ret st=Ok pks n0 S H st.h (kV (jI ts st rs)):=(rfl)
theorem Ol {js:List Nat}{own:Own}{F:Nat→Prop}{b:Nat}(hk:xW 0 js n0=true)(hl:H.length=n0)(hb:¬bS F (Dk n0 own) b):¬bS F (g8 js H own) b:=by
 rintro (hf| ⟨k,hd,e,hm⟩)
 ·exact hb (.inl hf)
 ·obtain⟨h1,j,hd0,e1,e2,_,e4⟩:=ir e;obtain⟨_,rfl⟩:=e4 b hm;have hj:=x9 js 0 n0 hk k j e1 (by omega);have hjk:j=k:=by omega
  subst hjk;refine hb (.inr ⟨j,hd,?_,hm⟩);unfold Dk;rw[if_pos (by omega)];exact e2
end
end Go.Sx
end
