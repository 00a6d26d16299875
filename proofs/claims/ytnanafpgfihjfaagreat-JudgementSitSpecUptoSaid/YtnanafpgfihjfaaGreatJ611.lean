/- Part of the proof that the law JudgementSitSpec returns true and leaves its arguments as they were, for all arguments of bulk at most 1048576 (the Upto form). -/
import Derived.Test.YtnanafpgfihjfaaGreatJ610
import Derived.Test.YtnanafpgfihjfaaGreatJ608
import Derived.Test.YtnanafpgfihjfaaGreatJ609
import Derived.Test.YtnanafpgfihjfaaGreatJ607
set_option linter.all false
set_option maxHeartbeats 4000000
set_option maxRecDepth 100000
section
namespace Go.Sx
open Go.Proofs
open IntKind (i64)
def mL (c:Clause)(q:Int)(k_:PleasCourt):Bool:=((c.then_==q)&&(gY k_ c))
@[go_sem] def pF:List SV->Option Con:=(pD .clause fun c=>(pX .int fun q=>(pXX .pleasCourt fun k_=>(pE (.det True (.v (.bool (mL c q k_))))))))
theorem uV:FnOk Tryz.prog 169 pF:=by
 have hG:ConsOk Tryz.prog (mkG [(165,fun l=>kz (aP [.o,.st .clause] l))] []):=am (cgc (mn.norm [.o,.st .clause]) cg0) cg0;refine av [.o] mixed ai hG (fn:=Tryz.f169) (c:=aa Tryz.f169) kr kr kr kr (aF fun c=>(aR fun q=>(bI fun k_=>(ah (fun hp=>?_)))));dsimp only[an]at hp;refine⟨nbl rfl,L0,ag _,?_⟩
 ·unfold aa Tryz.f169;try unfold mL
  exact zq1
@[go_sem] def fW (s_:List Clause)(q:Int)(k_:PleasCourt)(k_0:Nat)(s_0:Unit):Int⊕Unit:=(bif(mL (s_.getD k_0 default) q k_)then .inl (k_0:Int)else .inr ())
def d9 (s_:List Clause)(q:Int)(k_:PleasCourt):Int:=(match aq (fW s_ q k_) s_.length 0 ()with| .inl x_0_0=>x_0_0| .inr s_0=>(-1))
@[go_sem] def bD:List SV->Option Con:=(pR .clause fun s_=>(pFn 169 (pX .int fun q=>(pXX .pleasCourt fun k_=>(pE ((pE (.det True (.v (.int .i64 (d9 s_ q k_)))))))))))
theorem b8:FnOk Tryz.prog 156 bD:=by
 have hG:ConsOk Tryz.prog (mkG [(169,fun l=>pF (aP [.st .clause,.o,.o] l))] []):=am (cgc (uV.norm [.st .clause,.o,.o]) cg0) cg0;refine av [.o] mixed ai hG (fn:=Tryz.f156) (c:=aa Tryz.f156) kr kr kr kr (a_ fun s_=>(bH (aR fun q=>(bI fun k_=>(ah ((ah (fun hp=>?_))))))));dsimp only[an]at hp;refine⟨nbl rfl,(fun id st=>bif Nat.beq id 0 then some (LCR (ρ:=Int) (σ:=Unit) 0 [] [] (fun k_0 s_0=>⟨[(0,.rs .clause s_),(1,.fn 169 [] [.ep [.v (.int .i64 q)] 0,.ep [.ep (cellsOf .pleasCourt k_) 0] 0]),(7,.v (.int .i64 (s_.length:Int))),(8,.v (.int .i64 (k_0:Int)))],[]⟩) (fW s_ q k_) pT s_.length () (s_.length<=aA) (fun _=>.ret) (fun x_0_0=>⟨[(4,.v (.int .i64 x_0_0))],[]⟩) st)else none),?_,?_⟩
 ·unfold aa Tryz.f156;simp only[ak,true_and,and_true]
  ·refine bh mixed ai hG kr (fun _=>rfl) (s_.length:Int) rfl dV (fun hb0 k_0 s_0 hlt0 _ hw hc=>⟨L0,ag _,?_⟩) (fun hb0 s_0 hc=>?_)
   ·exact aL (jl [])
   ·exact aK (jl [])
 ·unfold aa Tryz.f156;try unfold d9
  exact zq1
@[go_sem] noncomputable def dY:List SV->Option Con:=fun l=>(bD l)
theorem k9:FnOk Tryz.prog 156 dY:=b8
def la (k_:PleasCourt)(q:Int):Int:=(i64.wrap (1+(d9 k_.plea.clauses q k_)))
@[go_sem] def rE:List SV->Option Con:=(pX .pleasCourt fun k_=>(pI fun q=>(pE (.det True (.v (.int .i64 (la k_ q)))))))
theorem zq93 {p:Prop}(h:p:=by simp only[go_sem,Nat.reduceBEq,Nat.reduceLeDiff,Nat.reduceLT,decide_true,Nat.reduceAdd,Nat.reduceSub,Nat.reduceMul,Int.reduceLE,Int.reduceLT,Int.reduceToNat,Int.reduceNeg,reduceCtorEq,dY];all_goals exact cl):p:=h
theorem we:FnOk Tryz.prog 133 rE:=by
 have hG:ConsOk Tryz.prog (mkG [(156,fun l=>dY (aP [.sl .clause,.o] l))] []):=am (cgc (k9.norm [.sl .clause,.o]) cg0) cg0;refine av [.o] mixed ai hG (fn:=Tryz.f133) (c:=aa Tryz.f133) kr kr kr kr (aR fun k_=>(br fun q=>(ah (fun hp=>?_))));dsimp only[an]at hp;refine⟨nbl rfl,L0,ag _,?_⟩
 ·unfold aa Tryz.f133;try unfold la
  exact zq93
def iv (c:Clause)(k_:PleasCourt)(w_:Clause):Bool:=((gY k_ c)&&(decide (c.rank > w_.rank)))
@[go_sem] def oh:List SV->Option Con:=(pD .clause fun c=>(pXX .pleasCourt fun k_=>(pX .clause fun w_=>(pE (.det True (.v (.bool (iv c k_ w_))))))))
theorem tH:FnOk Tryz.prog 168 oh:=by
 have hG:ConsOk Tryz.prog (mkG [(165,fun l=>kz (aP [.o,.st .clause] l))] []):=am (cgc (mn.norm [.o,.st .clause]) cg0) cg0;refine av [.o] mixed ai hG (fn:=Tryz.f168) (c:=aa Tryz.f168) kr kr kr kr (aF fun c=>(bI fun k_=>(aR fun w_=>(ah (fun hp=>?_)))));dsimp only[an]at hp;refine⟨nbl rfl,L0,ag _,?_⟩
 ·unfold aa Tryz.f168;try unfold iv
  exact zq1
def g9 (c:Clause)(k_:PleasCourt):Bool:=(!(ib k_ c))
@[go_sem] def nP:List SV->Option Con:=(pD .clause fun c=>(pXX .pleasCourt fun k_=>(pE (.det True (.v (.bool (g9 c k_)))))))
theorem tf:FnOk Tryz.prog 172 nP:=by
 have hG:ConsOk Tryz.prog (mkG [(167,fun l=>mo (aP [.o,.st .clause] l))] []):=am (cgc (oP.norm [.o,.st .clause]) cg0) cg0;refine av [.o] mixed ai hG (fn:=Tryz.f172) (c:=aa Tryz.f172) kr kr kr kr (aF fun c=>(bI fun k_=>(ah (fun hp=>?_))));dsimp only[an]at hp;refine⟨nbl rfl,L0,ag _,?_⟩
 ·unfold aa Tryz.f172;try unfold g9
  exact zq1
def gE (c:Clause)(k_:PleasCourt)(w_:Clause):Bool:=((!(ib k_ c))&&(decide (c.rank > w_.rank)))
@[go_sem] def mq:List SV->Option Con:=(pD .clause fun c=>(pXX .pleasCourt fun k_=>(pX .clause fun w_=>(pE (.det True (.v (.bool (gE c k_ w_))))))))
theorem r4:FnOk Tryz.prog 175 mq:=by
 have hG:ConsOk Tryz.prog (mkG [(167,fun l=>mo (aP [.o,.st .clause] l))] []):=am (cgc (oP.norm [.o,.st .clause]) cg0) cg0;refine av [.o] mixed ai hG (fn:=Tryz.f175) (c:=aa Tryz.f175) kr kr kr kr (aF fun c=>(bI fun k_=>(aR fun w_=>(ah (fun hp=>?_)))));dsimp only[an]at hp;refine⟨nbl rfl,L0,ag _,?_⟩
 ·unfold aa Tryz.f175;try unfold gE
  exact zq1
def fE (c:Clause)(q0:Int)(k2:PleasCourt):Bool:=((c.then_==q0)&&(gY k2 c))
@[go_sem] def ld:List SV->Option Con:=(pD .clause fun c=>(pX .int fun q0=>(I0 165 (pX .pleasCourt fun k2=>(pE ((pE (.det True (.v (.bool (fE c q0 k2)))))))))))
theorem oX:FnOk Tryz.prog 207 ld:=by
 have hG:ConsOk Tryz.prog (mkG [(165,fun l=>kz (aP [.o,.st .clause] l))] []):=am (cgc (mn.norm [.o,.st .clause]) cg0) cg0;refine av [.o] mixed ai hG (fn:=Tryz.f207) (c:=aa Tryz.f207) kr kr kr kr (aF fun c=>(aR fun q0=>(Cu (aR fun k2=>(ah ((ah (fun hp=>?_))))))));dsimp only[an]at hp;refine⟨nbl rfl,L0,ag _,?_⟩
 ·unfold aa Tryz.f207;try unfold fE
  exact zq1
def fF (c:Clause)(q0:Int)(k2:PleasCourt)(w_:Clause):Bool:=((c.then_==q0)&&(iv c k2 w_))
@[go_sem] def lf:List SV->Option Con:=(pD .clause fun c=>(pX .int fun q0=>(pXF 168 (pXX .pleasCourt fun k2=>(pX .clause fun w_=>(pE ((pE (.det True (.v (.bool (fF c q0 k2 w_))))))))))))
theorem oY:FnOk Tryz.prog 207 lf:=by
 have hG:ConsOk Tryz.prog (mkG [(168,fun l=>oh (aP [.st .clause,.o,.o] l))] []):=am (cgc (tH.norm [.st .clause,.o,.o]) cg0) cg0;refine av [.o] mixed ai hG (fn:=Tryz.f207) (c:=aa Tryz.f207) kr kr kr kr (aF fun c=>(aR fun q0=>(kU (bI fun k2=>(aR fun w_=>(ah ((ah (fun hp=>?_)))))))));dsimp only[an]at hp;refine⟨nbl rfl,L0,ag _,?_⟩
 ·unfold aa Tryz.f207;try unfold fF
  exact zq1
def fG (c:Clause)(q0:Int)(k2:PleasCourt):Bool:=((c.then_==q0)&&(g9 c k2))
@[go_sem] def lg:List SV->Option Con:=(pD .clause fun c=>(pX .int fun q0=>(pXF 172 (pXX .pleasCourt fun k2=>(pE ((pE (.det True (.v (.bool (fG c q0 k2)))))))))))
theorem oZ:FnOk Tryz.prog 207 lg:=by
 have hG:ConsOk Tryz.prog (mkG [(172,fun l=>nP (aP [.st .clause,.o] l))] []):=am (cgc (tf.norm [.st .clause,.o]) cg0) cg0;refine av [.o] mixed ai hG (fn:=Tryz.f207) (c:=aa Tryz.f207) kr kr kr kr (aF fun c=>(aR fun q0=>(kU (bI fun k2=>(ah ((ah (fun hp=>?_))))))));dsimp only[an]at hp;refine⟨nbl rfl,L0,ag _,?_⟩
 ·unfold aa Tryz.f207;try unfold fG
  exact zq1
def fH (c:Clause)(q0:Int)(k2:PleasCourt)(w_:Clause):Bool:=((c.then_==q0)&&(gE c k2 w_))
@[go_sem] def lh:List SV->Option Con:=(pD .clause fun c=>(pX .int fun q0=>(pXF 175 (pXX .pleasCourt fun k2=>(pX .clause fun w_=>(pE ((pE (.det True (.v (.bool (fH c q0 k2 w_))))))))))))
theorem o4:FnOk Tryz.prog 207 lh:=by
 have hG:ConsOk Tryz.prog (mkG [(175,fun l=>mq (aP [.st .clause,.o,.o] l))] []):=am (cgc (r4.norm [.st .clause,.o,.o]) cg0) cg0;refine av [.o] mixed ai hG (fn:=Tryz.f207) (c:=aa Tryz.f207) kr kr kr kr (aF fun c=>(aR fun q0=>(kU (bI fun k2=>(aR fun w_=>(ah ((ah (fun hp=>?_)))))))));dsimp only[an]at hp;refine⟨nbl rfl,L0,ag _,?_⟩
 ·unfold aa Tryz.f207;try unfold fH
  exact zq1
@[go_sem] noncomputable def eZ:List SV->Option Con:=fun l=>(orC (ld l) (orC (lf l) (orC (lg l) (lh l))))
theorem iw:FnOk Tryz.prog 207 eZ:=(FnOk.or oX (FnOk.or oY (FnOk.or oZ o4)))
@[go_sem] def fX (s_:List Clause)(q0:Int)(k2:PleasCourt)(k_0:Nat)(s_0:Unit):Int⊕Unit:=(bif(fE (s_.getD k_0 default) q0 k2)then .inl (k_0:Int)else .inr ())
def d_ (s_:List Clause)(q0:Int)(k2:PleasCourt):Int:=(match aq (fX s_ q0 k2) s_.length 0 ()with| .inl x_0_0=>x_0_0| .inr s_0=>(-1))
@[go_sem] def cd:List SV->Option Con:=(pR .clause fun s_=>(pFn 207 (pX .int fun q0=>(I0 165 (pX .pleasCourt fun k2=>(pE ((pE ((pE (.det True (.v (.int .i64 (d_ s_ q0 k2))))))))))))))
theorem KH {p:Prop}(h:p:=by simp only[go_sem,Nat.reduceBEq,Nat.reduceLeDiff,Nat.reduceLT,decide_true,Nat.reduceAdd,Nat.reduceSub,Nat.reduceMul,Int.reduceLE,Int.reduceLT,Int.reduceToNat,Int.reduceNeg,reduceCtorEq,eZ];all_goals exact cl):p:=h
theorem dB:FnOk Tryz.prog 156 cd:=by
 have hG:ConsOk Tryz.prog (mkG [(207,fun l=>eZ (aP [.st .clause,.o,.o] l))] []):=am (cgc (iw.norm [.st .clause,.o,.o]) cg0) cg0;refine av [.o] mixed ai hG (fn:=Tryz.f156) (c:=aa Tryz.f156) kr kr kr kr (a_ fun s_=>(bH (aR fun q0=>(Cu (aR fun k2=>(ah ((ah ((ah (fun hp=>?_)))))))))));dsimp only[an]at hp;refine⟨nbl rfl,(fun id st=>bif Nat.beq id 0 then some (LCR (ρ:=Int) (σ:=Unit) 0 [] [] (fun k_0 s_0=>⟨[(0,.rs .clause s_),(1,.fn 207 [] [.ep [.v (.int .i64 q0)] 0,.ep [.fn 165 [.ep (cellsOf .pleasCourt k2) 0] []] 0]),(7,.v (.int .i64 (s_.length:Int))),(8,.v (.int .i64 (k_0:Int)))],[]⟩) (fX s_ q0 k2) pT s_.length () (s_.length<=aA) (fun _=>.ret) (fun x_0_0=>⟨[(4,.v (.int .i64 x_0_0))],[]⟩) st)else none),?_,?_⟩
 ·unfold aa Tryz.f156;simp only[ak,true_and,and_true]
  ·refine bh mixed ai hG kr (fun _=>rfl) (s_.length:Int) rfl dV (fun hb0 k_0 s_0 hlt0 _ hw hc=>⟨L0,ag _,?_⟩) (fun hb0 s_0 hc=>?_)
   ·exact aL (jl [])
   ·exact aK (jl [])
 ·unfold aa Tryz.f156;try unfold d_
  exact KH
@[go_sem] def fY (s_:List Clause)(q0:Int)(k2:PleasCourt)(w_:Clause)(k_0:Nat)(s_0:Unit):Int⊕Unit:=(bif(fF (s_.getD k_0 default) q0 k2 w_)then .inl (k_0:Int)else .inr ())
def eb (s_:List Clause)(q0:Int)(k2:PleasCourt)(w_:Clause):Int:=(match aq (fY s_ q0 k2 w_) s_.length 0 ()with| .inl x_0_0=>x_0_0| .inr s_0=>(-1))
@[go_sem] def ce:List SV->Option Con:=(pR .clause fun s_=>(pFn 207 (pX .int fun q0=>(pXF 168 (pXX .pleasCourt fun k2=>(pX .clause fun w_=>(pE ((pE ((pE (.det True (.v (.int .i64 (eb s_ q0 k2 w_)))))))))))))))
theorem dC:FnOk Tryz.prog 156 ce:=by
 have hG:ConsOk Tryz.prog (mkG [(207,fun l=>eZ (aP [.st .clause,.o,.o] l))] []):=am (cgc (iw.norm [.st .clause,.o,.o]) cg0) cg0;refine av [.o] mixed ai hG (fn:=Tryz.f156) (c:=aa Tryz.f156) kr kr kr kr (a_ fun s_=>(bH (aR fun q0=>(kU (bI fun k2=>(aR fun w_=>(ah ((ah ((ah (fun hp=>?_))))))))))));dsimp only[an]at hp;refine⟨nbl rfl,(fun id st=>bif Nat.beq id 0 then some (LCR (ρ:=Int) (σ:=Unit) 0 [] [] (fun k_0 s_0=>⟨[(0,.rs .clause s_),(1,.fn 207 [] [.ep [.v (.int .i64 q0)] 0,.ep [.fn 168 [] [.ep [.ep (cellsOf .pleasCourt k2) 0] 0,.ep (cellsOf .clause w_) 0]] 0]),(7,.v (.int .i64 (s_.length:Int))),(8,.v (.int .i64 (k_0:Int)))],[]⟩) (fY s_ q0 k2 w_) pT s_.length () (s_.length<=aA) (fun _=>.ret) (fun x_0_0=>⟨[(4,.v (.int .i64 x_0_0))],[]⟩) st)else none),?_,?_⟩
 ·unfold aa Tryz.f156;simp only[ak,true_and,and_true]
  ·refine bh mixed ai hG kr (fun _=>rfl) (s_.length:Int) rfl dV (fun hb0 k_0 s_0 hlt0 _ hw hc=>⟨L0,ag _,?_⟩) (fun hb0 s_0 hc=>?_)
   ·exact aL (jl [])
   ·exact aK (jl [])
 ·unfold aa Tryz.f156;try unfold eb
  exact KH
@[go_sem] def fZ (s_:List Clause)(q0:Int)(k2:PleasCourt)(k_0:Nat)(s_0:Unit):Int⊕Unit:=(bif(fG (s_.getD k_0 default) q0 k2)then .inl (k_0:Int)else .inr ())
def ed (s_:List Clause)(q0:Int)(k2:PleasCourt):Int:=(match aq (fZ s_ q0 k2) s_.length 0 ()with| .inl x_0_0=>x_0_0| .inr s_0=>(-1))
@[go_sem] def cg:List SV->Option Con:=(pR .clause fun s_=>(pFn 207 (pX .int fun q0=>(pXF 172 (pXX .pleasCourt fun k2=>(pE ((pE ((pE (.det True (.v (.int .i64 (ed s_ q0 k2))))))))))))))
theorem dD:FnOk Tryz.prog 156 cg:=by
 have hG:ConsOk Tryz.prog (mkG [(207,fun l=>eZ (aP [.st .clause,.o,.o] l))] []):=am (cgc (iw.norm [.st .clause,.o,.o]) cg0) cg0;refine av [.o] mixed ai hG (fn:=Tryz.f156) (c:=aa Tryz.f156) kr kr kr kr (a_ fun s_=>(bH (aR fun q0=>(kU (bI fun k2=>(ah ((ah ((ah (fun hp=>?_)))))))))));dsimp only[an]at hp;refine⟨nbl rfl,(fun id st=>bif Nat.beq id 0 then some (LCR (ρ:=Int) (σ:=Unit) 0 [] [] (fun k_0 s_0=>⟨[(0,.rs .clause s_),(1,.fn 207 [] [.ep [.v (.int .i64 q0)] 0,.ep [.fn 172 [] [.ep [.ep (cellsOf .pleasCourt k2) 0] 0]] 0]),(7,.v (.int .i64 (s_.length:Int))),(8,.v (.int .i64 (k_0:Int)))],[]⟩) (fZ s_ q0 k2) pT s_.length () (s_.length<=aA) (fun _=>.ret) (fun x_0_0=>⟨[(4,.v (.int .i64 x_0_0))],[]⟩) st)else none),?_,?_⟩
 ·unfold aa Tryz.f156;simp only[ak,true_and,and_true]
  ·refine bh mixed ai hG kr (fun _=>rfl) (s_.length:Int) rfl dV (fun hb0 k_0 s_0 hlt0 _ hw hc=>⟨L0,ag _,?_⟩) (fun hb0 s_0 hc=>?_)
   ·exact aL (jl [])
   ·exact aK (jl [])
 ·unfold aa Tryz.f156;try unfold ed
  exact KH
@[go_sem] def f5 (s_:List Clause)(q0:Int)(k2:PleasCourt)(w_:Clause)(k_0:Nat)(s_0:Unit):Int⊕Unit:=(bif(fH (s_.getD k_0 default) q0 k2 w_)then .inl (k_0:Int)else .inr ())
def ee (s_:List Clause)(q0:Int)(k2:PleasCourt)(w_:Clause):Int:=(match aq (f5 s_ q0 k2 w_) s_.length 0 ()with| .inl x_0_0=>x_0_0| .inr s_0=>(-1))
@[go_sem] def ci:List SV->Option Con:=(pR .clause fun s_=>(pFn 207 (pX .int fun q0=>(pXF 175 (pXX .pleasCourt fun k2=>(pX .clause fun w_=>(pE ((pE ((pE (.det True (.v (.int .i64 (ee s_ q0 k2 w_)))))))))))))))
theorem dE:FnOk Tryz.prog 156 ci:=by
 have hG:ConsOk Tryz.prog (mkG [(207,fun l=>eZ (aP [.st .clause,.o,.o] l))] []):=am (cgc (iw.norm [.st .clause,.o,.o]) cg0) cg0;refine av [.o] mixed ai hG (fn:=Tryz.f156) (c:=aa Tryz.f156) kr kr kr kr (a_ fun s_=>(bH (aR fun q0=>(kU (bI fun k2=>(aR fun w_=>(ah ((ah ((ah (fun hp=>?_))))))))))));dsimp only[an]at hp;refine⟨nbl rfl,(fun id st=>bif Nat.beq id 0 then some (LCR (ρ:=Int) (σ:=Unit) 0 [] [] (fun k_0 s_0=>⟨[(0,.rs .clause s_),(1,.fn 207 [] [.ep [.v (.int .i64 q0)] 0,.ep [.fn 175 [] [.ep [.ep (cellsOf .pleasCourt k2) 0] 0,.ep (cellsOf .clause w_) 0]] 0]),(7,.v (.int .i64 (s_.length:Int))),(8,.v (.int .i64 (k_0:Int)))],[]⟩) (f5 s_ q0 k2 w_) pT s_.length () (s_.length<=aA) (fun _=>.ret) (fun x_0_0=>⟨[(4,.v (.int .i64 x_0_0))],[]⟩) st)else none),?_,?_⟩
 ·unfold aa Tryz.f156;simp only[ak,true_and,and_true]
  ·refine bh mixed ai hG kr (fun _=>rfl) (s_.length:Int) rfl dV (fun hb0 k_0 s_0 hlt0 _ hw hc=>⟨L0,ag _,?_⟩) (fun hb0 s_0 hc=>?_)
   ·exact aL (jl [])
   ·exact aK (jl [])
 ·unfold aa Tryz.f156;try unfold ee
  exact KH
@[go_sem] noncomputable def bi:List SV->Option Con:=fun l=>(orC (bD l) (orC (cd l) (orC (ce l) (orC (cg l) (ci l)))))
theorem cj:FnOk Tryz.prog 156 bi:=(FnOk.or b8 (FnOk.or dB (FnOk.or dC (FnOk.or dD dE))))
def dF (s_:List Clause)(q0:Int)(k2:PleasCourt):Bool:=(decide ((d_ s_ q0 k2)>=0))
@[go_sem] def bV:List SV->Option Con:=(pR .clause fun s_=>(pFn 207 (pX .int fun q0=>(I0 165 (pX .pleasCourt fun k2=>(pE ((pE ((pE (.det True (.v (.bool (dF s_ q0 k2))))))))))))))
theorem KI {p:Prop}(h:p:=by simp only[go_sem,Nat.reduceBEq,Nat.reduceLeDiff,Nat.reduceLT,decide_true,Nat.reduceAdd,Nat.reduceSub,Nat.reduceMul,Int.reduceLE,Int.reduceLT,Int.reduceToNat,Int.reduceNeg,reduceCtorEq,bi];all_goals exact cl):p:=h
theorem c9:FnOk Tryz.prog 116 bV:=by
 have hG:ConsOk Tryz.prog (mkG [(156,fun l=>bi (aP [.sl .clause,.o] l))] []):=am (cgc (cj.norm [.sl .clause,.o]) cg0) cg0;refine av [.o] mixed ai hG (fn:=Tryz.f116) (c:=aa Tryz.f116) kr kr kr kr (a_ fun s_=>(bH (aR fun q0=>(Cu (aR fun k2=>(ah ((ah ((ah (fun hp=>?_)))))))))));dsimp only[an]at hp;refine⟨nbl rfl,L0,ag _,?_⟩
 ·unfold aa Tryz.f116;try unfold dF
  exact KI
def dG (s_:List Clause)(q0:Int)(k2:PleasCourt)(w_:Clause):Bool:=(decide ((eb s_ q0 k2 w_)>=0))
@[go_sem] def bW:List SV->Option Con:=(pR .clause fun s_=>(pFn 207 (pX .int fun q0=>(pXF 168 (pXX .pleasCourt fun k2=>(pX .clause fun w_=>(pE ((pE ((pE (.det True (.v (.bool (dG s_ q0 k2 w_)))))))))))))))
theorem da:FnOk Tryz.prog 116 bW:=by
 have hG:ConsOk Tryz.prog (mkG [(156,fun l=>bi (aP [.sl .clause,.o] l))] []):=am (cgc (cj.norm [.sl .clause,.o]) cg0) cg0;refine av [.o] mixed ai hG (fn:=Tryz.f116) (c:=aa Tryz.f116) kr kr kr kr (a_ fun s_=>(bH (aR fun q0=>(kU (bI fun k2=>(aR fun w_=>(ah ((ah ((ah (fun hp=>?_))))))))))));dsimp only[an]at hp;refine⟨nbl rfl,L0,ag _,?_⟩
 ·unfold aa Tryz.f116;try unfold dG
  exact KI
def dH (s_:List Clause)(q0:Int)(k2:PleasCourt):Bool:=(decide ((ed s_ q0 k2)>=0))
@[go_sem] def bX:List SV->Option Con:=(pR .clause fun s_=>(pFn 207 (pX .int fun q0=>(pXF 172 (pXX .pleasCourt fun k2=>(pE ((pE ((pE (.det True (.v (.bool (dH s_ q0 k2))))))))))))))
theorem db:FnOk Tryz.prog 116 bX:=by
 have hG:ConsOk Tryz.prog (mkG [(156,fun l=>bi (aP [.sl .clause,.o] l))] []):=am (cgc (cj.norm [.sl .clause,.o]) cg0) cg0;refine av [.o] mixed ai hG (fn:=Tryz.f116) (c:=aa Tryz.f116) kr kr kr kr (a_ fun s_=>(bH (aR fun q0=>(kU (bI fun k2=>(ah ((ah ((ah (fun hp=>?_)))))))))));dsimp only[an]at hp;refine⟨nbl rfl,L0,ag _,?_⟩
 ·unfold aa Tryz.f116;try unfold dH
  exact KI
def dI (s_:List Clause)(q0:Int)(k2:PleasCourt)(w_:Clause):Bool:=(decide ((ee s_ q0 k2 w_)>=0))
@[go_sem] def bY:List SV->Option Con:=(pR .clause fun s_=>(pFn 207 (pX .int fun q0=>(pXF 175 (pXX .pleasCourt fun k2=>(pX .clause fun w_=>(pE ((pE ((pE (.det True (.v (.bool (dI s_ q0 k2 w_)))))))))))))))
theorem df:FnOk Tryz.prog 116 bY:=by
 have hG:ConsOk Tryz.prog (mkG [(156,fun l=>bi (aP [.sl .clause,.o] l))] []):=am (cgc (cj.norm [.sl .clause,.o]) cg0) cg0;refine av [.o] mixed ai hG (fn:=Tryz.f116) (c:=aa Tryz.f116) kr kr kr kr (a_ fun s_=>(bH (aR fun q0=>(kU (bI fun k2=>(aR fun w_=>(ah ((ah ((ah (fun hp=>?_))))))))))));dsimp only[an]at hp;refine⟨nbl rfl,L0,ag _,?_⟩
 ·unfold aa Tryz.f116;try unfold dI
  exact KI
@[go_sem] noncomputable def aZ:List SV->Option Con:=fun l=>(orC (bV l) (orC (bW l) (orC (bX l) (bY l))))
theorem bZ:FnOk Tryz.prog 116 aZ:=(FnOk.or c9 (FnOk.or da (FnOk.or db df)))
def iP (k_:PleasCourt)(q:Int)(k2:PleasCourt):Bool:=(dF k_.plea.clauses q k2)
@[go_sem] def mM:List SV->Option Con:=(pX .pleasCourt fun k_=>(pI fun q=>(pFB 165 (pX .pleasCourt fun k2=>(pE ((pE (.det True (.v (.bool (iP k_ q k2)))))))))))
theorem KJ {p:Prop}(h:p:=by simp only[go_sem,Nat.reduceBEq,Nat.reduceLeDiff,Nat.reduceLT,decide_true,Nat.reduceAdd,Nat.reduceSub,Nat.reduceMul,Int.reduceLE,Int.reduceLT,Int.reduceToNat,Int.reduceNeg,reduceCtorEq,aZ];all_goals exact cl):p:=h
theorem qo:FnOk Tryz.prog 164 mM:=by
 have hG:ConsOk Tryz.prog (mkG [(116,fun l=>aZ (aP [.sl .clause,.o] l))] []):=am (cgc (bZ.norm [.sl .clause,.o]) cg0) cg0;refine av [.o] mixed ai hG (fn:=Tryz.f164) (c:=aa Tryz.f164) kr kr kr kr (aR fun k_=>(br fun q=>(Rj (aR fun k2=>(ah ((ah (fun hp=>?_))))))));dsimp only[an]at hp;refine⟨nbl rfl,L0,ag _,?_⟩
 ·unfold aa Tryz.f164;try unfold iP
  exact KJ
def iQ (k_:PleasCourt)(q:Int)(k2:PleasCourt)(w_:Clause):Bool:=(dG k_.plea.clauses q k2 w_)
@[go_sem] def mN:List SV->Option Con:=(pX .pleasCourt fun k_=>(pI fun q=>(pFn 168 (pXX .pleasCourt fun k2=>(pX .clause fun w_=>(pE ((pE (.det True (.v (.bool (iQ k_ q k2 w_))))))))))))
theorem qp:FnOk Tryz.prog 164 mN:=by
 have hG:ConsOk Tryz.prog (mkG [(116,fun l=>aZ (aP [.sl .clause,.o] l))] []):=am (cgc (bZ.norm [.sl .clause,.o]) cg0) cg0;refine av [.o] mixed ai hG (fn:=Tryz.f164) (c:=aa Tryz.f164) kr kr kr kr (aR fun k_=>(br fun q=>(bH (bI fun k2=>(aR fun w_=>(ah ((ah (fun hp=>?_)))))))));dsimp only[an]at hp;refine⟨nbl rfl,L0,ag _,?_⟩
 ·unfold aa Tryz.f164;try unfold iQ
  exact KJ
def iR (k_:PleasCourt)(q:Int)(k2:PleasCourt):Bool:=(dH k_.plea.clauses q k2)
@[go_sem] def mO:List SV->Option Con:=(pX .pleasCourt fun k_=>(pI fun q=>(pFn 172 (pXX .pleasCourt fun k2=>(pE ((pE (.det True (.v (.bool (iR k_ q k2)))))))))))
theorem qq:FnOk Tryz.prog 164 mO:=by
 have hG:ConsOk Tryz.prog (mkG [(116,fun l=>aZ (aP [.sl .clause,.o] l))] []):=am (cgc (bZ.norm [.sl .clause,.o]) cg0) cg0;refine av [.o] mixed ai hG (fn:=Tryz.f164) (c:=aa Tryz.f164) kr kr kr kr (aR fun k_=>(br fun q=>(bH (bI fun k2=>(ah ((ah (fun hp=>?_))))))));dsimp only[an]at hp;refine⟨nbl rfl,L0,ag _,?_⟩
 ·unfold aa Tryz.f164;try unfold iR
  exact KJ
def iS (k_:PleasCourt)(q:Int)(k2:PleasCourt)(w_:Clause):Bool:=(dI k_.plea.clauses q k2 w_)
@[go_sem] def mP:List SV->Option Con:=(pX .pleasCourt fun k_=>(pI fun q=>(pFn 175 (pXX .pleasCourt fun k2=>(pX .clause fun w_=>(pE ((pE (.det True (.v (.bool (iS k_ q k2 w_))))))))))))
theorem qr:FnOk Tryz.prog 164 mP:=by
 have hG:ConsOk Tryz.prog (mkG [(116,fun l=>aZ (aP [.sl .clause,.o] l))] []):=am (cgc (bZ.norm [.sl .clause,.o]) cg0) cg0;refine av [.o] mixed ai hG (fn:=Tryz.f164) (c:=aa Tryz.f164) kr kr kr kr (aR fun k_=>(br fun q=>(bH (bI fun k2=>(aR fun w_=>(ah ((ah (fun hp=>?_)))))))));dsimp only[an]at hp;refine⟨nbl rfl,L0,ag _,?_⟩
 ·unfold aa Tryz.f164;try unfold iS
  exact KJ
@[go_sem] noncomputable def j5:List SV->Option Con:=fun l=>(orC (mM l) (orC (mN l) (orC (mO l) (mP l))))
theorem rF:FnOk Tryz.prog 164 j5:=(FnOk.or qo (FnOk.or qp (FnOk.or qq qr)))
def jC (s_:Clause)(k_:PleasCourt)(q:Int):Bool:=((!(ib k_ s_))&&(!(iQ k_ q k_ s_)))
@[go_sem] def pG:List SV->Option Con:=(pD .clause fun s_=>(pXX .pleasCourt fun k_=>(pX .int fun q=>(pE (.det True (.v (.bool (jC s_ k_ q))))))))
theorem SP {p:Prop}(h:p:=by simp only[go_sem,Nat.reduceBEq,Nat.reduceLeDiff,Nat.reduceLT,decide_true,Nat.reduceAdd,Nat.reduceSub,Nat.reduceMul,Int.reduceLE,Int.reduceLT,Int.reduceToNat,Int.reduceNeg,reduceCtorEq,j5];all_goals exact cl):p:=h
theorem uW:FnOk Tryz.prog 166 pG:=by
 have hG:ConsOk Tryz.prog (mkG [(164,j5),(167,fun l=>mo (aP [.o,.st .clause] l))] []):=am (cgc rF (cgc (oP.norm [.o,.st .clause]) cg0)) cg0;refine av [.o] mixed ai hG (fn:=Tryz.f166) (c:=aa Tryz.f166) kr kr kr kr (aF fun s_=>(bI fun k_=>(aR fun q=>(ah (fun hp=>?_)))));dsimp only[an]at hp;refine⟨nbl rfl,L0,ag _,?_⟩
 ·unfold aa Tryz.f166;try unfold jC
  exact SP
def g_ (s_:Clause)(k_:PleasCourt)(q:Int):Bool:=((gY k_ s_)&&(!(iS k_ q k_ s_)))
@[go_sem] def nQ:List SV->Option Con:=(pD .clause fun s_=>(pXX .pleasCourt fun k_=>(pX .int fun q=>(pE (.det True (.v (.bool (g_ s_ k_ q))))))))
theorem tg:FnOk Tryz.prog 174 nQ:=by
 have hG:ConsOk Tryz.prog (mkG [(164,j5),(165,fun l=>kz (aP [.o,.st .clause] l))] []):=am (cgc rF (cgc (mn.norm [.o,.st .clause]) cg0)) cg0;refine av [.o] mixed ai hG (fn:=Tryz.f174) (c:=aa Tryz.f174) kr kr kr kr (aF fun s_=>(bI fun k_=>(aR fun q=>(ah (fun hp=>?_)))));dsimp only[an]at hp;refine⟨nbl rfl,L0,ag _,?_⟩
 ·unfold aa Tryz.f174;try unfold g_
  exact SP
def fI (c:Clause)(q0:Int)(k2:PleasCourt)(q2:Int):Bool:=((c.then_==q0)&&(jC c k2 q2))
@[go_sem] def pH:List SV->Option Con:=(pD .clause fun c=>(pX .int fun q0=>(pXF 166 (pXX .pleasCourt fun k2=>(pX .int fun q2=>(pE ((pE (.det True (.v (.bool (fI c q0 k2 q2))))))))))))
theorem uX:FnOk Tryz.prog 207 pH:=by
 have hG:ConsOk Tryz.prog (mkG [(166,fun l=>pG (aP [.st .clause,.o,.o] l))] []):=am (cgc (uW.norm [.st .clause,.o,.o]) cg0) cg0;refine av [.o] mixed ai hG (fn:=Tryz.f207) (c:=aa Tryz.f207) kr kr kr kr (aF fun c=>(aR fun q0=>(kU (bI fun k2=>(aR fun q2=>(ah ((ah (fun hp=>?_)))))))));dsimp only[an]at hp;refine⟨nbl rfl,L0,ag _,?_⟩
 ·unfold aa Tryz.f207;try unfold fI
  exact zq1
def fJ (c:Clause)(q0:Int)(k2:PleasCourt)(q2:Int):Bool:=((c.then_==q0)&&(g_ c k2 q2))
@[go_sem] def pJ:List SV->Option Con:=(pD .clause fun c=>(pX .int fun q0=>(pXF 174 (pXX .pleasCourt fun k2=>(pX .int fun q2=>(pE ((pE (.det True (.v (.bool (fJ c q0 k2 q2))))))))))))
theorem uY:FnOk Tryz.prog 207 pJ:=by
 have hG:ConsOk Tryz.prog (mkG [(174,fun l=>nQ (aP [.st .clause,.o,.o] l))] []):=am (cgc (tg.norm [.st .clause,.o,.o]) cg0) cg0;refine av [.o] mixed ai hG (fn:=Tryz.f207) (c:=aa Tryz.f207) kr kr kr kr (aF fun c=>(aR fun q0=>(kU (bI fun k2=>(aR fun q2=>(ah ((ah (fun hp=>?_)))))))));dsimp only[an]at hp;refine⟨nbl rfl,L0,ag _,?_⟩
 ·unfold aa Tryz.f207;try unfold fJ
  exact zq1
@[go_sem] noncomputable def i5:List SV->Option Con:=fun l=>(orC (ld l) (orC (lf l) (orC (lg l) (orC (lh l) (orC (pH l) (pJ l))))))
theorem pK:FnOk Tryz.prog 207 i5:=(FnOk.or oX (FnOk.or oY (FnOk.or oZ (FnOk.or o4 (FnOk.or uX uY)))))
@[go_sem] def f6 (s_:List Clause)(q0:Int)(k2:PleasCourt)(q2:Int)(k_0:Nat)(s_0:Unit):Int⊕Unit:=(bif(fI (s_.getD k_0 default) q0 k2 q2)then .inl (k_0:Int)else .inr ())
def ef (s_:List Clause)(q0:Int)(k2:PleasCourt)(q2:Int):Int:=(match aq (f6 s_ q0 k2 q2) s_.length 0 ()with| .inl x_0_0=>x_0_0| .inr s_0=>(-1))
@[go_sem] def dT:List SV->Option Con:=(pR .clause fun s_=>(pFn 207 (pX .int fun q0=>(pXF 166 (pXX .pleasCourt fun k2=>(pX .int fun q2=>(pE ((pE ((pE (.det True (.v (.int .i64 (ef s_ q0 k2 q2)))))))))))))))
theorem SQ {p:Prop}(h:p:=by simp only[go_sem,Nat.reduceBEq,Nat.reduceLeDiff,Nat.reduceLT,decide_true,Nat.reduceAdd,Nat.reduceSub,Nat.reduceMul,Int.reduceLE,Int.reduceLT,Int.reduceToNat,Int.reduceNeg,reduceCtorEq,i5];all_goals exact cl):p:=h
theorem f7:FnOk Tryz.prog 156 dT:=by
 have hG:ConsOk Tryz.prog (mkG [(207,fun l=>i5 (aP [.st .clause,.o,.o] l))] []):=am (cgc (pK.norm [.st .clause,.o,.o]) cg0) cg0;refine av [.o] mixed ai hG (fn:=Tryz.f156) (c:=aa Tryz.f156) kr kr kr kr (a_ fun s_=>(bH (aR fun q0=>(kU (bI fun k2=>(aR fun q2=>(ah ((ah ((ah (fun hp=>?_))))))))))));dsimp only[an]at hp;refine⟨nbl rfl,(fun id st=>bif Nat.beq id 0 then some (LCR (ρ:=Int) (σ:=Unit) 0 [] [] (fun k_0 s_0=>⟨[(0,.rs .clause s_),(1,.fn 207 [] [.ep [.v (.int .i64 q0)] 0,.ep [.fn 166 [] [.ep [.ep (cellsOf .pleasCourt k2) 0] 0,.ep [.v (.int .i64 q2)] 0]] 0]),(7,.v (.int .i64 (s_.length:Int))),(8,.v (.int .i64 (k_0:Int)))],[]⟩) (f6 s_ q0 k2 q2) pT s_.length () (s_.length<=aA) (fun _=>.ret) (fun x_0_0=>⟨[(4,.v (.int .i64 x_0_0))],[]⟩) st)else none),?_,?_⟩
 ·unfold aa Tryz.f156;simp only[ak,true_and,and_true]
  ·refine bh mixed ai hG kr (fun _=>rfl) (s_.length:Int) rfl dV (fun hb0 k_0 s_0 hlt0 _ hw hc=>⟨L0,ag _,?_⟩) (fun hb0 s_0 hc=>?_)
   ·exact aL (jl [])
   ·exact aK (jl [])
 ·unfold aa Tryz.f156;try unfold ef
  exact SQ
@[go_sem] def f8 (s_:List Clause)(q0:Int)(k2:PleasCourt)(q2:Int)(k_0:Nat)(s_0:Unit):Int⊕Unit:=(bif(fJ (s_.getD k_0 default) q0 k2 q2)then .inl (k_0:Int)else .inr ())
def eh (s_:List Clause)(q0:Int)(k2:PleasCourt)(q2:Int):Int:=(match aq (f8 s_ q0 k2 q2) s_.length 0 ()with| .inl x_0_0=>x_0_0| .inr s_0=>(-1))
@[go_sem] def dU:List SV->Option Con:=(pR .clause fun s_=>(pFn 207 (pX .int fun q0=>(pXF 174 (pXX .pleasCourt fun k2=>(pX .int fun q2=>(pE ((pE ((pE (.det True (.v (.int .i64 (eh s_ q0 k2 q2)))))))))))))))
theorem f9:FnOk Tryz.prog 156 dU:=by
 have hG:ConsOk Tryz.prog (mkG [(207,fun l=>i5 (aP [.st .clause,.o,.o] l))] []):=am (cgc (pK.norm [.st .clause,.o,.o]) cg0) cg0;refine av [.o] mixed ai hG (fn:=Tryz.f156) (c:=aa Tryz.f156) kr kr kr kr (a_ fun s_=>(bH (aR fun q0=>(kU (bI fun k2=>(aR fun q2=>(ah ((ah ((ah (fun hp=>?_))))))))))));dsimp only[an]at hp;refine⟨nbl rfl,(fun id st=>bif Nat.beq id 0 then some (LCR (ρ:=Int) (σ:=Unit) 0 [] [] (fun k_0 s_0=>⟨[(0,.rs .clause s_),(1,.fn 207 [] [.ep [.v (.int .i64 q0)] 0,.ep [.fn 174 [] [.ep [.ep (cellsOf .pleasCourt k2) 0] 0,.ep [.v (.int .i64 q2)] 0]] 0]),(7,.v (.int .i64 (s_.length:Int))),(8,.v (.int .i64 (k_0:Int)))],[]⟩) (f8 s_ q0 k2 q2) pT s_.length () (s_.length<=aA) (fun _=>.ret) (fun x_0_0=>⟨[(4,.v (.int .i64 x_0_0))],[]⟩) st)else none),?_,?_⟩
 ·unfold aa Tryz.f156;simp only[ak,true_and,and_true]
  ·refine bh mixed ai hG kr (fun _=>rfl) (s_.length:Int) rfl dV (fun hb0 k_0 s_0 hlt0 _ hw hc=>⟨L0,ag _,?_⟩) (fun hb0 s_0 hc=>?_)
   ·exact aL (jl [])
   ·exact aK (jl [])
 ·unfold aa Tryz.f156;try unfold eh
  exact SQ
@[go_sem] noncomputable def cr:List SV->Option Con:=fun l=>(orC (bD l) (orC (cd l) (orC (ce l) (orC (cg l) (orC (ci l) (orC (dT l) (dU l)))))))
theorem gf:FnOk Tryz.prog 156 cr:=(FnOk.or b8 (FnOk.or dB (FnOk.or dC (FnOk.or dD (FnOk.or dE (FnOk.or f7 f9))))))
def dJ (s_:List Clause)(q0:Int)(k2:PleasCourt)(q2:Int):Bool:=(decide ((ef s_ q0 k2 q2)>=0))
@[go_sem] def dl:List SV->Option Con:=(pR .clause fun s_=>(pFn 207 (pX .int fun q0=>(pXF 166 (pXX .pleasCourt fun k2=>(pX .int fun q2=>(pE ((pE ((pE (.det True (.v (.bool (dJ s_ q0 k2 q2)))))))))))))))
theorem SR {p:Prop}(h:p:=by simp only[go_sem,Nat.reduceBEq,Nat.reduceLeDiff,Nat.reduceLT,decide_true,Nat.reduceAdd,Nat.reduceSub,Nat.reduceMul,Int.reduceLE,Int.reduceLT,Int.reduceToNat,Int.reduceNeg,reduceCtorEq,cr];all_goals exact cl):p:=h
theorem ff:FnOk Tryz.prog 116 dl:=by
 have hG:ConsOk Tryz.prog (mkG [(156,fun l=>cr (aP [.sl .clause,.o] l))] []):=am (cgc (gf.norm [.sl .clause,.o]) cg0) cg0;refine av [.o] mixed ai hG (fn:=Tryz.f116) (c:=aa Tryz.f116) kr kr kr kr (a_ fun s_=>(bH (aR fun q0=>(kU (bI fun k2=>(aR fun q2=>(ah ((ah ((ah (fun hp=>?_))))))))))));dsimp only[an]at hp;refine⟨nbl rfl,L0,ag _,?_⟩
 ·unfold aa Tryz.f116;try unfold dJ
  exact SR
def dK (s_:List Clause)(q0:Int)(k2:PleasCourt)(q2:Int):Bool:=(decide ((eh s_ q0 k2 q2)>=0))
@[go_sem] def dm:List SV->Option Con:=(pR .clause fun s_=>(pFn 207 (pX .int fun q0=>(pXF 174 (pXX .pleasCourt fun k2=>(pX .int fun q2=>(pE ((pE ((pE (.det True (.v (.bool (dK s_ q0 k2 q2)))))))))))))))
theorem fg:FnOk Tryz.prog 116 dm:=by
 have hG:ConsOk Tryz.prog (mkG [(156,fun l=>cr (aP [.sl .clause,.o] l))] []):=am (cgc (gf.norm [.sl .clause,.o]) cg0) cg0;refine av [.o] mixed ai hG (fn:=Tryz.f116) (c:=aa Tryz.f116) kr kr kr kr (a_ fun s_=>(bH (aR fun q0=>(kU (bI fun k2=>(aR fun q2=>(ah ((ah ((ah (fun hp=>?_))))))))))));dsimp only[an]at hp;refine⟨nbl rfl,L0,ag _,?_⟩
 ·unfold aa Tryz.f116;try unfold dK
  exact SR
@[go_sem] noncomputable def b6:List SV->Option Con:=fun l=>(orC (bV l) (orC (bW l) (orC (bX l) (orC (bY l) (orC (dl l) (dm l))))))
theorem fw:FnOk Tryz.prog 116 b6:=(FnOk.or c9 (FnOk.or da (FnOk.or db (FnOk.or df (FnOk.or ff fg)))))
def iT (k_:PleasCourt)(q:Int)(k2:PleasCourt)(q2:Int):Bool:=(dJ k_.plea.clauses q k2 q2)
@[go_sem] def rG:List SV->Option Con:=(pX .pleasCourt fun k_=>(pI fun q=>(pFn 166 (pXX .pleasCourt fun k2=>(pX .int fun q2=>(pE ((pE (.det True (.v (.bool (iT k_ q k2 q2))))))))))))
theorem SS {p:Prop}(h:p:=by simp only[go_sem,Nat.reduceBEq,Nat.reduceLeDiff,Nat.reduceLT,decide_true,Nat.reduceAdd,Nat.reduceSub,Nat.reduceMul,Int.reduceLE,Int.reduceLT,Int.reduceToNat,Int.reduceNeg,reduceCtorEq,b6];all_goals exact cl):p:=h
theorem wg:FnOk Tryz.prog 164 rG:=by
 have hG:ConsOk Tryz.prog (mkG [(116,fun l=>b6 (aP [.sl .clause,.o] l))] []):=am (cgc (fw.norm [.sl .clause,.o]) cg0) cg0;refine av [.o] mixed ai hG (fn:=Tryz.f164) (c:=aa Tryz.f164) kr kr kr kr (aR fun k_=>(br fun q=>(bH (bI fun k2=>(aR fun q2=>(ah ((ah (fun hp=>?_)))))))));dsimp only[an]at hp;refine⟨nbl rfl,L0,ag _,?_⟩
 ·unfold aa Tryz.f164;try unfold iT
  exact SS
def iU (k_:PleasCourt)(q:Int)(k2:PleasCourt)(q2:Int):Bool:=(dK k_.plea.clauses q k2 q2)
@[go_sem] def rH:List SV->Option Con:=(pX .pleasCourt fun k_=>(pI fun q=>(pFn 174 (pXX .pleasCourt fun k2=>(pX .int fun q2=>(pE ((pE (.det True (.v (.bool (iU k_ q k2 q2))))))))))))
theorem wh:FnOk Tryz.prog 164 rH:=by
 have hG:ConsOk Tryz.prog (mkG [(116,fun l=>b6 (aP [.sl .clause,.o] l))] []):=am (cgc (fw.norm [.sl .clause,.o]) cg0) cg0;refine av [.o] mixed ai hG (fn:=Tryz.f164) (c:=aa Tryz.f164) kr kr kr kr (aR fun k_=>(br fun q=>(bH (bI fun k2=>(aR fun q2=>(ah ((ah (fun hp=>?_)))))))));dsimp only[an]at hp;refine⟨nbl rfl,L0,ag _,?_⟩
 ·unfold aa Tryz.f164;try unfold iU
  exact SS
@[go_sem] noncomputable def ij:List SV->Option Con:=fun l=>(orC (mM l) (orC (mN l) (orC (mO l) (orC (mP l) (orC (rG l) (rH l))))))
theorem mQ:FnOk Tryz.prog 164 ij:=(FnOk.or qo (FnOk.or qp (FnOk.or qq (FnOk.or qr (FnOk.or wg wh)))))
def dg (k_:PleasCourt)(q:Int):Bool:=(bif(bg .int .bool k_.strict q)then true else(bif((bg .int .bool k_.strict (i64.wrap (0 - q))) ||(!(iP k_ q k_)))then false else(!(iT k_ (i64.wrap (0 - q)) k_ q))))
@[go_sem] def rI:List SV->Option Con:=(pX .pleasCourt fun k_=>(pI fun q=>(pE (.det True (.v (.bool (dg k_ q)))))))
theorem OG {p:Prop}(h:p:=by simp only[go_sem,Nat.reduceBEq,Nat.reduceLeDiff,Nat.reduceLT,decide_true,Nat.reduceAdd,Nat.reduceSub,Nat.reduceMul,Int.reduceLE,Int.reduceLT,Int.reduceToNat,Int.reduceNeg,reduceCtorEq,ij];all_goals exact cl):p:=h
theorem wj:FnOk Tryz.prog 132 rI:=by
 have hG:ConsOk Tryz.prog (mkG [(164,ij)] []):=am (cgc mQ cg0) cg0;refine av [.o] mixed ai hG (fn:=Tryz.f132) (c:=aa Tryz.f132) kr kr kr kr (aR fun k_=>(br fun q=>(ah (fun hp=>?_))));dsimp only[an]at hp;refine⟨nbl rfl,L0,ag _,?_⟩
 ·unfold aa Tryz.f132;try unfold dg
  exact OG
def i6 (k_:PleasCourt)(q:Int):Bool:=(bg .int .bool k_.strict (i64.wrap (0 - q)))
@[go_sem] def o5:List SV->Option Con:=(pXX .pleasCourt fun k_=>(pX .int fun q=>(pE (.det True (.v (.bool (i6 k_ q)))))))
theorem uo:FnOk Tryz.prog 170 o5:=by
 have hG:ConsOk Tryz.prog (mkG [] []):=am cg0 cg0;refine av [.o] mixed ai hG (fn:=Tryz.f170) (c:=aa Tryz.f170) kr kr kr kr (bI fun k_=>(aR fun q=>(ah (fun hp=>?_))));dsimp only[an]at hp;refine⟨nbl rfl,L0,ag _,?_⟩
 ·unfold aa Tryz.f170;try unfold i6
  exact zq1
def i7 (k_:PleasCourt)(q:Int):Bool:=(!(iR k_ q k_))
@[go_sem] def o6:List SV->Option Con:=(pXX .pleasCourt fun k_=>(pX .int fun q=>(pE (.det True (.v (.bool (i7 k_ q)))))))
theorem uq:FnOk Tryz.prog 171 o6:=by
 have hG:ConsOk Tryz.prog (mkG [(164,ij)] []):=am (cgc mQ cg0) cg0;refine av [.o] mixed ai hG (fn:=Tryz.f171) (c:=aa Tryz.f171) kr kr kr kr (bI fun k_=>(aR fun q=>(ah (fun hp=>?_))));dsimp only[an]at hp;refine⟨nbl rfl,L0,ag _,?_⟩
 ·unfold aa Tryz.f171;try unfold i7
  exact OG
def i9 (k_:PleasCourt)(q:Int):Bool:=(iU k_ (i64.wrap (0 - q)) k_ q)
@[go_sem] def o7:List SV->Option Con:=(pXX .pleasCourt fun k_=>(pX .int fun q=>(pE (.det True (.v (.bool (i9 k_ q)))))))
theorem ur:FnOk Tryz.prog 173 o7:=by
 have hG:ConsOk Tryz.prog (mkG [(164,ij)] []):=am (cgc mQ cg0) cg0;refine av [.o] mixed ai hG (fn:=Tryz.f173) (c:=aa Tryz.f173) kr kr kr kr (bI fun k_=>(aR fun q=>(ah (fun hp=>?_))));dsimp only[an]at hp;refine⟨nbl rfl,L0,ag _,?_⟩
 ·unfold aa Tryz.f173;try unfold i9
  exact OG
@[go_sem] def CS (x:Int):List SV:=[.v (.int .i64 x)]
@[go_sem] def qE:List SV->Option Con:=(pE (.det True (.fn 159 [] [])))
theorem ub:FnOk Tryz.prog 119 qE:=by
 have hG:ConsOk Tryz.prog (mkG [] []):=am cg0 cg0;refine av [.o] mixed ai hG (fn:=Tryz.f119) (c:=aa Tryz.f119) kr kr kr kr (ah (fun hp=>?_));refine⟨nbl rfl,L0,ag _,?_⟩;unfold aa Tryz.f119;simp only[go_sem,Hq,Hr,Nat.reduceBEq,Nat.reduceLeDiff,Nat.reduceAdd,Nat.reduceSub,Nat.reduceMul]
@[go_sem] def ik (k_0:Nat)(s_0:List Int×Int):(List Int)⊕(List Int×Int):=(bif(decide (s_0.2<=32))then(bif(s_0.2 !=0)then .inr ((s_0.1++[s_0.2]),(i64.wrap (s_0.2+1)))else .inr (s_0.1,(i64.wrap (s_0.2+1))))else .inl s_0.1)
def lV (items_:List (List SV))(k_0:Nat)(s_0:List Int×Int):Prop:=((decide (s_0.2<=32))=true->(((s_0.2 !=0)=true->(items_[s_0.1.length]? =some (CS s_0.2)))/\((s_0.2 !=0)=false->((s_0.2 !=0)=false))))
def ax:List Int:=(match aq (ik) 66 0 (([]:List Int),(-32))with| .inl x_0_0=>x_0_0| .inr s_0=>default)
def eF (items_:List (List SV)):Prop:=(okI (ik) (lV items_) 66 0 (([]:List Int),(-32))/\(∀ z_,aq (ik) 66 0 (([]:List Int),(-32))≠ .inr z_)/\(∀ x_0_0,aq (ik) 66 0 (([]:List Int),(-32))=.inl x_0_0->(items_.length=x_0_0.length)))
theorem sq (items_:List (List SV))(hp:eF items_):GY Tryz.prog 159 (fun y=>[y]) [] items_:=by
 unfold eF at hp;refine OA mixed ai (fn:=Tryz.f159) (c:=aa Tryz.f159) kr kr kr kr rfl (n:=0) rfl (G:=fun r_=>Fc [] [] (Ma items_ r_)) (fun r_ hy=>?_) (fun args w=>by kernel_rfl);have hG:ConsOk Tryz.prog (Fc [] [] (Ma items_ r_)):=Fd cg0 cg0 hy;refine⟨hG,nbl rfl,(fun id st=>bif Nat.beq id 0 then some (UT (ρ:=(List Int)) (σ:=(List Int×Int)) 1 [] [0] (fun k_0 s_0=>⟨[(0,.os 0),(2,.v (.int .i64 s_0.2))],[.ab (r_.1 (s_0.1.length+1))]⟩) (ik) (lV items_) 66 (([]:List Int),(-32)) (fun _=>.normal) (fun x_0_0=>⟨[],[.ab (r_.1 (x_0_0.length+1))]⟩) ⟨[],[.ab (r_.1 0)]⟩ st)else none),?_,?_⟩
 ·unfold aa Tryz.f159;simp only[ak,true_and,and_true]
  ·refine Mb mixed ai hG kr (fun _=>rfl) fun k_0 s_0 hq0=>⟨L0,ag _,?_⟩
   ·unfold lV at hq0;exact UX (jl [0])
 ·unfold aa Tryz.f159;exact UX (jl [0])
def pL (q:Int)(m:List (Int×Bool)):Bool:=(!(bg .int .bool m q))
@[go_sem] def uZ:List SV->Option Con:=(pI fun q=>(pXM .int .bool fun m=>(pE (.det True (.v (.bool (pL q m)))))))
theorem zh:FnOk Tryz.prog 158 uZ:=by
 have hG:ConsOk Tryz.prog (mkG [] []):=am cg0 cg0;refine av [.o] mixed ai hG (fn:=Tryz.f158) (c:=aa Tryz.f158) kr kr kr kr (br fun q=>(Fq fun m=>(ah (fun hp=>?_))));dsimp only[an]at hp;refine⟨nbl rfl,L0,ag _,?_⟩
 ·unfold aa Tryz.f158;try unfold pL
  exact zq1
@[go_sem] def kR (s_:List Int)(m:List (Int×Bool))(k_0:Nat)(s_0:Unit):Int⊕Unit:=(bif(pL (s_.getD k_0 0) m)then .inl (k_0:Int)else .inr ())
def gh (s_:List Int)(m:List (Int×Bool)):Int:=(match aq (kR s_ m) s_.length 0 ()with| .inl x_0_0=>x_0_0| .inr s_0=>(-1))
@[go_sem] def lF:List SV->Option Con:=(pR .int fun s_=>(pFn 158 (pXM .int .bool fun m=>(pE ((pE (.det True (.v (.int .i64 (gh s_ m))))))))))
theorem rJ:FnOk Tryz.prog 203 lF:=by
 have hG:ConsOk Tryz.prog (mkG [(158,uZ)] []):=am (cgc zh cg0) cg0;refine av [.o] mixed ai hG (fn:=Tryz.f203) (c:=aa Tryz.f203) kr kr kr kr (a_ fun s_=>(bH (Fq fun m=>(ah ((ah (fun hp=>?_)))))));dsimp only[an]at hp;refine⟨nbl rfl,(fun id st=>bif Nat.beq id 0 then some (LCR (ρ:=Int) (σ:=Unit) 0 [] [] (fun k_0 s_0=>⟨[(0,.rs .int s_),(1,.fn 158 [] [.ep [.rm .int .bool m] 0]),(7,.v (.int .i64 (s_.length:Int))),(8,.v (.int .i64 (k_0:Int)))],[]⟩) (kR s_ m) pT s_.length () (s_.length<=aA) (fun _=>.ret) (fun x_0_0=>⟨[(4,.v (.int .i64 x_0_0))],[]⟩) st)else none),?_,?_⟩
 ·unfold aa Tryz.f203;simp only[ak,true_and,and_true]
  ·refine bh mixed ai hG kr (fun _=>rfl) (s_.length:Int) rfl dV (fun hb0 k_0 s_0 hlt0 _ hw hc=>⟨L0,ag _,?_⟩) (fun hb0 s_0 hc=>?_)
   ·exact aL (jl [])
   ·exact aK (jl [])
 ·unfold aa Tryz.f203;try unfold gh
  exact zq1
@[go_sem] noncomputable def ix:List SV->Option Con:=fun l=>(orC (iN l) (orC (ia l) (lF l)))
theorem r5:FnOk Tryz.prog 203 ix:=(FnOk.or mm (FnOk.or kQ rJ))
def bT (s_:List Int)(m:List (Int×Bool)):Bool:=(decide ((gh s_ m)>=0))
@[go_sem] def jW:List SV->Option Con:=(pR .int fun s_=>(pFn 158 (pXM .int .bool fun m=>(pE ((pE (.det True (.v (.bool (bT s_ m))))))))))
theorem Zy {p:Prop}(h:p:=by simp only[go_sem,Nat.reduceBEq,Nat.reduceLeDiff,Nat.reduceLT,decide_true,Nat.reduceAdd,Nat.reduceSub,Nat.reduceMul,Int.reduceLE,Int.reduceLT,Int.reduceToNat,Int.reduceNeg,reduceCtorEq,ix];all_goals exact cl):p:=h
theorem pN:FnOk Tryz.prog 157 jW:=by
 have hG:ConsOk Tryz.prog (mkG [(203,fun l=>ix (aP [.sl .int,.o] l))] []):=am (cgc (r5.norm [.sl .int,.o]) cg0) cg0;refine av [.o] mixed ai hG (fn:=Tryz.f157) (c:=aa Tryz.f157) kr kr kr kr (a_ fun s_=>(bH (Fq fun m=>(ah ((ah (fun hp=>?_)))))));dsimp only[an]at hp;refine⟨nbl rfl,L0,ag _,?_⟩
 ·unfold aa Tryz.f157;try unfold bT
  exact Zy
@[go_sem] noncomputable def gK:List SV->Option Con:=fun l=>(orC (gX l) (orC (gD l) (jW l)))
theorem qj:FnOk Tryz.prog 157 gK:=(FnOk.or ky (FnOk.or jB pN))
@[go_sem] def ic (p:Plea)(k_0:Nat)(s_0:List (Int×Bool)):Empty⊕(List (Int×Bool)):=.inr (iH .int .bool s_0 (p.facts.getD k_0 0) true)
@[go_sem] def lG (p:Plea)(s_1:List (Int×Bool))(k_2:Nat)(s_2:Unit):(List (Int×Bool))⊕Unit:=letI q0:=p.clauses.getD k_2 default;(bif((q0.strict&&(!(bg .int .bool s_1 (q0.then_))))&&(!(bT (q0.if_) s_1)))then .inl (iH .int .bool s_1 (q0.then_) true)else .inr ())
@[go_sem] def ji (p:Plea)(k_1:Nat)(s_1:List (Int×Bool)):(List (Int×Bool))⊕(List (Int×Bool)):=(match aq (lG p s_1) p.clauses.length 0 ()with| .inl x_2_0=>.inr x_2_0| .inr s_2=>.inl s_1)
def bt (p:Plea):List (Int×Bool):=(match aq (ic p) p.facts.length 0 ([])with| .inl x=>x.elim| .inr s_0=>(match aq (ji p) (p.clauses.length+1) 0 s_0 with| .inl x_1_0=>x_1_0| .inr s_1=>default))
def gZ (p:Plea):Prop:=(p.facts.length<=aA->(∀ s_0,aq (ic p) p.facts.length 0 ([])=.inr s_0->(∀ z_,aq (ji p) (p.clauses.length+1) 0 s_0≠ .inr z_)))
@[go_sem] def th:List SV->Option Con:=(pD .plea fun p=>(pE (.det (gZ p) (.nm .int .bool (bt p)))))
theorem Zz {p:Prop}(h:p:=by simp only[go_sem,Nat.reduceBEq,Nat.reduceLeDiff,Nat.reduceLT,decide_true,Nat.reduceAdd,Nat.reduceSub,Nat.reduceMul,Int.reduceLE,Int.reduceLT,Int.reduceToNat,Int.reduceNeg,reduceCtorEq,gK];all_goals exact cl):p:=h
theorem vW:FnOk Tryz.prog 118 th:=by
 have hG:ConsOk Tryz.prog (mkG [(157,fun l=>gK (aP [.sl .int,.o] l))] []):=am (cgc (qj.norm [.sl .int,.o]) cg0) cg0;refine Ci true mixed ai hG (fn:=Tryz.f118) (c:=aa Tryz.f118) kr kr kr kr (aF fun p=>(ah (fun hp=>?_)));dsimp only[an]at hp;unfold gZ at hp;refine⟨nbl rfl,(fun id st=>bif Nat.beq id 0 then some (LCR (ρ:=Empty) (σ:=(List (Int×Bool))) 3 [] [0,1,2] (fun k_0 s_0=>⟨[(1,.ptr 0 0),(3,.ptr 2 0),(11,.rs .int p.facts),(12,.v (.int .i64 (p.facts.length:Int))),(13,.v (.int .i64 (k_0:Int)))],[.cells (cellsOf .plea p),.mp .int .bool s_0 none,.cells [.os 1]]⟩) (ic p) pT p.facts.length ([]) (p.facts.length<=aA) ((·.elim)) ((·.elim)) st)else bif Nat.beq id 2 then some (LCV (ρ:=(List (Int×Bool))) (σ:=(List (Int×Bool))) 3 [] [0,1,2] (fun k_1 s_1=>⟨[(1,.ptr 0 0),(3,.ptr 2 0)],[.cells (cellsOf .plea p),.mp .int .bool s_1 none,.cells [.os 1]]⟩) (ji p) pT (p.clauses.length+1) (dQ (aq (ic p) p.facts.length 0 ([]))) (fun _=>.ret) (fun x_1_0=>⟨[(2,.os 3)],[.dead,.dead,.dead,.mp .int .bool x_1_0 none]⟩) st)else none),?_,?_⟩
 ·unfold aa Tryz.f118;simp only[ak,true_and,and_true];refine⟨?_,?_⟩
  ·refine bh mixed ai hG kr (fun _=>rfl) (p.facts.length:Int) rfl dV (fun hb0 k_0 s_0 hlt0 _ hw hc=>⟨L0,ag _,?_⟩) (fun hb0 s_0 hc=>?_)
   ·exact aL (jl [0,1,2])
   ·exact aK (jl [0,1,2])
  ·refine pj mixed ai hG kr (fun _=>rfl) fun k_1 s_1 _=>⟨(fun id st=>bif Nat.beq id 4 then some (LCR (ρ:=(List (Int×Bool))) (σ:=Unit) 3 [] [0,1,2] (fun k_2 s_2=>⟨[(1,.ptr 0 0),(3,.ptr 2 0),(21,.rs .clause p.clauses),(22,.v (.int .i64 (p.clauses.length:Int))),(23,.v (.int .i64 (k_2:Int)))],[.cells (cellsOf .plea p),.mp .int .bool s_1 none,.cells [.os 1]]⟩) (lG p s_1) pT p.clauses.length () (p.clauses.length<=aA) (fun _=>.exit 3) (fun x_2_0=>⟨[(1,.ptr 0 0),(3,.ptr 2 0)],[.cells (cellsOf .plea p),.mp .int .bool x_2_0 none,.cells [.os 1]]⟩) st)else none),?_,?_⟩
   ·simp only[ak,true_and,and_true]
    ·refine bh mixed ai hG kr (fun _=>rfl) (p.clauses.length:Int) rfl dV (fun hb2 k_2 s_2 hlt2 _ hw hc=>⟨L0,ag _,?_⟩) (fun hb2 s_2 hc=>?_)
     ·exact aL (jl [0,1,2])
     ·exact aK (jl [0,1,2])
   ·exact zf (jl [0,1,2]) (jl [0,1,2,1])
 ·unfold aa Tryz.f118;try unfold bt
  exact Zz
@[go_sem] def f_ (s_:List Clause)(k_0:Nat)(s_0:Unit):Int⊕Unit:=(bif(iB (s_.getD k_0 default))then .inl (k_0:Int)else .inr ())
def ei (s_:List Clause):Int:=(match aq (f_ s_) s_.length 0 ()with| .inl x_0_0=>x_0_0| .inr s_0=>(-1))
@[go_sem] def gi:List SV->Option Con:=(pR .clause fun s_=>(pFn 115 (pE ((pE (.det True (.v (.int .i64 (ei s_)))))))))
theorem kL:FnOk Tryz.prog 156 gi:=by
 have hG:ConsOk Tryz.prog (mkG [(115,fun l=>vV (aP [.st .clause] l))] []):=am (cgc (Ad.norm [.st .clause]) cg0) cg0;refine av [.o] mixed ai hG (fn:=Tryz.f156) (c:=aa Tryz.f156) kr kr kr kr (a_ fun s_=>(bH (ah ((ah (fun hp=>?_))))));dsimp only[an]at hp;refine⟨nbl rfl,(fun id st=>bif Nat.beq id 0 then some (LCR (ρ:=Int) (σ:=Unit) 0 [] [] (fun k_0 s_0=>⟨[(0,.rs .clause s_),(1,.fn 115 [] []),(7,.v (.int .i64 (s_.length:Int))),(8,.v (.int .i64 (k_0:Int)))],[]⟩) (f_ s_) pT s_.length () (s_.length<=aA) (fun _=>.ret) (fun x_0_0=>⟨[(4,.v (.int .i64 x_0_0))],[]⟩) st)else none),?_,?_⟩
 ·unfold aa Tryz.f156;simp only[ak,true_and,and_true]
  ·refine bh mixed ai hG kr (fun _=>rfl) (s_.length:Int) rfl dV (fun hb0 k_0 s_0 hlt0 _ hw hc=>⟨L0,ag _,?_⟩) (fun hb0 s_0 hc=>?_)
   ·exact aL (jl [])
   ·exact aK (jl [])
 ·unfold aa Tryz.f156;try unfold ei
  exact zq1
@[go_sem] noncomputable def dZ:List SV->Option Con:=fun l=>(orC (bD l) (orC (cd l) (orC (ce l) (orC (cg l) (orC (ci l) (orC (dT l) (orC (dU l) (gi l))))))))
theorem li:FnOk Tryz.prog 156 dZ:=(FnOk.or b8 (FnOk.or dB (FnOk.or dC (FnOk.or dD (FnOk.or dE (FnOk.or f7 (FnOk.or f9 kL)))))))
def bB (s_:List Clause):Bool:=(decide ((ei s_)>=0))
@[go_sem] def fA:List SV->Option Con:=(pR .clause fun s_=>(pFn 115 (pE ((pE (.det True (.v (.bool (bB s_)))))))))
theorem ZA {p:Prop}(h:p:=by simp only[go_sem,Nat.reduceBEq,Nat.reduceLeDiff,Nat.reduceLT,decide_true,Nat.reduceAdd,Nat.reduceSub,Nat.reduceMul,Int.reduceLE,Int.reduceLT,Int.reduceToNat,Int.reduceNeg,reduceCtorEq,dZ];all_goals exact cl):p:=h
theorem jN:FnOk Tryz.prog 116 fA:=by
 have hG:ConsOk Tryz.prog (mkG [(156,fun l=>dZ (aP [.sl .clause,.o] l))] []):=am (cgc (li.norm [.sl .clause,.o]) cg0) cg0;refine av [.o] mixed ai hG (fn:=Tryz.f116) (c:=aa Tryz.f116) kr kr kr kr (a_ fun s_=>(bH (ah ((ah (fun hp=>?_))))));dsimp only[an]at hp;refine⟨nbl rfl,L0,ag _,?_⟩
 ·unfold aa Tryz.f116;try unfold bB
  exact ZA
@[go_sem] noncomputable def bw:List SV->Option Con:=fun l=>(orC (bV l) (orC (bW l) (orC (bX l) (orC (bY l) (orC (dl l) (orC (dm l) (fA l)))))))
theorem jZ:FnOk Tryz.prog 116 bw:=(FnOk.or c9 (FnOk.or da (FnOk.or db (FnOk.or df (FnOk.or ff (FnOk.or fg jN))))))
@[go_sem] def kA (a0:Plea)(k_0:Nat)(s_0:Bool×Int):Empty⊕(Bool×Int):=letI q0:=a0.clauses.getD k_0 default;.inr (((((((s_0.1&&(decide (q0.no > s_0.2)))&&(decide (q0.no<=1048576)))&&(gQ (q0.then_)))&&(decide (q0.rank>=0)))&&(decide (q0.rank<=1048576)))&&(jz (q0.if_))),q0.no)
def kB (a0:Plea)(k_0:Nat)(s_0:Bool×Int):Prop:=letI q0:=a0.clauses.getD k_0 default;((((((s_0.1&&(decide (q0.no > s_0.2)))&&(decide (q0.no<=1048576)))&&(gQ (q0.then_)))&&(decide (q0.rank>=0)))&&(decide (q0.rank<=1048576)))=true->(iM (q0.if_)))
@[go_sem] def mR (a0:Plea)(z_1:Int)(s_1:Unit):Unit⊕Unit:=(bif((bg .int .bool (bt a0) z_1)&&(bg .int .bool (bt a0) (i64.wrap (0 - z_1))))then .inl ()else .inr ())
def Ae (a0:Plea)(z_1:Int)(s_1:Unit):Prop:=True
def gq (a0:Plea):Int:=(bif(((decide ((a0.facts.length:Int) > 64)) ||(decide ((a0.clauses.length:Int) > 64))) ||(bB a0.clauses))then 2 else(match aq (kA a0) a0.clauses.length 0 ((jz a0.facts),(-1))with| .inl x=>x.elim| .inr s_0=>(bif(!s_0.1)then 510 else(match kf (mR a0) ax ()with| .inl x_1_0=>510| .inr s_1=>0))))
def iC (a0:Plea):Prop:=letI q0:=((jz a0.facts),(-1));letI q1:=kA a0;(a0.facts.length<=aA->((((decide ((a0.facts.length:Int) > 64)) ||(decide ((a0.clauses.length:Int) > 64))) ||(bB a0.clauses))=false->((iM a0.facts)/\(a0.clauses.length<=aA->(okI q1 (kB a0) a0.clauses.length 0 q0/\(∀ s_0,aq q1 a0.clauses.length 0 q0=.inr s_0->((!s_0.1)=false->((gZ a0)/\(eF ((ax).map CS))))))))))
@[go_sem] def qU:List SV->Option Con:=(pD .plea fun a0=>(pE (.det (iC a0) (.v (.int .i64 (gq a0))))))
theorem ZB {l0:List Nat}(a0:JL l0){p:Prop}(h:JL l0->p:=by intro ja;simp only[go_sem,Nat.reduceBEq,Nat.reduceLeDiff,Nat.reduceLT,decide_true,Nat.reduceAdd,Nat.reduceSub,Nat.reduceMul,Int.reduceLE,Int.reduceLT,Int.reduceToNat,Int.reduceNeg,reduceCtorEq,bw,mR,psT,CS,List.cons_append,List.nil_append];all_goals exact jr ja):p:=h a0
theorem SU {l0:List Nat}(a0:JL l0){p:Prop}(h:JL l0->p:=by intro ja;simp only[go_sem,Nat.reduceBEq,Nat.reduceLeDiff,Nat.reduceLT,decide_true,Nat.reduceAdd,Nat.reduceSub,Nat.reduceMul,Int.reduceLE,Int.reduceLT,Int.reduceToNat,Int.reduceNeg,reduceCtorEq,bw];all_goals exact jr ja):p:=h a0
theorem ZC {p:Prop}(h:p:=by simp only[go_sem,Nat.reduceBEq,Nat.reduceLeDiff,Nat.reduceLT,decide_true,Nat.reduceAdd,Nat.reduceSub,Nat.reduceMul,Int.reduceLE,Int.reduceLT,Int.reduceToNat,Int.reduceNeg,reduceCtorEq,bw];all_goals exact cl):p:=h
theorem tj:FnOk Tryz.prog 67 qU:=by
 have hG:ConsOk Tryz.prog (mkG [(83,oy),(116,fun l=>bw (aP [.sl .clause,.o] l)),(117,fun l=>w6 (aP [.sl .int] l)),(118,fun l=>th (aP [.st .plea] l)),(119,fun l=>qE (aP [] l))] []):=am (cgc qD (cgc (jZ.norm [.sl .clause,.o]) (cgc (AY.norm [.sl .int]) (cgc (vW.norm [.st .plea]) (cgc (ub.norm []) cg0))))) cg0;refine av [.o] mixed ai hG (fn:=Tryz.f67) (c:=aa Tryz.f67) kr kr kr kr (aF fun a0=>(ah (fun hp=>?_)));dsimp only[an]at hp;unfold iC at hp;refine⟨nbl rfl,(fun id st=>bif Nat.beq id 0 then some (LCR (ρ:=Empty) (σ:=(Bool×Int)) 2 [] [0,1] (fun k_0 s_0=>⟨[(1,.ptr 0 0),(2,.ptr 1 0),(4,.v (.bool s_0.1)),(5,.v (.int .i64 s_0.2)),(30,.rs .clause a0.clauses),(31,.v (.int .i64 (a0.clauses.length:Int))),(32,.v (.int .i64 (k_0:Int)))],[.cells (cellsOf .plea a0),.cells [.v (.int .i64 0)]]⟩) (kA a0) (kB a0) a0.clauses.length ((jz a0.facts),(-1)) (a0.clauses.length<=aA) ((·.elim)) ((·.elim)) st)else bif Nat.beq id 2 then some (LC (ρ:=Unit) (σ:=Unit) (lk 2 st.t=.ptr 1 0/\lk 8 st.t=.ptr 3 0/\lk 75 st.t=.fn 159 [] []/\st.h=[.cells (cellsOf .plea a0),.cells [.v (.int .i64 0)],.mp .int .bool (bt a0) none,.cells [.os 2]]/\eF ((ax).map CS)) (kf (mR a0) ax ()) (fun _=>.ret) (fun x_1_0=>⟨[(2,.ptr 1 0),(8,.ptr 3 0)],[.dead,.cells [.v (.int .i64 510)],.mp .int .bool (bt a0) none,.cells [.os 2]]⟩) (fun s_1=>⟨[(2,.ptr 1 0),(8,.ptr 3 0)],[.dead,.cells [.v (.int .i64 0)],.mp .int .bool (bt a0) none,.cells [.os 2]]⟩))else none),?_,?_⟩
 ·unfold aa Tryz.f67;simp only[ak,true_and,and_true];refine⟨?_,?_⟩
  ·refine bh mixed ai hG kr (fun _=>rfl) (a0.clauses.length:Int) rfl dV (fun hb0 k_0 s_0 hlt0 hq0 hw hc=>⟨L0,ag _,?_⟩) (fun hb0 s_0 hc=>?_)
   ·unfold kB at hq0;try simp only[hw,Int.toNat_natCast]at hq0
    exact aL (jl [0,1])
   ·exact aK (jl [0,1])
  ·refine zY mixed ai hG (by decide) (by decide) kr kr fun st lc hC hp=>?_;simp only[go_sem,Nat.reduceBEq,Option.some.injEq]at hC;subst hC;obtain⟨t,h⟩:=st;dsimp only[LC]at hp;obtain⟨e1_0,e1_1,e1_2,rfl,hb1⟩:=hp;refine⟨159,[],Int,_,_,ax,CS,(mR a0),(Ae a0),_,(),_,_,_,[(2,.ptr 1 0),(8,.ptr 3 0)],(fun s_1=>[.dead,.cells [.v (.int .i64 0)],.mp .int .bool (bt a0) none,.cells [.os 2]]),(fun x_1_0=>[.dead,.cells [.v (.int .i64 510)],.mp .int .bool (bt a0) none,.cells [.os 2]]),[0,1,2,3],?_,rfl,Kt _ _ fun _ _ _=>trivial,nbl rfl,?_,sq _ hb1,fun z_1 s_1 hq1=>⟨rfl,L0,fun l=>?_,fun l=>?_,?_⟩,fun s_1=>?_,fun y=>?_⟩
   ·simp only[go_sem,e1_0,e1_1,e1_2]
   ·simp only[go_sem,Nat.reduceBEq,Nat.reduceLeDiff,Nat.reduceLT,decide_true,Nat.reduceAdd,Nat.reduceSub,Nat.reduceMul,Int.reduceLE,Int.reduceLT,Int.reduceToNat,Int.reduceNeg,reduceCtorEq,wI,oG,List.flatMap_cons,List.flatMap_nil,List.nil_append,List.append_nil,List.map_nil,e1_0,e1_1,e1_2];all_goals (first|done|decide|(repeat' (first|refine And.intro ?_ ?_|rfl|decide)))
   ·simp only[ak,and_self,true_and,and_true]
   ·simp only[ak,and_self,true_and,and_true]
   ·skip
    exact ZB (jl [0,1,2,3])
   ·exact SU (jl [0,1,2,3])
   ·exact SU (jl [0,1,2,3])
 ·unfold aa Tryz.f67;try unfold gq
  exact ZC
def cH (k1:PleasCourt)(q1:Int):Bool:=(i6 k1 q1)
@[go_sem] def nR:List SV->Option Con:=(pFn 170 (pXX .pleasCourt fun k1=>(pX .int fun q1=>(pE ((pE (.det True (.v (.bool (cH k1 q1))))))))))
theorem tl:FnOk Tryz.prog 177 nR:=by
 have hG:ConsOk Tryz.prog (mkG [(170,o5)] []):=am (cgc uo cg0) cg0;refine av [.o] mixed ai hG (fn:=Tryz.f177) (c:=aa Tryz.f177) kr kr kr kr (bH (bI fun k1=>(aR fun q1=>(ah ((ah (fun hp=>?_)))))));dsimp only[an]at hp;refine⟨nbl rfl,L0,ag _,?_⟩
 ·unfold aa Tryz.f177;try unfold cH
  exact zq1
def cI (k2:PleasCourt)(q2:Int):Bool:=(i7 k2 q2)
@[go_sem] def nS:List SV->Option Con:=(pFn 171 (pXX .pleasCourt fun k2=>(pX .int fun q2=>(pE ((pE (.det True (.v (.bool (cI k2 q2))))))))))
theorem tn:FnOk Tryz.prog 177 nS:=by
 have hG:ConsOk Tryz.prog (mkG [(171,o6)] []):=am (cgc uq cg0) cg0;refine av [.o] mixed ai hG (fn:=Tryz.f177) (c:=aa Tryz.f177) kr kr kr kr (bH (bI fun k2=>(aR fun q2=>(ah ((ah (fun hp=>?_)))))));dsimp only[an]at hp;refine⟨nbl rfl,L0,ag _,?_⟩
 ·unfold aa Tryz.f177;try unfold cI
  exact zq1
def cJ (k3:PleasCourt)(q3:Int):Bool:=(i9 k3 q3)
@[go_sem] def nT:List SV->Option Con:=(pFn 173 (pXX .pleasCourt fun k3=>(pX .int fun q3=>(pE ((pE (.det True (.v (.bool (cJ k3 q3))))))))))
theorem tq:FnOk Tryz.prog 177 nT:=by
 have hG:ConsOk Tryz.prog (mkG [(173,o7)] []):=am (cgc ur cg0) cg0;refine av [.o] mixed ai hG (fn:=Tryz.f177) (c:=aa Tryz.f177) kr kr kr kr (bH (bI fun k3=>(aR fun q3=>(ah ((ah (fun hp=>?_)))))));dsimp only[an]at hp;refine⟨nbl rfl,L0,ag _,?_⟩
 ·unfold aa Tryz.f177;try unfold cJ
  exact zq1
@[go_sem] noncomputable def gR:List SV->Option Con:=fun l=>(orC (nR l) (orC (nS l) (nT l)))
theorem tI:FnOk Tryz.prog 177 gR:=(FnOk.or tl (FnOk.or tn tq))
@[go_sem] def bO (k1:PleasCourt)(q1:Int)(k2:PleasCourt)(q2:Int)(k3:PleasCourt)(q3:Int)(k_0:Nat)(s_0:Unit):Int⊕Unit:=(bif(Nat.beq k_0 0)then(bif(cH k1 q1)then .inl 0 else .inr ())else(bif(Nat.beq k_0 1)then(bif(cI k2 q2)then .inl 1 else .inr ())else(bif(cJ k3 q3)then .inl 2 else .inr ())))
def gu (k1:PleasCourt)(q1:Int)(k2:PleasCourt)(q2:Int)(k3:PleasCourt)(q3:Int)(k_0:Nat)(s_0:Unit):Prop:=True
def b9 (k1:PleasCourt)(q1:Int)(k2:PleasCourt)(q2:Int)(k3:PleasCourt)(q3:Int):Int:=(match aq (bO k1 q1 k2 q2 k3 q3) 3 0 ()with| .inl x_0_0=>x_0_0| .inr s_0=>(-1))
@[go_sem] def g0:List SV->Option Con:=(pLS (pFn 170 (pXX .pleasCourt fun k1=>(pX .int fun q1=>(pE ((pFn 171 (pXX .pleasCourt fun k2=>(pX .int fun q2=>(pE ((pFn 173 (pXX .pleasCourt fun k3=>(pX .int fun q3=>(pE ((pE ((pFn 177 (pE ((pE (.det True (.v (.int .i64 (b9 k1 q1 k2 q2 k3 q3))))))))))))))))))))))))))
theorem ZD {p:Prop}(h:p:=by simp only[go_sem,Nat.reduceBEq,Nat.reduceLeDiff,Nat.reduceLT,decide_true,Nat.reduceAdd,Nat.reduceSub,Nat.reduceMul,Int.reduceLE,Int.reduceLT,Int.reduceToNat,Int.reduceNeg,reduceCtorEq,gR];all_goals exact cl):p:=h
theorem mz:FnOk Tryz.prog 210 g0:=by
 have hG:ConsOk Tryz.prog (mkG [(177,gR)] []):=am (cgc tI cg0) cg0;refine av [.o] mixed ai hG (fn:=Tryz.f210) (c:=aa Tryz.f210) kr kr kr kr (Kz (bH (bI fun k1=>(aR fun q1=>(ah ((bH (bI fun k2=>(aR fun q2=>(ah ((bH (bI fun k3=>(aR fun q3=>(ah ((ah ((bH (ah ((ah (fun hp=>?_)))))))))))))))))))))));dsimp only[an]at hp;refine⟨nbl rfl,(fun id st=>bif Nat.beq id 0 then some (LC (ρ:=Int) (σ:=Unit) (lk 0 st.t=.ls [.fn 170 [] [.ep [.ep (cellsOf .pleasCourt k1) 0] 0,.ep [.v (.int .i64 q1)] 0],.fn 171 [] [.ep [.ep (cellsOf .pleasCourt k2) 0] 0,.ep [.v (.int .i64 q2)] 0],.fn 173 [] [.ep [.ep (cellsOf .pleasCourt k3) 0] 0,.ep [.v (.int .i64 q3)] 0]]/\lk 1 st.t=.fn 177 [] []/\lk 7 st.t=.v (.int .i64 3)/\lk 8 st.t=.v (.int .i64 0)/\st.h=[]) (aq (bO k1 q1 k2 q2 k3 q3) 3 0 ()) (fun _=>.ret) (fun x_0_0=>⟨[(4,.v (.int .i64 x_0_0))],[]⟩) (fun s_0=>⟨[],[]⟩))else none),?_,?_⟩
 ·unfold aa Tryz.f210;simp only[ak,true_and,and_true]
  ·refine LY mixed ai hG kr fun st lc hC hp=>?_;simp only[go_sem,Nat.reduceBEq,Option.some.injEq]at hC;subst hC;obtain⟨t,h⟩:=st;dsimp only[LC]at hp;obtain⟨e0_0,e0_1,e0_2,e0_3,rfl⟩:=hp;refine⟨_,_,_,(bO k1 q1 k2 q2 k3 q3),(gu k1 q1 k2 q2 k3 q3),3,(),_,_,_,(fun k_0 s_0=>⟨[(0,.ls [.fn 170 [] [.ep [.ep (cellsOf .pleasCourt k1) 0] 0,.ep [.v (.int .i64 q1)] 0],.fn 171 [] [.ep [.ep (cellsOf .pleasCourt k2) 0] 0,.ep [.v (.int .i64 q2)] 0],.fn 173 [] [.ep [.ep (cellsOf .pleasCourt k3) 0] 0,.ep [.v (.int .i64 q3)] 0]]),(1,.fn 177 [] []),(7,.v (.int .i64 3)),(8,.v (.int .i64 (k_0:Int)))],[]⟩),⟨t,[]⟩,[],rfl,j4 _ _ _ fun _ _ _ _=>trivial,NilS.refl _,nbl rfl,?_,fun k_0 s_0 hk0 hp0=>?_⟩
   ·simp only[go_sem,Nat.reduceBEq,Nat.reduceLeDiff,Nat.reduceLT,decide_true,Nat.reduceAdd,Nat.reduceSub,Nat.reduceMul,Int.reduceLE,Int.reduceLT,Int.reduceToNat,Int.reduceNeg,reduceCtorEq,e0_0,e0_1,e0_2,e0_3];all_goals (first|done|decide|(repeat' (first|refine And.intro ?_ ?_|rfl|decide)))
   refine⟨L0,?_,?_⟩
   ·simp only[ak,and_self,true_and,and_true]
   ·have hkk:k_0=0\/k_0=1\/k_0=2\/k_0=3:=by omega
    have hw0_0:i64.wrap ((0:Int)+1)=((0+1:Nat):Int):=by decide
    have hw0_1:i64.wrap ((1:Int)+1)=((1+1:Nat):Int):=by decide
    have hw0_2:i64.wrap ((2:Int)+1)=((2+1:Nat):Int):=by decide
    rcases hkk with rfl|rfl|rfl|rfl;all_goals try (have hq0:=hp0 (by decide))
    all_goals try unfold gu at hq0
    all_goals try simp only[go_sem,Nat.reduceBEq,Nat.reduceEqDiff,cond_true,cond_false,true_imp_iff,false_imp_iff,Bool.false_eq_true,true_and,and_true,reduceCtorEq]at hq0
    all_goals simp only[go_sem,Nat.reduceBEq,Nat.reduceLeDiff,Nat.reduceLT,decide_true,Nat.reduceAdd,Nat.reduceSub,Nat.reduceMul,Int.reduceLE,Int.reduceLT,Int.reduceToNat,Int.reduceNeg,reduceCtorEq,gR,bO,Int.cast_ofNat_Int,Nat.reduceLT,Nat.reduceEqDiff]
    all_goals exact jr (jl [])
 ·unfold aa Tryz.f210;try unfold b9
  exact ZD
def bP (k1:PleasCourt)(q1:Int)(k2:PleasCourt)(q2:Int)(k3:PleasCourt)(q3:Int):Bool:=(decide ((b9 k1 q1 k2 q2 k3 q3)>=0))
@[go_sem] def gw:List SV->Option Con:=(pLS (pFn 170 (pXX .pleasCourt fun k1=>(pX .int fun q1=>(pE ((pFn 171 (pXX .pleasCourt fun k2=>(pX .int fun q2=>(pE ((pFn 173 (pXX .pleasCourt fun k3=>(pX .int fun q3=>(pE ((pE ((pFn 177 (pE ((pE (.det True (.v (.bool (bP k1 q1 k2 q2 k3 q3))))))))))))))))))))))))))
theorem lj:FnOk Tryz.prog 176 gw:=by
 have hG:ConsOk Tryz.prog (mkG [(210,g0)] []):=am (cgc mz cg0) cg0;refine av [.o] mixed ai hG (fn:=Tryz.f176) (c:=aa Tryz.f176) kr kr kr kr (Kz (bH (bI fun k1=>(aR fun q1=>(ah ((bH (bI fun k2=>(aR fun q2=>(ah ((bH (bI fun k3=>(aR fun q3=>(ah ((ah ((bH (ah ((ah (fun hp=>?_)))))))))))))))))))))));dsimp only[an]at hp;refine⟨nbl rfl,L0,ag _,?_⟩
 ·unfold aa Tryz.f176;try unfold bP
  exact zq1
def cL (k_:PleasCourt)(q:Int):Bool:=((!(bg .int .bool k_.strict q))&&(bP k_ q k_ q k_ q))
@[go_sem] def qs:List SV->Option Con:=(pX .pleasCourt fun k_=>(pI fun q=>(pE (.det True (.v (.bool (cL k_ q)))))))
theorem vO:FnOk Tryz.prog 134 qs:=by
 have hG:ConsOk Tryz.prog (mkG [(176,gw)] []):=am (cgc lj cg0) cg0;refine av [.o] mixed ai hG (fn:=Tryz.f134) (c:=aa Tryz.f134) kr kr kr kr (aR fun k_=>(br fun q=>(ah (fun hp=>?_))));dsimp only[an]at hp;refine⟨nbl rfl,L0,ag _,?_⟩
 ·unfold aa Tryz.f134;try unfold cL
  exact zq1
def U1 (k:Option HCon):List Ob->Option HCon
 | [] =>k
 |_=>none
@[go_sem] theorem ZE {k:Option HCon}:U1 k []=k:=(rfl)
theorem OH {k:Option HCon}{h:List Ob}{c:HCon}(e:U1 k h=some c):h=[]/\k=some c:=by
 cases h with
 |nil=>exact⟨rfl,e⟩
 |cons=>cases e
@[go_sem] def U2 (p:Plea)(st:List (Int×Bool))(kn:List (Int×Int)):List Ob:=[.cells [.rs .int p.facts,.rs .clause p.clauses,.os 1,.os 2],.mp .int .bool st none,.mp .int .int kn none]
@[go_sem] noncomputable def qF:List SV->List Ob->Option HCon:=fun l h=>U1 (pD .plea (fun p=>pE (je (gZ p) (.ptr 0 0) (U2 p (bt p) []))) l) h
theorem zi:FnOkO Tryz.prog 84 qF:=by
 have hG:ConsOk Tryz.prog (mkG [(118,fun l=>th (aP [.st .plea] l))] []):=am (cgc (vW.norm [.st .plea]) cg0) cg0;refine oe mixed ai hG (fn:=Tryz.f84) (c:=aa Tryz.f84) kr kr kr kr fun l o con h=>?_;unfold qF at h;obtain⟨rfl,h⟩:=OH h;obtain⟨p,r1,rfl,h1⟩:=ND h;obtain⟨rfl,rfl⟩:=Ck h1;clear h h1;refine⟨_,_,_,rfl,fun hp=>?_⟩;refine⟨nbl rfl,L0,ag _,?_⟩;unfold aa Tryz.f84;simp only[go_sem,Nat.reduceBEq,Nat.reduceLeDiff,Nat.reduceLT,decide_true,Nat.reduceAdd,Nat.reduceSub,Nat.reduceMul,Int.reduceLE,Int.reduceLT,Int.reduceToNat,Int.reduceNeg,reduceCtorEq];refine⟨hp,rfl,?_⟩;exact fk (jl [3,1,2])
def ew (x:Reason)(facts:List Int)(clauses:List Clause)(strict_:List (Int×Bool))(known_:List (Int×Int)):List (Int×Int):=(bif x.proved then(iH .int .int (iH .int .int known_ x.literal 2) x.literal 1)else(iH .int .int known_ x.literal 2))
noncomputable def n9:List SV->List Ob->Option HCon:=pC (fun x_:Reason×(List Int)×(List Clause)×(List (Int×Bool))×(List (Int×Int)) =>[.ptr 0 0,.agg (cellsOf .reason x_.1)]) (fun x_=>[.cells [.rs .int x_.2.1,.rs .clause x_.2.2.1,.os 1,.os 2],.mp .int .bool x_.2.2.2.1 none,.mp .int .int x_.2.2.2.2 none]) (fun x_=>je True (.tup []) [.cells [.rs .int x_.2.1,.rs .clause x_.2.2.1,.os 1,.os 2],.mp .int .bool x_.2.2.2.1 none,.mp .int .int (ew x_.1 x_.2.1 x_.2.2.1 x_.2.2.2.1 x_.2.2.2.2) none])
@[go_sem] theorem FC (x:Reason)(facts:List Int)(clauses:List Clause)(strict_:List (Int×Bool))(known_:List (Int×Int)){p1_:Option (Nat×Option Tag.int.T)}(hp1_:p1_=none){p2_:Option (Nat×Option Tag.int.T)}(hp2_:p2_=none):n9 ([.ptr 0 0,.agg [.v (.int .i64 x.literal),.v (.int .i64 x.clause),.v (.bool x.proved)]]) ([.cells [.rs .int facts,.rs .clause clauses,.os 1,.os 2],.mp .int .bool strict_ p1_,.mp .int .int known_ p2_])=some (je True (.tup []) [.cells [.rs .int facts,.rs .clause clauses,.os 1,.os 2],.mp .int .bool strict_ none,.mp .int .int (ew x facts clauses strict_ known_) none]):=by
 subst hp1_;subst hp2_;exact lM (A:=fun x_:Reason×(List Int)×(List Clause)×(List (Int×Bool))×(List (Int×Int)) =>[.ptr 0 0,.agg (cellsOf .reason x_.1)]) (H:=fun x_=>[.cells [.rs .int x_.2.1,.rs .clause x_.2.2.1,.os 1,.os 2],.mp .int .bool x_.2.2.2.1 none,.mp .int .int x_.2.2.2.2 none]) (K:=fun x_=>je True (.tup []) [.cells [.rs .int x_.2.1,.rs .clause x_.2.2.1,.os 1,.os 2],.mp .int .bool x_.2.2.2.1 none,.mp .int .int (ew x_.1 x_.2.1 x_.2.2.1 x_.2.2.2.1 x_.2.2.2.2) none]) (x:=(x,facts,clauses,strict_,known_))
theorem w8:FnOkO Tryz.prog 135 (n9):=by
 have hG:ConsOk Tryz.prog (mkG [] []):=am cg0 cg0;refine oe mixed ai hG (fn:=Tryz.f135) (c:=aa Tryz.f135) kr kr kr kr fun l o con h=>?_;obtain⟨⟨x,facts,clauses,strict_,known_⟩,rfl,rfl,rfl⟩:=jJ h;clear h;try dsimp only
 refine⟨_,_,_,rfl,fun hp=>?_⟩;refine⟨nbl rfl,L0,?_,?_⟩
 ·unfold aa Tryz.f135;simp only[ak,and_self,true_and,and_true]
 ·unfold aa Tryz.f135;try unfold ew
  exact sZ (jl [0,1,2])
end Go.Sx
end
section
namespace Go.Sx
open Go.RowKit
section
variable {P:Program}{ts:Tis}{G:Cons}{N:Nat}
theorem Jc (hm:P.follows .mixedOrders=true)(hts:ts.ok P)(hG:ConsOk P G){id:Nat}{g:Operand}{ps:Array Tmp}{assign body:Code}{C:St->Option LCon}
  (hpn:ps.toList.Nodup) (hpN:∀ p∈ps.toList,p<N) (hca:bQ N assign=true) (hcb:bQ N body=true)
  (h:∀ st0 lc,C st0=some lc->lc.pre->∃ st,NilS st0 st/\∃ (f:FuncId) (caps:List SV) (τ ρ σ:Type) (l:List τ) (mk:τ->List SV) (step:τ->σ->ρ⊕σ) (p:τ->σ->Prop) (pre:Prop) (s0:σ) (exE:ρ->Ex) (outE:ρ->St) (outN:σ->St) (T:List (Nat×SV)) (H:σ->List Ob) (Hy:ρ->List Ob) (js:List Nat),
   raw st.t g=.fn f [] caps/\lc=LC pre (kf step l s0) exE outE outN/\okL step p l s0/\st.h.length<=(H s0).length/\Sub js st.h.length ⟨st.t,wI (oG st caps) st.h⟩ ⟨T,H s0⟩/\
   GY P f (fun y=>y::caps.map (ren (IV (oG st caps)) 3)) (G0 (oG st caps) st.h) (l.map mk)/\
   (∀ x s,p x s->(mk x).length=ps.size/\∃ L,(∀ l,ak P (some l) N L assign)/\(∀ l,ak P (some l) N L body)/\exec ts G L assign ⟨psT ps.toList (mk x)++T,H s⟩ (fun e st1=>e=.normal/\exec ts G L body st1 (rgQ step exE T H Hy st.h.length id x s)))/\
   (∀ s,jq (outN s) st.h.length ⟨T,H s⟩)/\∀ y,jq (outE y) st.h.length ⟨T,Hy y⟩):kc P none N id (.rangeFunc g ps assign body) C:=by
 intro nd F w0 st0 lc hC hpre own a w hr;obtain⟨st,hN,hrest⟩:=h st0 lc hC hpre;obtain⟨own',hr'⟩:=hN.rel hr;refine zY hm hts hG hpn hpN hca hcb (C:=fun s=>@ite _ (s=st) (Classical.propDecidable _) (some lc) none) (fun s l e _=>?_) nd F w0 st lc (if_pos rfl) hpre own' a w hr';split at e
 ·rename_i e1;subst e1;cases e;exact hrest
 ·cases e
end
end Go.Sx
end
section
namespace Go.Sx
open Go.Proofs
open IntKind (i64)
theorem OI {l0 l1:List Nat}(a0:JL l0)(a1:JL l1){p:Prop}(h:JL l0->JL l1->p:=by intro ja jb;(first|done|(repeat' (first|with_reducible refine And.intro ?_ ?_|((with_reducible show _≠_);first|assumption|omega|(simp_all [dQ,eX];done) |grind) |with_reducible intro _)) <;>(first|done|with_reducible exact Empty.elim ‹Empty› |with_reducible assumption|rfl|omega|assumption|decide|exact fk ja|exact fk jb|exact czl|(simp only[*,cond_true,cond_false,Bool.not_true,Bool.not_false,go_sem,Nat.reduceBEq,Nat.reduceLeDiff,Nat.reduceLT,decide_true,Nat.reduceAdd,Nat.reduceSub,Nat.reduceMul,Int.reduceLE,Int.reduceLT,Int.reduceToNat,Int.reduceNeg,reduceCtorEq];(repeat' (first|with_reducible refine And.intro ?_ ?_|((with_reducible show _≠_);first|assumption|omega|(simp_all [dQ,eX];done) |grind) |with_reducible intro _)) <;>(first|done|assumption|rfl|omega|decide|exact fk ja|exact fk jb|(simp_all [dQ,eX];done))) |(simp_all [okI,dQ,eX];done) |(simp_all [dQ,eX];(first|done|exact fk2 ja|exact fk2 jb)) |exact fk2 ja|exact fk2 jb|(simp_all only[dQ,eX,cond_true,cond_false];(first|done|exact fk ja|exact fk jb|exact fk2 ja|exact fk2 jb|(simp only[go_sem,Nat.reduceBEq,Nat.reduceLeDiff,Nat.reduceLT,decide_true,Nat.reduceAdd,Nat.reduceSub,Nat.reduceMul,Int.reduceLE,Int.reduceLT,Int.reduceToNat,Int.reduceNeg,reduceCtorEq];((repeat' (first|with_reducible refine And.intro ?_ ?_|((with_reducible show _≠_);first|assumption|omega|(simp_all [dQ,eX];done) |grind) |with_reducible intro _)) <;>(first|done|rfl|exact fk ja|exact fk jb|exact fk2 ja|exact fk2 jb)))))))):p:=h a0 a1
theorem Ht {l0 l1 l2:List Nat}(a0:JL l0)(a1:JL l1)(a2:JL l2){p:Prop}(h:JL l0->JL l1->JL l2->p:=by intro ja jb jc;(first|done|(repeat' (first|with_reducible refine And.intro ?_ ?_|((with_reducible show _≠_);first|assumption|omega|(simp_all [dQ,eX];done) |grind) |with_reducible intro _)) <;>(first|done|with_reducible exact Empty.elim ‹Empty› |with_reducible assumption|rfl|omega|assumption|decide|exact fk ja|exact fk jb|exact fk jc|exact czl|(simp only[*,cond_true,cond_false,Bool.not_true,Bool.not_false,go_sem,Nat.reduceBEq,Nat.reduceLeDiff,Nat.reduceLT,decide_true,Nat.reduceAdd,Nat.reduceSub,Nat.reduceMul,Int.reduceLE,Int.reduceLT,Int.reduceToNat,Int.reduceNeg,reduceCtorEq];(repeat' (first|with_reducible refine And.intro ?_ ?_|((with_reducible show _≠_);first|assumption|omega|(simp_all [dQ,eX];done) |grind) |with_reducible intro _)) <;>(first|done|assumption|rfl|omega|decide|exact fk ja|exact fk jb|exact fk jc|(simp_all [dQ,eX];done))) |(simp_all [okI,dQ,eX];done) |(simp_all [dQ,eX];(first|done|exact fk2 ja|exact fk2 jb|exact fk2 jc)) |exact fk2 ja|exact fk2 jb|exact fk2 jc|(simp_all only[dQ,eX,cond_true,cond_false];(first|done|exact fk ja|exact fk jb|exact fk jc|exact fk2 ja|exact fk2 jb|exact fk2 jc|(simp only[go_sem,Nat.reduceBEq,Nat.reduceLeDiff,Nat.reduceLT,decide_true,Nat.reduceAdd,Nat.reduceSub,Nat.reduceMul,Int.reduceLE,Int.reduceLT,Int.reduceToNat,Int.reduceNeg,reduceCtorEq];((repeat' (first|with_reducible refine And.intro ?_ ?_|((with_reducible show _≠_);first|assumption|omega|(simp_all [dQ,eX];done) |grind) |with_reducible intro _)) <;>(first|done|rfl|exact fk ja|exact fk jb|exact fk jc|exact fk2 ja|exact fk2 jb|exact fk2 jc)))))))):p:=h a0 a1 a2
theorem CT {l0:List Nat}(a0:JL l0){p:Prop}(h:JL l0->p:=by intro ja;(first|done|(repeat' (first|with_reducible refine And.intro ?_ ?_|((with_reducible show _≠_);first|assumption|omega|(simp_all [dQ,eX];done) |grind) |with_reducible intro _)) <;>(first|done|with_reducible exact Empty.elim ‹Empty› |with_reducible assumption|rfl|omega|assumption|decide|exact fk ja|exact czl|(simp only[*,cond_true,cond_false,Bool.not_true,Bool.not_false,go_sem,Nat.reduceBEq,Nat.reduceLeDiff,Nat.reduceLT,decide_true,Nat.reduceAdd,Nat.reduceSub,Nat.reduceMul,Int.reduceLE,Int.reduceLT,Int.reduceToNat,Int.reduceNeg,reduceCtorEq];(repeat' (first|with_reducible refine And.intro ?_ ?_|((with_reducible show _≠_);first|assumption|omega|(simp_all [dQ,eX];done) |grind) |with_reducible intro _)) <;>(first|done|assumption|rfl|omega|decide|exact fk ja|(simp_all [dQ,eX];done))) |(simp_all [okI,dQ,eX];done) |(simp_all [dQ,eX];(first|done|exact fk2 ja)) |exact fk2 ja|(simp_all only[dQ,eX,cond_true,cond_false];(first|done|exact fk ja|exact fk2 ja|(simp only[go_sem,Nat.reduceBEq,Nat.reduceLeDiff,Nat.reduceLT,decide_true,Nat.reduceAdd,Nat.reduceSub,Nat.reduceMul,Int.reduceLE,Int.reduceLT,Int.reduceToNat,Int.reduceNeg,reduceCtorEq];((repeat' (first|with_reducible refine And.intro ?_ ?_|((with_reducible show _≠_);first|assumption|omega|(simp_all [dQ,eX];done) |grind) |with_reducible intro _)) <;>(first|done|rfl|exact fk ja|exact fk2 ja)))))))):p:=h a0
theorem OJ {l0 l1:List Nat}(a0:JL l0)(a1:JL l1){p:Prop}(h:JL l0->JL l1->p:=by intro ja jb;simp only[go_sem,Nat.reduceBEq,Nat.reduceLeDiff,Nat.reduceLT,decide_true,Nat.reduceAdd,Nat.reduceSub,Nat.reduceMul,Int.reduceLE,Int.reduceLT,Int.reduceToNat,Int.reduceNeg,reduceCtorEq];all_goals exact OI ja jb):p:=h a0 a1
theorem OK {l0:List Nat}(a0:JL l0){p:Prop}(h:JL l0->p:=by intro ja;simp only[go_sem,Nat.reduceBEq,Nat.reduceLeDiff,Nat.reduceLT,decide_true,Nat.reduceAdd,Nat.reduceSub,Nat.reduceMul,Int.reduceLE,Int.reduceLT,Int.reduceToNat,Int.reduceNeg,reduceCtorEq,hc,hw];all_goals exact CT ja):p:=h a0
theorem OL {l0:List Nat}(a0:JL l0){p:Prop}(h:JL l0->p:=by intro ja;simp only[go_sem,Nat.reduceBEq,Nat.reduceLeDiff,Nat.reduceLT,decide_true,Nat.reduceAdd,Nat.reduceSub,Nat.reduceMul,Int.reduceLE,Int.reduceLT,Int.reduceToNat,Int.reduceNeg,reduceCtorEq,hc];all_goals exact CT ja):p:=h a0
@[go_sem] def ay (facts:List Int)(clauses:List Clause)(strict_:List (Int×Bool))(s_0:List (Int×Int)×List Reason)(z_1:Int)(s_1:List Reason):Empty⊕(List Reason):=letI q0:=({ plea:=({ facts:=facts,clauses:=clauses}:Plea),strict:=strict_,known:=s_0.1}:PleasCourt);(bif((bg .int .int s_0.1 z_1) !=0)then .inr s_1 else(bif(bg .int .bool strict_ z_1)then .inr (s_1++([({ literal:=z_1,clause:=0,proved:=true}:Reason)]))else(bif(dg q0 z_1)then .inr (s_1++([({ literal:=z_1,clause:=(la q0 z_1),proved:=true}:Reason)]))else(bif(cL q0 z_1)then .inr (s_1++([({ literal:=z_1,clause:=0,proved:=false}:Reason)]))else .inr s_1))))
def cK (facts:List Int)(clauses:List Clause)(strict_:List (Int×Bool))(s_0:List (Int×Int)×List Reason)(z_1:Int)(s_1:List Reason):Prop:=letI q0:=({ plea:=({ facts:=facts,clauses:=clauses}:Plea),strict:=strict_,known:=s_0.1}:PleasCourt);letI q1:=bg .int .bool strict_ z_1;letI q2:=dg q0 z_1;(((bg .int .int s_0.1 z_1) !=0)=false->((q1=true->((s_1++([({ literal:=z_1,clause:=0,proved:=true}:Reason)])).length*24<=ez))/\(q1=false->((q2=true->((s_1++([({ literal:=z_1,clause:=(la q0 z_1),proved:=true}:Reason)])).length*24<=ez))/\(q2=false->((cL q0 z_1)=true->((s_1++([({ literal:=z_1,clause:=0,proved:=false}:Reason)])).length*24<=ez)))))))
@[go_sem] def eo (facts:List Int)(clauses:List Clause)(strict_:List (Int×Bool))(s_1:List Reason)(k_2:Nat)(s_2:List (Int×Int)):Empty⊕(List (Int×Int)):=.inr (ew (s_1.getD k_2 default) facts clauses strict_ s_2)
@[go_sem] def bJ (facts:List Int)(clauses:List Clause)(strict_:List (Int×Bool))(k_0:Nat)(s_0:List (Int×Int)×List Reason):(List (Int×Int)×List Reason)⊕(List (Int×Int)×List Reason):=(match kf (ay facts clauses strict_ s_0) ax ([])with| .inl x=>x.elim| .inr s_1=>(bif((s_1.length:Int) ==0)then .inl (s_0.1,s_0.2)else(match aq (eo facts clauses strict_ s_1) s_1.length 0 s_0.1 with| .inl x=>x.elim| .inr s_2=>.inr (s_2,(s_0.2++s_1)))))
def fK (facts:List Int)(clauses:List Clause)(strict_:List (Int×Bool))(k_0:Nat)(s_0:List (Int×Int)×List Reason):Prop:=letI q0:=ay facts clauses strict_ s_0;((eF ((ax).map CS))/\okL q0 (cK facts clauses strict_ s_0) ax ([])/\(∀ s_1,kf q0 ax ([])=.inr s_1->(s_1.length<=aA->(((s_1.length:Int) ==0)=false->(s_1.length<=aA->(∀ s_2,aq (eo facts clauses strict_ s_1) s_1.length 0 s_0.1=.inr s_2->((s_0.2++s_1).length*24<=ez)))))))
def dh (facts:List Int)(clauses:List Clause)(strict_:List (Int×Bool))(known_:List (Int×Int)):(List (Int×Int))×(List Reason):=(match aq (bJ facts clauses strict_) 130 0 (known_,[])with| .inl x_0_0=>(x_0_0.1,x_0_0.2) | .inr s_0=>default)
def dO (facts:List Int)(clauses:List Clause)(strict_:List (Int×Bool))(known_:List (Int×Int)):Prop:=(okI (bJ facts clauses strict_) (fK facts clauses strict_) 130 0 (known_,[])/\(∀ z_,aq (bJ facts clauses strict_) 130 0 (known_,[])≠ .inr z_))
noncomputable def mS:List SV->List Ob->Option HCon:=pC (fun x_:(List Int)×(List Clause)×(List (Int×Bool))×(List (Int×Int)) =>[.ptr 0 0]) (fun x_=>[.cells [.rs .int x_.1,.rs .clause x_.2.1,.os 1,.os 2],.mp .int .bool x_.2.2.1 none,.mp .int .int x_.2.2.2 none]) (fun x_=>je (dO x_.1 x_.2.1 x_.2.2.1 x_.2.2.2) (.os 3) [.cells [.rs .int x_.1,.rs .clause x_.2.1,.os 1,.os 2],.mp .int .bool x_.2.2.1 none,.mp .int .int ((dh x_.1 x_.2.1 x_.2.2.1 x_.2.2.2).1) none,.row .reason ((dh x_.1 x_.2.1 x_.2.2.1 x_.2.2.2).2)])
@[go_sem] theorem Ek (facts:List Int)(clauses:List Clause)(strict_:List (Int×Bool))(known_:List (Int×Int)){p1_:Option (Nat×Option Tag.int.T)}(hp1_:p1_=none){p2_:Option (Nat×Option Tag.int.T)}(hp2_:p2_=none):mS ([.ptr 0 0]) ([.cells [.rs .int facts,.rs .clause clauses,.os 1,.os 2],.mp .int .bool strict_ p1_,.mp .int .int known_ p2_])=some (je (dO facts clauses strict_ known_) (.os 3) [.cells [.rs .int facts,.rs .clause clauses,.os 1,.os 2],.mp .int .bool strict_ none,.mp .int .int ((dh facts clauses strict_ known_).1) none,.row .reason ((dh facts clauses strict_ known_).2)]):=by
 subst hp1_;subst hp2_;exact lM (A:=fun x_:(List Int)×(List Clause)×(List (Int×Bool))×(List (Int×Int)) =>[.ptr 0 0]) (H:=fun x_=>[.cells [.rs .int x_.1,.rs .clause x_.2.1,.os 1,.os 2],.mp .int .bool x_.2.2.1 none,.mp .int .int x_.2.2.2 none]) (K:=fun x_=>je (dO x_.1 x_.2.1 x_.2.2.1 x_.2.2.2) (.os 3) [.cells [.rs .int x_.1,.rs .clause x_.2.1,.os 1,.os 2],.mp .int .bool x_.2.2.1 none,.mp .int .int ((dh x_.1 x_.2.1 x_.2.2.1 x_.2.2.2).1) none,.row .reason ((dh x_.1 x_.2.1 x_.2.2.1 x_.2.2.2).2)]) (x:=(facts,clauses,strict_,known_))
theorem ZF {l0 l1 l2:List Nat}(a0:JL l0)(a1:JL l1)(a2:JL l2){p:Prop}(h:JL l0->JL l1->JL l2->p:=by intro ja jb jc;simp only[go_sem,Nat.reduceBEq,Nat.reduceLeDiff,Nat.reduceLT,decide_true,Nat.reduceAdd,Nat.reduceSub,Nat.reduceMul,Int.reduceLE,Int.reduceLT,Int.reduceToNat,Int.reduceNeg,reduceCtorEq,ay,psT,CS,List.cons_append,List.nil_append];all_goals exact Ht ja jb jc):p:=h a0 a1 a2
theorem SW {l0 l1 l2:List Nat}(a0:JL l0)(a1:JL l1)(a2:JL l2){p:Prop}(h:JL l0->JL l1->JL l2->p:=by intro ja jb jc;simp only[go_sem,Nat.reduceBEq,Nat.reduceLeDiff,Nat.reduceLT,decide_true,Nat.reduceAdd,Nat.reduceSub,Nat.reduceMul,Int.reduceLE,Int.reduceLT,Int.reduceToNat,Int.reduceNeg,reduceCtorEq];all_goals exact Ht ja jb jc):p:=h a0 a1 a2
theorem ZG {l0:List Nat}(a0:JL l0){p:Prop}(h:JL l0->p:=by intro ja;simp only[go_sem,Nat.reduceBEq,Nat.reduceLeDiff,Nat.reduceLT,decide_true,Nat.reduceAdd,Nat.reduceSub,Nat.reduceMul,Int.reduceLE,Int.reduceLT,Int.reduceToNat,Int.reduceNeg,reduceCtorEq];all_goals exact CT ja):p:=h a0
theorem wl:FnOkO Tryz.prog 85 (mS):=by
 have hG:ConsOk Tryz.prog (mkG [(119,fun l=>qE (aP [] l)),(132,rI),(133,rE),(134,qs)] [(135,n9)]):=am (cgc (ub.norm []) (cgc wj (cgc we (cgc vO cg0)))) (cgc w8 cg0);refine oe mixed ai hG (fn:=Tryz.f85) (c:=aa Tryz.f85) kr kr kr kr fun l o con h=>?_;obtain⟨⟨facts,clauses,strict_,known_⟩,rfl,rfl,rfl⟩:=jJ h;clear h;try dsimp only
 refine⟨_,_,_,rfl,fun hp=>?_⟩;unfold dO at hp;refine⟨nbl rfl,(fun id st=>bif Nat.beq id 0 then some (LCV (ρ:=(List (Int×Int)×List Reason)) (σ:=(List (Int×Int)×List Reason)) 4 [.slot 2 (.row .reason ([]))] [0,1,2,3,4] (fun k_0 s_0=>⟨[(1,.ptr 3 0),(2,.os 4)],[.cells [.rs .int facts,.rs .clause clauses,.os 1,.os 2],.mp .int .bool strict_ none,.mp .int .int s_0.1 none,.cells [.ptr 0 0],.row .reason s_0.2]⟩) (bJ facts clauses strict_) (fK facts clauses strict_) 130 (known_,[]) (fun _=>.ret) (fun x_0_0=>⟨[(2,.os 4)],[.cells [.rs .int facts,.rs .clause clauses,.os 1,.os 2],.mp .int .bool strict_ none,.mp .int .int x_0_0.1 none,.dead,.row .reason x_0_0.2]⟩) st)else none),?_,?_⟩
 ·unfold aa Tryz.f85;simp only[ak,true_and,and_true,and_assoc]
  ·refine pj mixed ai hG kr (fun _=>rfl) fun k_0 s_0 hq0=>⟨(fun id st=>bif Nat.beq id 2 then some (LC (ρ:=Empty) (σ:=List Reason) (lk 1 st.t=.ptr 3 0/\lk 2 st.t=.os 4/\lk 3 st.t=.ptr 5 0/\lk 7 st.t=.fn 159 [] []/\st.h=[.cells [.rs .int facts,.rs .clause clauses,.os 1,.os 2],.mp .int .bool strict_ none,.mp .int .int s_0.1 none,.cells [.ptr 0 0],.row .reason s_0.2,.cells [.v (.slice none 0 0)]]/\eF ((ax).map CS)/\okL (ay facts clauses strict_ s_0) (cK facts clauses strict_ s_0) ax ([])) (kf (ay facts clauses strict_ s_0) ax ([])) (fun x=>x.elim) (fun x=>x.elim) (fun s_1=>⟨[(1,.ptr 3 0),(2,.os 4),(3,.ptr 5 0)],[.cells [.rs .int facts,.rs .clause clauses,.os 1,.os 2],.mp .int .bool strict_ none,.mp .int .int s_0.1 none,.cells [.ptr 0 0],.row .reason s_0.2,.cells [.os 7],.dead,.row .reason s_1]⟩))else bif Nat.beq id 5 then some (LCR (ρ:=Empty) (σ:=(List (Int×Int))) 8 [] [0,1,2,3,4,5,6,7] (fun k_2 s_2=>⟨[(1,.ptr 3 0),(2,.os 4),(3,.ptr 5 0),(54,.os 7),(55,.v (.int .i64 ((dQ (kf (ay facts clauses strict_ s_0) ax ([]))).length:Int))),(56,.v (.int .i64 (k_2:Int)))],[.cells [.rs .int facts,.rs .clause clauses,.os 1,.os 2],.mp .int .bool strict_ none,.mp .int .int s_2 none,.cells [.ptr 0 0],.row .reason s_0.2,.cells [.os 7],.dead,.row .reason (dQ (kf (ay facts clauses strict_ s_0) ax ([])))]⟩) (eo facts clauses strict_ (dQ (kf (ay facts clauses strict_ s_0) ax ([])))) pT ((dQ (kf (ay facts clauses strict_ s_0) ax ([]))).length) s_0.1 ((dQ (kf (ay facts clauses strict_ s_0) ax ([]))).length<=aA) ((·.elim)) ((·.elim)) st)else none),?_,?_⟩
   ·simp only[ak,true_and,and_true];refine⟨?_,?_⟩
    ·refine Jc mixed ai hG (by decide) (by decide) kr kr fun st lc hC hp=>?_;simp only[go_sem,Nat.reduceBEq,Option.some.injEq]at hC;subst hC;obtain⟨t,h⟩:=st;dsimp only[LC]at hp;obtain⟨e1_0,e1_1,e1_2,e1_3,rfl,hb1,hok1⟩:=hp;refine⟨⟨t,[.cells [.rs .int facts,.rs .clause clauses,.os 1,.os 2],.mp .int .bool strict_ none,.mp .int .int s_0.1 none,.cells [.ptr 0 0],.row .reason s_0.2,.cells [.os 6],.row .reason ([])]⟩,NilS.cell (h:=[.cells [.rs .int facts,.rs .clause clauses,.os 1,.os 2],.mp .int .bool strict_ none,.mp .int .int s_0.1 none,.cells [.ptr 0 0],.row .reason s_0.2,.cells [.v (.slice none 0 0)]]) (i:=5) (j:=0) (.row .reason ([])) (NilS.refl _) rfl rfl (.inl ⟨_,rfl⟩),159,[],Int,_,_,ax,CS,(ay facts clauses strict_ s_0),(cK facts clauses strict_ s_0),_,([]),_,_,_,[(1,.ptr 3 0),(2,.os 4),(3,.ptr 5 0)],(fun s_1=>[.cells [.rs .int facts,.rs .clause clauses,.os 1,.os 2],.mp .int .bool strict_ none,.mp .int .int s_0.1 none,.cells [.ptr 0 0],.row .reason s_0.2,.cells [.os 7],.dead,.row .reason s_1]),(fun x=>x.elim),[0,1,2,3,4,5,6,6],?_,rfl,hok1,nbl rfl,?_,sq _ hb1,fun z_1 s_1 hq1=>⟨rfl,L0,fun l=>?_,fun l=>?_,?_⟩,fun s_1=>?_,fun y=>?_⟩
     ·simp only[go_sem,e1_0,e1_1,e1_2,e1_3]
     ·simp only[go_sem,Nat.reduceBEq,Nat.reduceLeDiff,Nat.reduceLT,decide_true,Nat.reduceAdd,Nat.reduceSub,Nat.reduceMul,Int.reduceLE,Int.reduceLT,Int.reduceToNat,Int.reduceNeg,reduceCtorEq,wI,oG,List.flatMap_cons,List.flatMap_nil,List.nil_append,List.append_nil,List.map_nil,e1_0,e1_1,e1_2,e1_3];all_goals (first|done|decide|(repeat' (first|refine And.intro ?_ ?_|rfl|decide)))
     ·simp only[ak,and_self,true_and,and_true]
     ·simp only[ak,and_self,true_and,and_true]
     ·unfold cK at hq1;exact ZF (jl [0,1,2,3,4,5,6,7]) (jl [0,1,2,3,4,5,6,9]) (jl [0,1,2,3,4,5,6,8])
     ·exact SW (jl [0,1,2,3,4,5,6,7]) (jl [0,1,2,3,4,5,6,9]) (jl [0,1,2,3,4,5,6,8])
     ·exact SW (jl [0,1,2,3,4,5,6,7]) (jl [0,1,2,3,4,5,6,9]) (jl [0,1,2,3,4,5,6,8])
    ·refine bh mixed ai hG kr (fun _=>rfl) ((dQ (kf (ay facts clauses strict_ s_0) ax ([]))).length:Int) rfl dV (fun hb2 k_2 s_2 hlt2 _ hw hc=>⟨L0,ag _,?_⟩) (fun hb2 s_2 hc=>?_)
     ·exact OK (jl [0,1,2,3,4,5,6,7])
     ·exact OL (jl [0,1,2,3,4,5,6,7])
   ·unfold fK at hq0;exact OJ (jl [0,1,2,3,8]) (jl [0,1,2,3,4])
 ·unfold aa Tryz.f85;try unfold dh
  exact ZG (jl [0,1,2,4])
def cD (p:Plea)(q:Int):Int×Int:=letI q0:=bg .int .int ((dh p.facts p.clauses (bt p) ([])).1) q;(bif((gq p) !=0)then(0,(gq p))else(bif(!(gQ q))then(0,1)else(bif(q0==0)then(3,0)else(q0,0))))
def iV (p:Plea)(q:Int):Prop:=((iC p)/\(((gq p) !=0)=false->((!(gQ q))=false->((gZ p)/\(dO p.facts p.clauses (bt p) ([]))))))
@[go_sem] def tt:List SV->Option Con:=(pD .plea fun p=>(pI fun q=>(pE (.det (iV p q) (.tup [.v (.int .i64 ((cD p q).1)),.v (.int .i64 ((cD p q).2))])))))
theorem vX:FnOk Tryz.prog 35 tt:=by
 have hG:ConsOk Tryz.prog (mkG [(67,fun l=>qU (aP [.st .plea] l)),(83,oy)] [(84,qF),(85,mS)]):=am (cgc (tj.norm [.st .plea]) (cgc qD cg0)) (cgc zi (cgc wl cg0));refine av [.o,.o] mixed ai hG (fn:=Tryz.f35) (c:=aa Tryz.f35) kr kr kr kr (aF fun p=>(br fun q=>(ah (fun hp=>?_))));dsimp only[an]at hp;unfold iV at hp;refine⟨nbl rfl,L0,ag _,?_⟩
 ·unfold aa Tryz.f35;try unfold cD
  exact zq1
@[go_sem] def il (a0:Cases)(a1:Suit)(k_0:Nat)(s_0:List Int):Empty⊕(List Int):=(bif((a0.sides.getD (Int.toNat (a1.facts.getD k_0 0)) 0) ==1)then .inr (s_0++([(a1.facts.getD k_0 0)]))else .inr s_0)
def lW (a0:Cases)(a1:Suit)(k_0:Nat)(s_0:List Int):Prop:=((0<=(a1.facts.getD k_0 0)/\(a1.facts.getD k_0 0) < (a0.sides.length:Int))/\(((a0.sides.getD (Int.toNat (a1.facts.getD k_0 0)) 0) ==1)=true->((s_0++([(a1.facts.getD k_0 0)])).length*8<=ez)))
@[go_sem] def im (a0:Cases)(a1:Suit)(k_1:Nat)(s_1:List Int):Empty⊕(List Int):=(bif((a0.sides.getD (Int.toNat (a1.facts.getD k_1 0)) 0) ==0)then .inr (s_1++([(a1.facts.getD k_1 0)]))else .inr s_1)
def lX (a0:Cases)(a1:Suit)(k_1:Nat)(s_1:List Int):Prop:=((0<=(a1.facts.getD k_1 0)/\(a1.facts.getD k_1 0) < (a0.sides.length:Int))/\(((a0.sides.getD (Int.toNat (a1.facts.getD k_1 0)) 0) ==0)=true->((s_1++([(a1.facts.getD k_1 0)])).length*8<=ez)))
@[go_sem] def io (a0:Cases)(a1:Suit)(k_2:Nat)(s_2:List Int):Empty⊕(List Int):=(bif((a0.sides.getD (Int.toNat (a1.facts.getD k_2 0)) 0) ==1)then .inr (s_2++([(a1.facts.getD k_2 0)]))else .inr s_2)
def lY (a0:Cases)(a1:Suit)(k_2:Nat)(s_2:List Int):Prop:=((0<=(a1.facts.getD k_2 0)/\(a1.facts.getD k_2 0) < (a0.sides.length:Int))/\(((a0.sides.getD (Int.toNat (a1.facts.getD k_2 0)) 0) ==1)=true->((s_2++([(a1.facts.getD k_2 0)])).length*8<=ez)))
@[go_sem] def ip (a0:Cases)(a1:Suit)(k_3:Nat)(s_3:List Int):Empty⊕(List Int):=(bif((a0.sides.getD (Int.toNat (a1.facts.getD k_3 0)) 0) ==0)then .inr (s_3++([(a1.facts.getD k_3 0)]))else .inr s_3)
def lZ (a0:Cases)(a1:Suit)(k_3:Nat)(s_3:List Int):Prop:=((0<=(a1.facts.getD k_3 0)/\(a1.facts.getD k_3 0) < (a0.sides.length:Int))/\(((a0.sides.getD (Int.toNat (a1.facts.getD k_3 0)) 0) ==0)=true->((s_3++([(a1.facts.getD k_3 0)])).length*8<=ez)))
def aV (a0:Cases)(a1:Suit):Case×Int:=letI q0:=cD a1.plea a1.question;letI q1:=ap a0 a1.facts 0;letI q3:=ap a0 a1.facts 1;letI q4:=(a0.cases.length:Int);letI q2:=a0.cases.getD (Int.toNat (i64.wrap (q4 - 1))) default;letI q5:=cp a0;letI q6:=gq a1.plea;(bif(q5 !=0)then(({ no:=0,hour:=0,winner:=0,facts:=[],reason:=[]}:Case),q5)else(bif(q6 !=0)then(({ no:=0,hour:=0,winner:=0,facts:=[],reason:=[]}:Case),q6)else(bif(aw (q0.2==0) (q0.2))then(bif(aw (q1.2.2==0) (q1.2.2))then(bif(aw ((aI a1.no 0 1048576)&&(aI a1.hour 0 4096)) 520)then(bif(decide (q4 > 0))then(bif(aw ((decide (a1.no > q2.no))&&(decide (a1.hour>=q2.hour))) 520)then(bif((!q1.2.1)&&(q3.2.1||(q0.1 !=1)))then(match aq (il a0 a1) a1.facts.length 0 ([])with| .inl x=>x.elim| .inr s_0=>(({ no:=a1.no,hour:=a1.hour,winner:=1,facts:=a1.facts,reason:=s_0}:Case),0))else(match aq (im a0 a1) a1.facts.length 0 ([])with| .inl x=>x.elim| .inr s_1=>(({ no:=a1.no,hour:=a1.hour,winner:=0,facts:=a1.facts,reason:=s_1}:Case),0)))else(({ no:=0,hour:=0,winner:=0,facts:=[],reason:=[]}:Case),520))else(bif((!q1.2.1)&&(q3.2.1||(q0.1 !=1)))then(match aq (io a0 a1) a1.facts.length 0 ([])with| .inl x=>x.elim| .inr s_2=>(({ no:=a1.no,hour:=a1.hour,winner:=1,facts:=a1.facts,reason:=s_2}:Case),0))else(match aq (ip a0 a1) a1.facts.length 0 ([])with| .inl x=>x.elim| .inr s_3=>(({ no:=a1.no,hour:=a1.hour,winner:=0,facts:=a1.facts,reason:=s_3}:Case),0))))else(({ no:=0,hour:=0,winner:=0,facts:=[],reason:=[]}:Case),520))else(({ no:=0,hour:=0,winner:=0,facts:=[],reason:=[]}:Case),(q1.2.2)))else(({ no:=0,hour:=0,winner:=0,facts:=[],reason:=[]}:Case),(q0.2)))))
def gL (a0:Cases)(a1:Suit):Prop:=letI q1:=cD a1.plea a1.question;letI q2:=ap a0 a1.facts 0;letI q3:=ap a0 a1.facts 1;letI q4:=(a0.cases.length:Int);letI q0:=i64.wrap (q4 - 1);letI q5:=a0.cases.getD (Int.toNat q0) default;letI q6:=q1.1 !=1;letI q7:=decide (a1.no > q5.no);((fB a0)/\(((cp a0) !=0)=false->((iC a1.plea)/\(((gq a1.plea) !=0)=false->((iV a1.plea a1.question)/\((aw (q1.2==0) (q1.2))=true->((dR a0 a1.facts 0)/\((aw (q2.2.2==0) (q2.2.2))=true->((dR a0 a1.facts 1)/\((aw ((aI a1.no 0 1048576)&&(aI a1.hour 0 4096)) 520)=true->(a0.cases.length<=aA->(((decide (q4 > 0))=true->((0<=q0/\q0<q4)/\((q7=true->(0<=q0/\q0<q4))/\((aw (q7&&(decide (a1.hour>=q5.hour))) 520)=true->((((!q2.2.1)&&(q3.2.1||q6))=true->(a1.facts.length<=aA->okI (il a0 a1) (lW a0 a1) a1.facts.length 0 ([])))/\(((!q2.2.1)&&(q3.2.1||q6))=false->(a1.facts.length<=aA->okI (im a0 a1) (lX a0 a1) a1.facts.length 0 ([]))))))))/\((decide (q4 > 0))=false->((((!q2.2.1)&&(q3.2.1||q6))=true->(a1.facts.length<=aA->okI (io a0 a1) (lY a0 a1) a1.facts.length 0 ([])))/\(((!q2.2.1)&&(q3.2.1||q6))=false->(a1.facts.length<=aA->okI (ip a0 a1) (lZ a0 a1) a1.facts.length 0 ([])))))))))))))))))
@[go_sem] def oQ:List SV->Option Con:=(pD .cases fun a0=>(pD .suit fun a1=>(pE (.det (gL a0 a1) (.tup [.agg (cellsOf .case ((aV a0 a1).1)),.v (.int .i64 ((aV a0 a1).2))])))))
theorem KK {p:Prop}(h:p:=by simp only[go_sem,Nat.reduceBEq,Nat.reduceLeDiff,Nat.reduceLT,decide_true,Nat.reduceAdd,Nat.reduceSub,Nat.reduceMul,Int.reduceLE,Int.reduceLT,Int.reduceToNat,Int.reduceNeg,reduceCtorEq,hs0,hs1,qx,oH,RCJ];all_goals exact cl):p:=h
theorem sr:FnOk Tryz.prog 24 oQ:=by
 have hG:ConsOk Tryz.prog (mkG [(34,fun l=>oJ (aP [.st .cases,.sl .int,.o] l)),(35,fun l=>tt (aP [.st .plea,.o] l)),(52,gc),(58,kl),(64,fun l=>kW (aP [.st .cases] l)),(67,fun l=>qU (aP [.st .plea] l))] []):=am (cgc (sf.norm [.st .cases,.sl .int,.o]) (cgc (vX.norm [.st .plea,.o]) (cgc h_ (cgc mf (cgc (nY.norm [.st .cases]) (cgc (tj.norm [.st .plea]) cg0)))))) cg0;refine Kw Fi [.st .case,.o] mixed ai hG (fn:=Tryz.f24) (c0:=qx (aa Tryz.f24)) (c1:=oH (oH (aa Tryz.f24))) (i1:=Qs (qx (oH (aa Tryz.f24)))) (o1:=NI 0 (qx (oH (aa Tryz.f24)))) (q:=5) (tys:= #[104]) kr kr kr (by refine⟨?_,?_,?_⟩ <;>kernel_rfl) kr kr (aF fun a0=>(aF fun a1=>(ah (fun hp=>?_))));dsimp only[an]at hp;unfold gL at hp;rcases Bool.eq_false_or_eq_true (decide ((a0.cases.length:Int) > 0))with hs0|hs0 <;>rcases Bool.eq_false_or_eq_true ((!(ap a0 a1.facts 0).2.1)&&((ap a0 a1.facts 1).2.1||((cD a1.plea a1.question).1 !=1)))with hs1|hs1
 ·have hsp:True:=trivial;refine⟨nbl rfl,L0,(fun id st=>bif Nat.beq id 0 then some (LCR (ρ:=Empty) (σ:=(List Int)) 4 [.cell 2 4 (.row .int ([]))] [0,1,2,3,4] (fun k_0 s_0=>⟨[(2,.ptr 0 0),(4,.ptr 2 0),(5,.ptr 3 0),(115,.rs .int a1.facts),(116,.v (.int .i64 (a1.facts.length:Int))),(117,.v (.int .i64 (k_0:Int)))],[.cells (cellsOf .cases a0),.dead,.cells [.v (.int .i64 a1.no),.v (.int .i64 a1.hour),.v (.int .i64 1),.rs .int a1.facts,.os 4],.cells [.v (.int .i64 ((ap a0 a1.facts 0).2.2))],.row .int s_0]⟩) (il a0 a1) (lW a0 a1) a1.facts.length ([]) (a1.facts.length<=aA) ((·.elim)) ((·.elim)) st)else none),3,?_,?_,?_⟩
  ·unfold aa Tryz.f24;simp only[qx,ak,and_self,true_and,and_true]
  ·unfold aa Tryz.f24;simp only[oH];simp only[ak,true_and,and_true]
   ·refine bh mixed ai hG kr (fun _=>rfl) (a1.facts.length:Int) rfl dV (fun hb0 k_0 s_0 hlt0 hq0 hw hc=>⟨L0,ag _,?_⟩) (fun hb0 s_0 hc=>?_)
    ·unfold lW at hq0;try simp only[hw,Int.toNat_natCast]at hq0
     exact lB (jl [0,1,2,3,6]) (jl [0,1,2,3,4])
    ·exact kg (jl [0,1,2,3,6]) (jl [0,1,2,3,4])
  ·unfold aa Tryz.f24;try unfold aV
   exact KK
 ·have hsp:True:=trivial;refine⟨nbl rfl,L0,(fun id st=>bif Nat.beq id 0 then some (LCR (ρ:=Empty) (σ:=(List Int)) 4 [.cell 2 4 (.row .int ([]))] [0,1,2,3,4] (fun k_1 s_1=>⟨[(2,.ptr 0 0),(4,.ptr 2 0),(5,.ptr 3 0),(115,.rs .int a1.facts),(116,.v (.int .i64 (a1.facts.length:Int))),(117,.v (.int .i64 (k_1:Int)))],[.cells (cellsOf .cases a0),.dead,.cells [.v (.int .i64 a1.no),.v (.int .i64 a1.hour),.v (.int .i64 0),.rs .int a1.facts,.os 4],.cells [.v (.int .i64 ((ap a0 a1.facts 0).2.2))],.row .int s_1]⟩) (im a0 a1) (lX a0 a1) a1.facts.length ([]) (a1.facts.length<=aA) ((·.elim)) ((·.elim)) st)else none),3,?_,?_,?_⟩
  ·unfold aa Tryz.f24;simp only[qx,ak,and_self,true_and,and_true]
  ·unfold aa Tryz.f24;simp only[oH];simp only[ak,true_and,and_true]
   ·refine bh mixed ai hG kr (fun _=>rfl) (a1.facts.length:Int) rfl dV (fun hb1 k_1 s_1 hlt1 hq1 hw hc=>⟨L0,ag _,?_⟩) (fun hb1 s_1 hc=>?_)
    ·unfold lX at hq1;try simp only[hw,Int.toNat_natCast]at hq1
     exact lB (jl [0,1,2,3,6]) (jl [0,1,2,3,4])
    ·exact kg (jl [0,1,2,3,6]) (jl [0,1,2,3,4])
  ·unfold aa Tryz.f24;try unfold aV
   exact KK
 ·have hsp:True:=trivial;refine⟨nbl rfl,L0,(fun id st=>bif Nat.beq id 0 then some (LCR (ρ:=Empty) (σ:=(List Int)) 4 [.cell 2 4 (.row .int ([]))] [0,1,2,3,4] (fun k_2 s_2=>⟨[(2,.ptr 0 0),(4,.ptr 2 0),(5,.ptr 3 0),(115,.rs .int a1.facts),(116,.v (.int .i64 (a1.facts.length:Int))),(117,.v (.int .i64 (k_2:Int)))],[.cells (cellsOf .cases a0),.dead,.cells [.v (.int .i64 a1.no),.v (.int .i64 a1.hour),.v (.int .i64 1),.rs .int a1.facts,.os 4],.cells [.v (.int .i64 ((ap a0 a1.facts 0).2.2))],.row .int s_2]⟩) (io a0 a1) (lY a0 a1) a1.facts.length ([]) (a1.facts.length<=aA) ((·.elim)) ((·.elim)) st)else none),3,?_,?_,?_⟩
  ·unfold aa Tryz.f24;simp only[qx,ak,and_self,true_and,and_true]
  ·unfold aa Tryz.f24;simp only[oH];simp only[ak,true_and,and_true]
   ·refine bh mixed ai hG kr (fun _=>rfl) (a1.facts.length:Int) rfl dV (fun hb2 k_2 s_2 hlt2 hq2 hw hc=>⟨L0,ag _,?_⟩) (fun hb2 s_2 hc=>?_)
    ·unfold lY at hq2;try simp only[hw,Int.toNat_natCast]at hq2
     exact lB (jl [0,1,2,3,6]) (jl [0,1,2,3,4])
    ·exact kg (jl [0,1,2,3,6]) (jl [0,1,2,3,4])
  ·unfold aa Tryz.f24;try unfold aV
   exact KK
 ·have hsp:True:=trivial;refine⟨nbl rfl,L0,(fun id st=>bif Nat.beq id 0 then some (LCR (ρ:=Empty) (σ:=(List Int)) 4 [.cell 2 4 (.row .int ([]))] [0,1,2,3,4] (fun k_3 s_3=>⟨[(2,.ptr 0 0),(4,.ptr 2 0),(5,.ptr 3 0),(115,.rs .int a1.facts),(116,.v (.int .i64 (a1.facts.length:Int))),(117,.v (.int .i64 (k_3:Int)))],[.cells (cellsOf .cases a0),.dead,.cells [.v (.int .i64 a1.no),.v (.int .i64 a1.hour),.v (.int .i64 0),.rs .int a1.facts,.os 4],.cells [.v (.int .i64 ((ap a0 a1.facts 0).2.2))],.row .int s_3]⟩) (ip a0 a1) (lZ a0 a1) a1.facts.length ([]) (a1.facts.length<=aA) ((·.elim)) ((·.elim)) st)else none),3,?_,?_,?_⟩
  ·unfold aa Tryz.f24;simp only[qx,ak,and_self,true_and,and_true]
  ·unfold aa Tryz.f24;simp only[oH];simp only[ak,true_and,and_true]
   ·refine bh mixed ai hG kr (fun _=>rfl) (a1.facts.length:Int) rfl dV (fun hb3 k_3 s_3 hlt3 hq3 hw hc=>⟨L0,ag _,?_⟩) (fun hb3 s_3 hc=>?_)
    ·unfold lZ at hq3;try simp only[hw,Int.toNat_natCast]at hq3
     exact lB (jl [0,1,2,3,6]) (jl [0,1,2,3,4])
    ·exact kg (jl [0,1,2,3,6]) (jl [0,1,2,3,4])
  ·unfold aa Tryz.f24;try unfold aV
   exact KK
end Go.Sx
end
section
namespace Go.Sx
def pCN {α:Type 1}(k:List Int->List SV->Option α):List SV->Option α
 | .agg [.rs .int s,.v (.slice none 0 0)]::r=>k s r
 |_=>none
@[go_sem] theorem acB {α:Type 1}{k:List Int->List SV->Option α}{s:List Tag.int.T}{r:List SV}:pCN k (.agg [.rs .int s,.v (.slice none 0 0)]::r)=k s r:=(rfl)
end Go.Sx
end
section
namespace Go.Sx
open Go.RowKit
def Jd (n0 id:Nat):Ob->SV
 | .row k l=>bif Nat.ble n0 id then .rs k l else .any
 |_=>.any
def isV:SV->Bool
 | .v _=>true
 |_=>false
def xa (n0:Nat)(h:List Ob):SV->SV
 | .v x=>.v x
 | .rs k l=>.rs k l
 | .agg l=>bif l.all isV then .agg l else .any
 | .os id=>Jd n0 id (al h id)
 |_=>.any
def FD (n0:Nat)(h:List Ob):SV->SV
 | .tup l=>.tup (l.map (xa n0 h))
 |s=>xa n0 h s
def Dv (n0:Nat)(own:Own):Own:=fun i=>if i<n0 then own i else none
section
variable {F:Nat->Prop}{own:Own}{w:World}{n0:Nat}{h:List Ob}
theorem zj {b:Nat}(hb:¬bM F own b):¬bM F (Dv n0 own) b:=by
 rintro (hf| ⟨id,hd,e,hm⟩)
 ·exact hb (.inl hf)
 ·unfold Dv at e;split at e
  ·exact hb (.inr ⟨id,hd,e,hm⟩)
  ·cases e
theorem Hu (hp:Hp F own w h):∀ (s:SV) (v:Value),Rel F own w s v->Rel F (Dv n0 own) w (xa n0 h s) v:=by
 intro s v hr;cases s with
 |v x=>exact hr.over (.v x) fun b hb=>zj hb
 |rs k l=>exact hr.over .rs fun b hb=>zj hb
 |agg l=>
  simp only[xa];cases ha:l.all isV with
  |false=>exact .any _
  |true=>
   refine hr.over (.agg fun j s hj=>?_) fun b hb=>zj hb;have:=List.all_eq_true.1 ha s (List.mem_of_getElem? hj);cases s <;>first|exact .v _|cases this
 |os id=>
  obtain⟨hd,h1,rfl,h2⟩:=iq hr;simp only[xa];cases ho:al h id with
  |row k l=>
   simp only[Jd];cases hn:Nat.ble n0 id with
   |false=>exact .any _
   |true=>
    have hn':=nbl hn;obtain⟨hd',e0,e⟩:=hp.at ho rfl;rw[h1]at e0;cases e0;have hnb:∀ b∈hd.bs,¬bM F (Dv n0 own) b:=by
     rintro b hb (hf| ⟨i,hi,e1,e2⟩)
     ·exact hp.apart id hd b h1 hb hf
     ·unfold Dv at e1;split at e1
      ·rename_i hlt;have:=hp.inj id i hd hi b h1 e1 hb e2;omega
      ·cases e1
    rcases e with⟨a,e1,rfl,_⟩ | ⟨b,o,cap,cs,ty,e1,e2,h3,h4,h5,h6,h7⟩
    ·rw[e1];exact .rs0
    ·rw[e1];refine .rs (fun i j=>cs.getD (o+i*ae k+j) undef) h5 h6 (fun i x hi j s hj=>?_) (fun i x hi j s hj=>?_)
     ·obtain⟨u,k1,k2⟩:=h7 i x hi j s hj;refine⟨hnb b (by simp[e2]),?_⟩;rw[dq h3,k1];simp[Array.getD_eq_getD_getElem?,k1]
     ·obtain⟨u,k1,k2⟩:=h7 i x hi j s hj;have:cs.getD (o+i*ae k+j) undef=u:=by simp[Array.getD_eq_getD_getElem?,k1]
      rw[this];exact k2.over (rl hj) fun b hb=>zj hb
  |_=>exact .any _
 |_=>exact .any _
theorem KN (s:SV):PF (xa n0 h s):=by
 cases s with
 |agg l=>
  simp only[xa];cases ha:l.all isV with
  |false=>exact .any
  |true=>
   refine .agg fun j s hj=>?_;have:=List.all_eq_true.1 ha s (List.mem_of_getElem? hj);cases s <;>first|exact .v _|cases this
 |os id=>
  simp only[xa];cases al h id with
  |row k l=>simp only[Jd];cases Nat.ble n0 id <;>first|exact .any|exact .rs
  |_=>exact .any
 |v x=>exact .v x
 |rs k l=>exact .rs
 |_=>exact .any
@[go_sem] theorem ZH {l:List SV}:FD n0 h (.tup l)=.tup (l.map (xa n0 h)):=(rfl)
@[go_sem] theorem abA {id:Nat}:FD n0 h (.os id)=Jd n0 id (al h id):=(rfl)
@[go_sem] theorem acC {x:Value}:FD n0 h (.v x)=.v x:=(rfl)
@[go_sem] theorem abB {k:Tag}{l:List k.T}:FD n0 h (.rs k l)=.rs k l:=(rfl)
@[go_sem] theorem ZI {l:List SV}:FD n0 h (.agg l)=bif l.all isV then .agg l else .any:=(rfl)
@[go_sem] theorem acD {x:Value}:xa n0 h (.v x)=.v x:=(rfl)
@[go_sem] theorem abC {k:Tag}{l:List k.T}:xa n0 h (.rs k l)=.rs k l:=(rfl)
@[go_sem] theorem ZJ {l:List SV}:xa n0 h (.agg l)=bif l.all isV then .agg l else .any:=(rfl)
@[go_sem] theorem abD {id:Nat}:xa n0 h (.os id)=Jd n0 id (al h id):=(rfl)
@[go_sem] theorem ZK {k:Tag}{l:List k.T}{id:Nat}:Jd n0 id (.row k l)=bif Nat.ble n0 id then .rs k l else .any:=(rfl)
@[go_sem] theorem isV_v {x:Value}:isV (.v x)=true:=(rfl)
end
def OM (pks:List Pk)(n0:Nat)(S:SV)(H:List Ob)(h:List Ob):Option SV->Prop
 |some s=>S=uk pks (FD n0 h s)/\jq ⟨[],H⟩ n0 ⟨[],h⟩
 |none=>False
def SX (pks:List Pk)(n0:Nat)(rs:List ResultVar)(ts:Tis)(S:SV)(H:List Ob):Ex->St->Prop
 | .exit _,_=>False
 | .normal,st=>OM pks n0 S H st.h (lz (j8 ts st rs))
 | .ret,st=>OM pks n0 S H st.h (lz (j8 ts st rs))
 | .pan _,_=>False
section
variable {P:Program}{ts:Tis}{G:Cons}{n0:Nat}{S s:SV}{H h:List Ob}{rs:List ResultVar}{st:St}{pks:List Pk}
@[go_sem] theorem Xu:OM pks n0 S H h (some s)=(S=uk pks (FD n0 h s)/\jq ⟨[],H⟩ n0 ⟨[],h⟩):=(rfl)
@[go_sem] theorem RH:SX pks n0 rs ts S H .normal st=OM pks n0 S H st.h (lz (j8 ts st rs)):=(rfl)
@[go_sem] theorem Xv:SX pks n0 rs ts S H .ret st=OM pks n0 S H st.h (lz (j8 ts st rs)):=(rfl)
theorem ON {js:List Nat}{own:Own}{F:Nat->Prop}{b:Nat}(hk:yh 0 js n0=true)(hl:H.length=n0)(hb:¬bM F (Dv n0 own) b):¬bM F (hU js H own) b:=by
 rintro (hf| ⟨k,hd,e,hm⟩)
 ·exact hb (.inl hf)
 ·obtain⟨h1,j,hd0,e1,e2,_,e4⟩:=iz e;obtain⟨_,rfl⟩:=e4 b hm;have hj:=yq js 0 n0 hk k j e1 (by omega);have hjk:j=k:=by omega
  subst hjk;refine hb (.inr ⟨j,hd,?_,hm⟩);unfold Dv;rw[if_pos (by omega)];exact e2
end
def Dw (n0:Nat)(h:List Ob):SV->SV
 | .agg l=>.agg (l.map (xa n0 h))
 |s=>xa n0 h s
def Dx (n0:Nat)(h:List Ob):SV->SV
 | .tup l=>.tup (l.map (Dw n0 h))
 |s=>Dw n0 h s
section
variable {F:Nat->Prop}{own:Own}{w:World}{n0:Nat}{h:List Ob}
theorem Hv (hp:Hp F own w h)(s:SV)(v:Value)(hr:Rel F own w s v):Rel F (Dv n0 own) w (Dw n0 h s) v:=by
 cases s with
 |agg l=>
  cases hr with
  |agg h0 h1=>
   refine .agg (by simpa using h0) fun j s hj=>?_;obtain⟨x,hx,rfl⟩:=ca hj;exact Hu hp x _ (h1 j x hx)
 |_=>exact Hu hp _ _ hr
theorem Hw (hp:Hp F own w h)(s:SV)(v:Value)(hr:Rel F own w s v):Rel F (Dv n0 own) w (Dx n0 h s) v:=by
 cases s with
 |tup l=>
  cases hr with
  |tup h0 h1=>
   refine .tup (by simpa using h0) fun j s hj=>?_;obtain⟨x,hx,rfl⟩:=ca hj;exact Hv hp x _ (h1 j x hx)
 |_=>exact Hv hp _ _ hr
theorem KO (s:SV):PF (Dw n0 h s):=by
 cases s
 case agg l=>exact .agg fun j s hj=>by obtain⟨x,hx,rfl⟩:=ca hj;exact KN x
 all_goals (unfold Dw;exact KN _)
theorem RI (s:SV):PF (Dx n0 h s):=by
 cases s
 case tup l=>exact .tup fun j s hj=>by obtain⟨x,hx,rfl⟩:=ca hj;exact KO x
 all_goals (unfold Dx;exact KO _)
@[go_sem] theorem ZL {l:List SV}:Dx n0 h (.tup l)=.tup (l.map (Dw n0 h)):=(rfl)
@[go_sem] theorem ZM {l:List SV}:Dx n0 h (.agg l)=.agg (l.map (xa n0 h)):=(rfl)
@[go_sem] theorem acE {x:Value}:Dx n0 h (.v x)=.v x:=(rfl)
@[go_sem] theorem ZN {l:List SV}:Dw n0 h (.agg l)=.agg (l.map (xa n0 h)):=(rfl)
@[go_sem] theorem acF {x:Value}:Dw n0 h (.v x)=.v x:=(rfl)
@[go_sem] theorem abE {k:Tag}{l:List k.T}:Dw n0 h (.rs k l)=.rs k l:=(rfl)
@[go_sem] theorem abF {id:Nat}:Dw n0 h (.os id)=Jd n0 id (al h id):=(rfl)
end
def FE (pks:List Pk)(n0:Nat)(S:SV)(H:List Ob)(h:List Ob):Option SV->Prop
 |some s=>S=uk pks (Dx n0 h s)/\jq ⟨[],H⟩ n0 ⟨[],h⟩
 |none=>False
def KP (pks:List Pk)(n0:Nat)(rs:List ResultVar)(ts:Tis)(S:SV)(H:List Ob)(id:Nat)(st:St):Option SV->Prop
 |some s=>Dm (al st.h id)/\lT st.h=false/\FE pks n0 S H (aW st.h id (.cells [s])) (lz (j8 ts ⟨st.t,aW st.h id (.cells [s])⟩ rs))
 |none=>False
def KQ (RC:Value->Option SV)(pks:List Pk)(n0:Nat)(rs:List ResultVar)(ts:Tis)(S:SV)(H:List Ob)(id:Nat):Ex->St->Prop
 | .exit _,_=>False
 | .normal,st=>FE pks n0 S H st.h (lz (j8 ts st rs))
 | .ret,st=>FE pks n0 S H st.h (lz (j8 ts st rs))
 | .pan x,st=>KP pks n0 rs ts S H id st (RC x)
section
variable {RC:Value->Option SV}{pks:List Pk}{n0:Nat}{rs:List ResultVar}{ts:Tis}{S s:SV}{H h:List Ob}{id:Nat}{st:St}{x:Value}
@[go_sem] theorem Xw:FE pks n0 S H h (some s)=(S=uk pks (Dx n0 h s)/\jq ⟨[],H⟩ n0 ⟨[],h⟩):=(rfl)
@[go_sem] theorem U3:KP pks n0 rs ts S H id st (some s)=(Dm (al st.h id)/\lT st.h=false/\FE pks n0 S H (aW st.h id (.cells [s])) (lz (j8 ts ⟨st.t,aW st.h id (.cells [s])⟩ rs))):=(rfl)
@[go_sem] theorem RJ:KQ RC pks n0 rs ts S H id .normal st=FE pks n0 S H st.h (lz (j8 ts st rs)):=(rfl)
@[go_sem] theorem Xx:KQ RC pks n0 rs ts S H id .ret st=FE pks n0 S H st.h (lz (j8 ts st rs)):=(rfl)
@[go_sem] theorem Xy:KQ RC pks n0 rs ts S H id (.pan x) st=KP pks n0 rs ts S H id st (RC x):=(rfl)
end
section
variable {P:Program}{ts:Tis}{G:Cons}
theorem OO {g:FuncId}{RC:Value->Option SV}(hrec:G5 P g RC)(pks:List Pk)(hm:P.follows .mixedOrders=true)(hts:ts.ok P)(hG:ConsOk P G){f:FuncId}{fn:Func}{c0 c1:Code}{i1 q:Nat}{o1:Oper}{tys:Array TypeId}
  (hf:P.funcs[f]? =some fn) (hb:fn.body=some (.seq c0 (.seq (.region i1 #[o1] false) c1))) (hname:(fn.name== "runtime.NumGoroutine")=false)
  (ho1:o1.dst=none/\o1.op=.defer ⟨.value (.func g),#[.tmp q],tys⟩/\o1.guard=none)
  (hc0:bQ fn.ntmps c0=true) (hc1:bQ fn.ntmps c1=true) {C:List SV->List Ob->Option HCon}
  (h:∀ l o con,C l o=some con->∃ p S H,con=je p S H/\H.length=o.length/\(p->l.length<=fn.ntmps/\∃ L L' id,ak P none fn.ntmps L c0/\ak P none fn.ntmps L' c1/\exec ts G L c0 ⟨mC 0 l,o⟩ (fun e st=>e=.normal/\lk q st.t=.ptr id 0/\Dm (al st.h id)/\
   exec ts G L' c1 ⟨st.t,st.h⟩ (KQ RC pks o.length fn.results.toList ts S H id)))):FnOkO P f C:=by
 refine⟨fun l o con _ args w=>?_,fun l o con hcon hpre F own w vs hp0 hvs=>?_⟩
 ·have hn:¬fn.name= "runtime.NumGoroutine":=by simpa using hname
  simp[callFunc,hf,hn,hb]
 ·obtain⟨p,S,H,rfl,hH,h2⟩:=h l o con hcon;obtain⟨hlen,L,L',id,hl,hl',hx⟩:=h2 hpre;have hn0:∀ id hd,own id=some hd->id<o.length:=fun id hd e=>hp0.dom id hd e;refine oE (n:=0) (callsIn_of_wp_marks hf hb trivial ?_);have hr:StRel F { w:=w,own:=own} fn.ntmps own ⟨mC 0 l,o⟩ { tmps:=vs++Array.replicate (fn.ntmps - vs.size) undef,defers:=[]} w:=
   ⟨by have:=hvs.1;simp;omega,Dfr.nil,hp0,Fr.refl { w:=w,own:=own},fun t=>mH hvs _ t⟩
  refine wpIn_seq (wpIn_mono (ma hm hts hG c0 hc0 hl F _ _ hx own _ w hr) ?_);intro e a1 w1 hq;cases e with
  |normal=>
   obtain⟨F1,own1,st1,hF1,hst1,_,hlk,_,hx1⟩:=hq;have hsq:=hst1.slots q;rw[hlk]at hsq;generalize hv:a1.tmps.getD q undef=pv at hsq;cases hsq with
   | @ptr _ _ b hd ho hp=>
   show(Code.seq (.region i1 #[o1] false) c1).wpIn (rd none) 0 P _ a1 w1;have hsz:=hst1.size;refine wpIn_seq (xU ho1 hv ?_);show c1.wpIn (rd none) 0 P _ _ w1;obtain⟨ms,Ds,k0,k1,k2,k3⟩:=hst1.defers;have k0':a1.defers=ms:=by rw[k0];exact List.append_nil _
   let d:Deferred:= { target:=.fn (.func g) #[],args:= #[.pointer (some ⟨b,0,none⟩)]}
   let B:Bs:= { w:=w1,own:=own1,ds:=d::a1.defers}
   have hr2:StRel F1 B fn.ntmps own1 ⟨st1.t,st1.h⟩ { tmps:=a1.tmps,defers:=d::a1.defers} w1:=by
    exact⟨hsz,Dfr.nil,hst1.hp,Fr.refl B,hst1.slots⟩
   have hbd:∀ D∈Ds,¬ ∃ id hd,own1 id=some hd/\D∈hd.bs:=fun D hD ⟨i,hd,e,hm⟩ =>hst1.hp.apart i hd D e hm (k3 D hD).2.1;have fin:∀ F2 own2 st2 (a2:Act) w2,(∀ b,F1 b->F2 b)->StRel F2 B fn.ntmps own2 st2 a2 w2->FE pks o.length S H st2.h (lz (j8 ts st2 fn.results.toList))->
     LeavesInM (rd none) 0 P fn a2.tmps (fun e w'=>∃ r own',(je p S H).post r/\EZ F w own o.length e own' w' ((je p S H).res r)) a1.defers .returning w2:=by
    intro F2 own2 st2 a2 w2 hF2 hst2 hdone;have hB:StRel F2 { w:=w,own:=own} fn.ntmps own2 st2 { a2 with defers:=[]} w2:=⟨hst2.size,Dfr.nil,hst2.hp,hst1.fr.trans ⟨hst2.fr.ids,hst2.fr.base,hst2.fr.os,hst2.fr.tape,hst2.fr.output,hst2.fr.size,hst2.fr.block⟩,hst2.slots⟩;have hkeep:∀ D∈Ds,w2.heap[D]? =some (.deferred (some [])):=fun D hD=>by
     rw[hst2.fr.block D ⟨nA (k3 D hD).2.2,hbd D hD⟩];exact(k3 D hD).2.2
    rw[k0',<-List.append_nil ms];refine uL (by simp) Ds ms w2 k1 k2 hkeep fun w4 hs=>?_;have hst4:=(hB.shut (Ds:=Ds) (fun D hD=>⟨(k3 D hD).1,hF2 D (k3 D hD).2.1,hkeep D hD⟩) hs).less (fun c hc=>hF2 c (hF1 c hc)) rfl;cases hres:lz (j8 ts st2 fn.results.toList)with
    |none=>rw[hres]at hdone;exact hdone.elim
    |some s=>
     obtain⟨u,e1,e2⟩:=vB (P:=P) hts hst4 hres;rw[hres]at hdone;obtain⟨hS,js,q3,q4⟩:=hdone;obtain⟨k1,k2,_,_⟩:=Cg q4 hst4.hp hst4.fr hn0 q3;refine⟨u,e1,(),hU js H own2,trivial,⟨u,rfl,?_⟩,k1,k2,q3⟩;subst hS;exact y7 ((Hw hst4.hp s u e2).over (RI s) fun b hb=>ON q4.1.2.1 hH hb)
   have hinv:∀ w2:World,(invoke (.fn (.func g) #[]) #[.pointer (some ⟨b,0,none⟩)]).run P w2=.ok (.enter g #[.pointer (some ⟨b,0,none⟩)]) w2:=fun w2=>by simp[invoke,go_sem,hrec.1]
   refine wpIn_mono (ma hm hts hG c1 hc1 hl' F1 _ _ hx1 own1 _ w1 hr2) ?_;have idle:∀ (a':Act) (w':World) F2 own2 st2,(∀ b,F1 b->F2 b)->StRel F2 B fn.ntmps own2 st2 a' w'->FE pks o.length S H st2.h (lz (j8 ts st2 fn.results.toList))->
     LeavesInM (rd none) 0 P fn a'.tmps (fun e w'=>∃ r own',(je p S H).post r/\EZ F w own o.length e own' w' ((je p S H).res r)) a'.defers .returning w':=by
    intro a' w' F2 own2 st2 hF2 hst2 hdone;refine jp hst2 (by simp) fun w2 hst3=>?_;refine⟨by simp,.inr ⟨fun h=>(by cases h),.func g,#[],g,#[.pointer (some ⟨b,0,none⟩)],rfl,hinv w2,fun _ _=>trivial,?_⟩⟩;refine(hrec.2.1 ⟨b,0,none⟩ w2).mono ?_;rintro e u' w3 ⟨⟨v,rfl⟩,rfl,rfl⟩;exact fin F2 own2 st2 { a' with defers:=B.ds} _ hF2 hst3 hdone
   intro e a' w' hq;cases e with
   |normal=>obtain⟨F2,own2,st2,h0,h1,h2⟩:=hq;exact idle a' w' F2 own2 st2 h0 h1 h2
   |ret=>obtain⟨F2,own2,st2,h0,h1,h2⟩:=hq;exact idle a' w' F2 own2 st2 h0 h1 h2
   |exit jd=>obtain⟨F2,own2,st2,h0,h1,h2⟩:=hq;exact h2.elim
   |panic ch=>
    obtain⟨x,F2,own2,st2,h0,h1,hm,rfl⟩:=hq;change KP pks o.length fn.results.toList ts S H id st2 (RC x)at hm;cases m1:RC x with
    |none=>rw[m1]at hm;exact hm.elim
    |some s=>
    rw[m1]at hm;obtain⟨hm2,m4,m3⟩:=hm;obtain⟨y,m2⟩:=Cq hm2;refine jp h1 (by simp) fun w2 hst3=>?_;refine⟨by simp,.inr ⟨fun h=>(by cases h),.func g,#[],g,#[.pointer (some ⟨b,0,none⟩)],rfl,hinv w2,fun _ _=>trivial,?_⟩⟩;obtain⟨hd2,e2,l2⟩:=hst3.fr.ids id hd ho;refine(hrec.2.2 x s m1 F2 own2 w2 st2.h id hd2 b y m4 hst3.hp m2 e2 (l2.1.trans hp)).mono ?_;rintro e u' w3 ⟨⟨v,rfl⟩,rfl,own3,q1,q2⟩;exact fin F2 own3 ⟨st2.t,_⟩ { a' with defers:=B.ds} w3 h0 (hst3.moved q1 q2) m3
   |_=>exact hq.elim
  |ret=>obtain⟨F1,own,st,h0,h1,h2,_⟩:=hq;cases h2
  |exit jd=>obtain⟨F1,own,st,h0,h1,h2,_⟩:=hq;cases h2
  |panic ch=>obtain⟨x,F1,own,st,h0,h1,⟨h2,_⟩,_⟩:=hq;cases h2
  |_=>exact hq.elim
end
end Go.Sx
end
