/- Part of the proof that the law JudgementRight returns true and leaves its arguments as they were, for all arguments of bulk at most 1048576 (the Upto form). -/
import Derived.Test.YtnanafpgfihjfaaGreatJ212
import Derived.Test.YtnanafpgfihjfaaGreatJ210
import Derived.Test.YtnanafpgfihjfaaGreatJ208
import Derived.Test.YtnanafpgfihjfaaGreatJ209
import Derived.Test.YtnanafpgfihjfaaGreatJ207
import Derived.Test.YtnanafpgfihjfaaGreatJ211
set_option linter.all false
set_option maxHeartbeats 4000000
set_option maxRecDepth 100000
section
namespace Go.Sx
open Go.Proofs
open IntKind (i64)
@[go_sem] def fW (s_:List Clause)(k_0:Nat)(s_0:Unit):Int⊕Unit:=(bif(tu (s_.getD k_0 (default:Clause)))then .inl (k_0:Int)else .inr ())
def et (s_:List Clause):Int:=(match aw (fW s_) s_.length 0 ()with| .inl x_0_0=>x_0_0| .inr s_0=>(-1))
@[go_sem] def gf:List SV→Option Con:=(pR .clause fun s_=>(pFn 115 (pE ((pE (.det True (.v (.int .i64 (et s_)))))))))
theorem jW:FnOk Tryz.prog 156 gf:=by
 have hG:ConsOk Tryz.prog (mkG [(115,fun l=>uZ (bA [.st .clause] l))] []):=av (cgc (zh.norm [.st .clause]) cg0) cg0;refine ay [.o] mixed ap hG (fn:=Tryz.f156) (c:=ae Tryz.f156) kr kr kr kr (bY fun s_=>(bB (ak ((ak (fun hp=>?_))))));dsimp only[ax]at hp;refine⟨nbl rfl,(fun id st=>bif Nat.beq id 0 then some (LCR (ρ:=Int) (σ:=Unit) 0 [] [] (fun k_0 s_0=>⟨[(0,.rs .clause s_),(1,.fn 115 [] []),(7,.v (.int .i64 (s_.length:Int))),(8,.v (.int .i64 (k_0:Int)))],[]⟩) (fW s_) pT s_.length () (s_.length≤aQ) (fun _=>.ret) (fun x_0_0=>⟨[(4,.v (.int .i64 x_0_0))],[]⟩) st)else none),?_,?_⟩
 ·unfold ae Tryz.f156;simp only[aq,true_and,and_true]
  ·refine aY mixed ap hG kr (fun _=>rfl) (s_.length:Int) rfl im (fun hb0 k_0 s_0 hlt0 _ hw hc=>⟨L0,ah _,?_⟩) (fun hb0 s_0 hc=>?_)
   ·exact bZ (jl [])
   ·exact bQ (jl [])
 ·unfold ae Tryz.f156;try unfold et
  exact zq1
@[go_sem] noncomputable def d6:List SV→Option Con:=fun l=>(orC (bt l) (orC (cp l) (orC (cq l) (orC (cr l) (orC (ct l) (orC (dV l) (orC (dW l) (gf l))))))))
theorem kz:FnOk Tryz.prog 156 d6:=(FnOk.or cd (FnOk.or dD (FnOk.or dE (FnOk.or dF (FnOk.or dH (FnOk.or fT (FnOk.or fV jW)))))))
def ce (s_:List Clause):Bool:=(decide ((et s_)≥0))
@[go_sem] def fv:List SV→Option Con:=(pR .clause fun s_=>(pFn 115 (pE ((pE (.det True (.v (.bool (ce s_)))))))))
theorem XF {p:Prop}(h:p:=by simp only[go_sem,Nat.reduceBEq,Nat.reduceLeDiff,Nat.reduceLT,decide_true,Nat.reduceAdd,Nat.reduceSub,Nat.reduceMul,Int.reduceLE,Int.reduceLT,Int.reduceToNat,Int.reduceNeg,reduceCtorEq,d6];all_goals exact cl):p:=h
theorem jf:FnOk Tryz.prog 116 fv:=by
 have hG:ConsOk Tryz.prog (mkG [(156,fun l=>d6 (bA [.sl .clause,.o] l))] []):=av (cgc (kz.norm [.sl .clause,.o]) cg0) cg0;refine ay [.o] mixed ap hG (fn:=Tryz.f116) (c:=ae Tryz.f116) kr kr kr kr (bY fun s_=>(bB (ak ((ak (fun hp=>?_))))));dsimp only[ax]at hp;refine⟨nbl rfl,L0,ah _,?_⟩
 ·unfold ae Tryz.f116;try unfold ce
  exact XF
@[go_sem] noncomputable def bk:List SV→Option Con:=fun l=>(orC (bT l) (orC (bU l) (orC (bV l) (orC (bW l) (orC (di l) (orC (dp l) (fv l)))))))
theorem jq:FnOk Tryz.prog 116 bk:=(FnOk.or c9 (FnOk.or da (FnOk.or db (FnOk.or dc (FnOk.or fl (FnOk.or fo jf))))))
@[go_sem] def o9 (a0:Plea)(k_0:Nat)(s_0:Bool×Int):Empty⊕(Bool×Int):=.inr (((((((s_0.1&&(decide ((a0.clauses.getD k_0 (default:Clause)).no > s_0.2)))&&(decide ((a0.clauses.getD k_0 (default:Clause)).no≤1048576)))&&(il ((a0.clauses.getD k_0 (default:Clause)).then_)))&&(decide ((a0.clauses.getD k_0 (default:Clause)).rank≥0)))&&(decide ((a0.clauses.getD k_0 (default:Clause)).rank≤1048576)))&&(km ((a0.clauses.getD k_0 (default:Clause)).if_))),(a0.clauses.getD k_0 (default:Clause)).no)
def jN (a0:Plea)(k_0:Nat)(s_0:Bool×Int):Prop:=((((((s_0.1&&(decide ((a0.clauses.getD k_0 (default:Clause)).no > s_0.2)))&&(decide ((a0.clauses.getD k_0 (default:Clause)).no≤1048576)))&&(il ((a0.clauses.getD k_0 (default:Clause)).then_)))&&(decide ((a0.clauses.getD k_0 (default:Clause)).rank≥0)))&&(decide ((a0.clauses.getD k_0 (default:Clause)).rank≤1048576)))=true→(jH ((a0.clauses.getD k_0 (default:Clause)).if_)))
@[go_sem] def o_ (a0:Plea)(z_1:Int)(s_1:Unit):Unit⊕Unit:=(bif((fZ .int .bool (eU a0) z_1)&&(fZ .int .bool (eU a0) (i64.wrap (0 - z_1))))then .inl ()else .inr ())
def zi (a0:Plea)(z_1:Int)(s_1:Unit):Prop:=True
def gP (a0:Plea):Int:=(bif(((decide ((a0.facts.length:Int) > 64)) ||(decide ((a0.clauses.length:Int) > 64))) ||(ce a0.clauses))then 2 else(match aw (o9 a0) a0.clauses.length 0 ((km a0.facts),(-1))with| .inl x=>x.elim| .inr s_0=>(bif(!s_0.1)then 510 else(match mZ (o_ a0) aP ()with| .inl x_1_0=>510| .inr s_1=>0))))
def jg (a0:Plea):Prop:=(a0.facts.length≤aQ→((((decide ((a0.facts.length:Int) > 64)) ||(decide ((a0.clauses.length:Int) > 64))) ||(ce a0.clauses))=false→((jH a0.facts)∧(a0.clauses.length≤aQ→(okI (o9 a0) (jN a0) a0.clauses.length 0 ((km a0.facts),(-1))∧(∀ s_0,aw (o9 a0) a0.clauses.length 0 ((km a0.facts),(-1))=.inr s_0→((!s_0.1)=false→((iC a0)∧(eM ((aP).map BX))))))))))
@[go_sem] def qf:List SV→Option Con:=(pD .plea fun a0=>(pE (.det (jg a0) (.v (.int .i64 (gP a0))))))
theorem XG {l0:List Nat}(a0:JL l0){p:Prop}(h:JL l0→p:=by intro ja;simp only[go_sem,Nat.reduceBEq,Nat.reduceLeDiff,Nat.reduceLT,decide_true,Nat.reduceAdd,Nat.reduceSub,Nat.reduceMul,Int.reduceLE,Int.reduceLT,Int.reduceToNat,Int.reduceNeg,reduceCtorEq,bk,o_,psT,BX,List.cons_append,List.nil_append];all_goals exact kF ja):p:=h a0
theorem Rc {l0:List Nat}(a0:JL l0){p:Prop}(h:JL l0→p:=by intro ja;simp only[go_sem,Nat.reduceBEq,Nat.reduceLeDiff,Nat.reduceLT,decide_true,Nat.reduceAdd,Nat.reduceSub,Nat.reduceMul,Int.reduceLE,Int.reduceLT,Int.reduceToNat,Int.reduceNeg,reduceCtorEq,bk];all_goals exact kF ja):p:=h a0
theorem XH {p:Prop}(h:p:=by simp only[go_sem,Nat.reduceBEq,Nat.reduceLeDiff,Nat.reduceLT,decide_true,Nat.reduceAdd,Nat.reduceSub,Nat.reduceMul,Int.reduceLE,Int.reduceLT,Int.reduceToNat,Int.reduceNeg,reduceCtorEq,bk];all_goals exact cl):p:=h
theorem sg:FnOk Tryz.prog 67 qf:=by
 have hG:ConsOk Tryz.prog (mkG [(83,nQ),(116,fun l=>bk (bA [.sl .clause,.o] l)),(117,fun l=>wh (bA [.sl .int] l)),(118,fun l=>sf (bA [.st .plea] l)),(119,fun l=>pZ (bA [] l))] []):=av (cgc pW (cgc (jq.norm [.sl .clause,.o]) (cgc (zZ.norm [.sl .int]) (cgc (u4.norm [.st .plea]) (cgc (s5.norm []) cg0))))) cg0;refine ay [.o] mixed ap hG (fn:=Tryz.f67) (c:=ae Tryz.f67) kr kr kr kr (bF fun a0=>(ak (fun hp=>?_)));dsimp only[ax]at hp;unfold jg at hp;refine⟨nbl rfl,(fun id st=>bif Nat.beq id 0 then some (LCR (ρ:=Empty) (σ:=(Bool×Int)) 2 [] [0,1] (fun k_0 s_0=>⟨[(1,.ptr 0 0),(2,.ptr 1 0),(4,.v (.bool s_0.1)),(5,.v (.int .i64 s_0.2)),(30,.rs .clause a0.clauses),(31,.v (.int .i64 (a0.clauses.length:Int))),(32,.v (.int .i64 (k_0:Int)))],[.cells (cellsOf .plea a0),.cells [.v (.int .i64 0)]]⟩) (o9 a0) (jN a0) a0.clauses.length ((km a0.facts),(-1)) (a0.clauses.length≤aQ) ((·.elim)) ((·.elim)) st)else bif Nat.beq id 2 then some (LC (ρ:=Unit) (σ:=Unit) (lk 2 st.t=.ptr 1 0∧lk 8 st.t=.ptr 3 0∧lk 75 st.t=.fn 159 [] []∧st.h=[.cells (cellsOf .plea a0),.cells [.v (.int .i64 0)],.mp .int .bool (eU a0) none,.cells [.os 2]]∧eM ((aP).map BX)) (mZ (o_ a0) aP ()) (fun _=>.ret) (fun x_1_0=>⟨[(2,.ptr 1 0),(8,.ptr 3 0)],[.dead,.cells [.v (.int .i64 510)],.mp .int .bool (eU a0) none,.cells [.os 2]]⟩) (fun s_1=>⟨[(2,.ptr 1 0),(8,.ptr 3 0)],[.dead,.cells [.v (.int .i64 0)],.mp .int .bool (eU a0) none,.cells [.os 2]]⟩))else none),?_,?_⟩
 ·unfold ae Tryz.f67;simp only[aq,true_and,and_true];refine⟨?_,?_⟩
  ·refine aY mixed ap hG kr (fun _=>rfl) (a0.clauses.length:Int) rfl im (fun hb0 k_0 s_0 hlt0 hq0 hw hc=>⟨L0,ah _,?_⟩) (fun hb0 s_0 hc=>?_)
   ·unfold jN at hq0;try simp only[hw,Int.toNat_natCast]at hq0
    exact bZ (jl [0,1])
   ·exact bQ (jl [0,1])
  ·refine yY mixed ap hG (by decide) (by decide) kr kr fun st lc hC hp=>?_;simp only[go_sem,Nat.reduceBEq,Option.some.injEq]at hC;subst hC;obtain⟨t,h⟩:=st;dsimp only[LC]at hp;obtain⟨e1_0,e1_1,e1_2,rfl,hb1⟩:=hp;refine⟨159,[],Int,_,_,aP,BX,(o_ a0),(zi a0),_,(),_,_,_,[(2,.ptr 1 0),(8,.ptr 3 0)],(fun s_1=>[.dead,.cells [.v (.int .i64 0)],.mp .int .bool (eU a0) none,.cells [.os 2]]),(fun x_1_0=>[.dead,.cells [.v (.int .i64 510)],.mp .int .bool (eU a0) none,.cells [.os 2]]),[0,1,2,3],?_,rfl,I6 _ _ fun _ _ _=>trivial,nbl rfl,?_,rt _ hb1,fun z_1 s_1 hq1=>⟨rfl,L0,fun l=>?_,fun l=>?_,?_⟩,fun s_1=>?_,fun y=>?_⟩
   ·simp only[go_sem,e1_0,e1_1,e1_2]
   ·simp only[go_sem,Nat.reduceBEq,Nat.reduceLeDiff,Nat.reduceLT,decide_true,Nat.reduceAdd,Nat.reduceSub,Nat.reduceMul,Int.reduceLE,Int.reduceLT,Int.reduceToNat,Int.reduceNeg,reduceCtorEq,vO,nW,List.flatMap_cons,List.flatMap_nil,List.nil_append,List.append_nil,List.map_nil,e1_0,e1_1,e1_2];all_goals (first|done|decide|(repeat' (first|refine And.intro ?_ ?_|rfl|decide)))
   ·simp only[aq,and_self,true_and,and_true]
   ·simp only[aq,and_self,true_and,and_true]
   ·skip
    exact XG (jl [0,1,2,3])
   ·exact Rc (jl [0,1,2,3])
   ·exact Rc (jl [0,1,2,3])
 ·unfold ae Tryz.f67;try unfold gP
  exact XH
def jO (k1:PleasCourt)(q1:Int):Bool:=(kX k1 q1)
@[go_sem] def mV:List SV→Option Con:=(pFn 170 (pXX .pleasCourt fun k1=>(pX .int fun q1=>(pE ((pE (.det True (.v (.bool (jO k1 q1))))))))))
theorem sh:FnOk Tryz.prog 177 mV:=by
 have hG:ConsOk Tryz.prog (mkG [(170,oB)] []):=av (cgc tv cg0) cg0;refine ay [.o] mixed ap hG (fn:=Tryz.f177) (c:=ae Tryz.f177) kr kr kr kr (bB (bC fun k1=>(aR fun q1=>(ak ((ak (fun hp=>?_)))))));dsimp only[ax]at hp;refine⟨nbl rfl,L0,ah _,?_⟩
 ·unfold ae Tryz.f177;try unfold jO
  exact zq1
def jP (k2:PleasCourt)(q2:Int):Bool:=(kY k2 q2)
@[go_sem] def mW:List SV→Option Con:=(pFn 171 (pXX .pleasCourt fun k2=>(pX .int fun q2=>(pE ((pE (.det True (.v (.bool (jP k2 q2))))))))))
theorem sj:FnOk Tryz.prog 177 mW:=by
 have hG:ConsOk Tryz.prog (mkG [(171,oC)] []):=av (cgc tw cg0) cg0;refine ay [.o] mixed ap hG (fn:=Tryz.f177) (c:=ae Tryz.f177) kr kr kr kr (bB (bC fun k2=>(aR fun q2=>(ak ((ak (fun hp=>?_)))))));dsimp only[ax]at hp;refine⟨nbl rfl,L0,ah _,?_⟩
 ·unfold ae Tryz.f177;try unfold jP
  exact zq1
def jQ (k3:PleasCourt)(q3:Int):Bool:=(kZ k3 q3)
@[go_sem] def mX:List SV→Option Con:=(pFn 173 (pXX .pleasCourt fun k3=>(pX .int fun q3=>(pE ((pE (.det True (.v (.bool (jQ k3 q3))))))))))
theorem sn:FnOk Tryz.prog 177 mX:=by
 have hG:ConsOk Tryz.prog (mkG [(173,oD)] []):=av (cgc tx cg0) cg0;refine ay [.o] mixed ap hG (fn:=Tryz.f177) (c:=ae Tryz.f177) kr kr kr kr (bB (bC fun k3=>(aR fun q3=>(ak ((ak (fun hp=>?_)))))));dsimp only[ax]at hp;refine⟨nbl rfl,L0,ah _,?_⟩
 ·unfold ae Tryz.f177;try unfold jQ
  exact zq1
@[go_sem] noncomputable def gG:List SV→Option Con:=fun l=>(orC (mV l) (orC (mW l) (mX l)))
theorem sB:FnOk Tryz.prog 177 gG:=(FnOk.or sh (FnOk.or sj sn))
@[go_sem] def cN (k1:PleasCourt)(q1:Int)(k2:PleasCourt)(q2:Int)(k3:PleasCourt)(q3:Int)(k_0:Nat)(s_0:Unit):Int⊕Unit:=(bif(Nat.beq k_0 0)then(bif(jO k1 q1)then .inl 0 else .inr ())else(bif(Nat.beq k_0 1)then(bif(jP k2 q2)then .inl 1 else .inr ())else(bif(jQ k3 q3)then .inl 2 else .inr ())))
def gl (k1:PleasCourt)(q1:Int)(k2:PleasCourt)(q2:Int)(k3:PleasCourt)(q3:Int)(k_0:Nat)(s_0:Unit):Prop:=True
def eX (k1:PleasCourt)(q1:Int)(k2:PleasCourt)(q2:Int)(k3:PleasCourt)(q3:Int):Int:=(match aw (cN k1 q1 k2 q2 k3 q3) 3 0 ()with| .inl x_0_0=>x_0_0| .inr s_0=>(-1))
@[go_sem] def gQ:List SV→Option Con:=(pLS (pFn 170 (pXX .pleasCourt fun k1=>(pX .int fun q1=>(pE ((pFn 171 (pXX .pleasCourt fun k2=>(pX .int fun q2=>(pE ((pFn 173 (pXX .pleasCourt fun k3=>(pX .int fun q3=>(pE ((pE ((pFn 177 (pE ((pE (.det True (.v (.int .i64 (eX k1 q1 k2 q2 k3 q3))))))))))))))))))))))))))
theorem XI {p:Prop}(h:p:=by simp only[go_sem,Nat.reduceBEq,Nat.reduceLeDiff,Nat.reduceLT,decide_true,Nat.reduceAdd,Nat.reduceSub,Nat.reduceMul,Int.reduceLE,Int.reduceLT,Int.reduceToNat,Int.reduceNeg,reduceCtorEq,gG];all_goals exact cl):p:=h
theorem lJ:FnOk Tryz.prog 210 gQ:=by
 have hG:ConsOk Tryz.prog (mkG [(177,gG)] []):=av (cgc sB cg0) cg0;refine ay [.o] mixed ap hG (fn:=Tryz.f210) (c:=ae Tryz.f210) kr kr kr kr (Jc (bB (bC fun k1=>(aR fun q1=>(ak ((bB (bC fun k2=>(aR fun q2=>(ak ((bB (bC fun k3=>(aR fun q3=>(ak ((ak ((bB (ak ((ak (fun hp=>?_)))))))))))))))))))))));dsimp only[ax]at hp;refine⟨nbl rfl,(fun id st=>bif Nat.beq id 0 then some (LC (ρ:=Int) (σ:=Unit) (lk 0 st.t=.ls [.fn 170 [] [.ep [.ep (cellsOf .pleasCourt k1) 0] 0,.ep [.v (.int .i64 q1)] 0],.fn 171 [] [.ep [.ep (cellsOf .pleasCourt k2) 0] 0,.ep [.v (.int .i64 q2)] 0],.fn 173 [] [.ep [.ep (cellsOf .pleasCourt k3) 0] 0,.ep [.v (.int .i64 q3)] 0]]∧lk 1 st.t=.fn 177 [] []∧lk 7 st.t=.v (.int .i64 3)∧lk 8 st.t=.v (.int .i64 0)∧st.h=[]) (aw (cN k1 q1 k2 q2 k3 q3) 3 0 ()) (fun _=>.ret) (fun x_0_0=>⟨[(4,.v (.int .i64 x_0_0))],[]⟩) (fun s_0=>⟨[],[]⟩))else none),?_,?_⟩
 ·unfold ae Tryz.f210;simp only[aq,true_and,and_true]
  ·refine Kq mixed ap hG kr fun st lc hC hp=>?_;simp only[go_sem,Nat.reduceBEq,Option.some.injEq]at hC;subst hC;obtain⟨t,h⟩:=st;dsimp only[LC]at hp;obtain⟨e0_0,e0_1,e0_2,e0_3,rfl⟩:=hp;refine⟨_,_,_,(cN k1 q1 k2 q2 k3 q3),(gl k1 q1 k2 q2 k3 q3),3,(),_,_,_,(fun k_0 s_0=>⟨[(0,.ls [.fn 170 [] [.ep [.ep (cellsOf .pleasCourt k1) 0] 0,.ep [.v (.int .i64 q1)] 0],.fn 171 [] [.ep [.ep (cellsOf .pleasCourt k2) 0] 0,.ep [.v (.int .i64 q2)] 0],.fn 173 [] [.ep [.ep (cellsOf .pleasCourt k3) 0] 0,.ep [.v (.int .i64 q3)] 0]]),(1,.fn 177 [] []),(7,.v (.int .i64 3)),(8,.v (.int .i64 (k_0:Int)))],[]⟩),⟨t,[]⟩,[],rfl,mL _ _ _ fun _ _ _ _=>trivial,NilS.refl _,nbl rfl,?_,fun k_0 s_0 hk0 hp0=>?_⟩
   ·simp only[go_sem,Nat.reduceBEq,Nat.reduceLeDiff,Nat.reduceLT,decide_true,Nat.reduceAdd,Nat.reduceSub,Nat.reduceMul,Int.reduceLE,Int.reduceLT,Int.reduceToNat,Int.reduceNeg,reduceCtorEq,e0_0,e0_1,e0_2,e0_3];all_goals (first|done|decide|(repeat' (first|refine And.intro ?_ ?_|rfl|decide)))
   refine⟨L0,?_,?_⟩
   ·simp only[aq,and_self,true_and,and_true]
   ·have hkk:k_0=0∨k_0=1∨k_0=2∨k_0=3:=by omega
    have hw0_0:i64.wrap ((0:Int)+1)=((0+1:Nat):Int):=by decide
    have hw0_1:i64.wrap ((1:Int)+1)=((1+1:Nat):Int):=by decide
    have hw0_2:i64.wrap ((2:Int)+1)=((2+1:Nat):Int):=by decide
    rcases hkk with rfl|rfl|rfl|rfl;all_goals try (have hq0:=hp0 (by decide))
    all_goals try unfold gl at hq0
    all_goals try simp only[go_sem,Nat.reduceBEq,Nat.reduceEqDiff,cond_true,cond_false,true_imp_iff,false_imp_iff,Bool.false_eq_true,true_and,and_true,reduceCtorEq]at hq0
    all_goals simp only[go_sem,Nat.reduceBEq,Nat.reduceLeDiff,Nat.reduceLT,decide_true,Nat.reduceAdd,Nat.reduceSub,Nat.reduceMul,Int.reduceLE,Int.reduceLT,Int.reduceToNat,Int.reduceNeg,reduceCtorEq,gG,cN,Int.cast_ofNat_Int,Nat.reduceLT,Nat.reduceEqDiff]
    all_goals exact kF (jl [])
 ·unfold ae Tryz.f210;try unfold eX
  exact XI
def eD (k1:PleasCourt)(q1:Int)(k2:PleasCourt)(q2:Int)(k3:PleasCourt)(q3:Int):Bool:=(decide ((eX k1 q1 k2 q2 k3 q3)≥0))
@[go_sem] def gm:List SV→Option Con:=(pLS (pFn 170 (pXX .pleasCourt fun k1=>(pX .int fun q1=>(pE ((pFn 171 (pXX .pleasCourt fun k2=>(pX .int fun q2=>(pE ((pFn 173 (pXX .pleasCourt fun k3=>(pX .int fun q3=>(pE ((pE ((pFn 177 (pE ((pE (.det True (.v (.bool (eD k1 q1 k2 q2 k3 q3))))))))))))))))))))))))))
theorem kA:FnOk Tryz.prog 176 gm:=by
 have hG:ConsOk Tryz.prog (mkG [(210,gQ)] []):=av (cgc lJ cg0) cg0;refine ay [.o] mixed ap hG (fn:=Tryz.f176) (c:=ae Tryz.f176) kr kr kr kr (Jc (bB (bC fun k1=>(aR fun q1=>(ak ((bB (bC fun k2=>(aR fun q2=>(ak ((bB (bC fun k3=>(aR fun q3=>(ak ((ak ((bB (ak ((ak (fun hp=>?_)))))))))))))))))))))));dsimp only[ax]at hp;refine⟨nbl rfl,L0,ah _,?_⟩
 ·unfold ae Tryz.f176;try unfold eD
  exact zq1
def jt (k_:PleasCourt)(q:Int):Bool:=((!(fZ .int .bool k_.strict q))&&(eD k_ q k_ q k_ q))
@[go_sem] def pt:List SV→Option Con:=(pX .pleasCourt fun k_=>(pI fun q=>(pE (.det True (.v (.bool (jt k_ q)))))))
theorem uQ:FnOk Tryz.prog 134 pt:=by
 have hG:ConsOk Tryz.prog (mkG [(176,gm)] []):=av (cgc kA cg0) cg0;refine ay [.o] mixed ap hG (fn:=Tryz.f134) (c:=ae Tryz.f134) kr kr kr kr (aR fun k_=>(dh fun q=>(ak (fun hp=>?_))));dsimp only[ax]at hp;refine⟨nbl rfl,L0,ah _,?_⟩
 ·unfold ae Tryz.f134;try unfold jt
  exact zq1
def To (k:Option HCon):List Ob→Option HCon
 | [] =>k
 |_=>none
@[go_sem] theorem XJ {k:Option HCon}:To k []=k:=(rfl)
theorem NB {k:Option HCon}{h:List Ob}{c:HCon}(e:To k h=some c):h=[]∧k=some c:=by
 cases h with
 |nil=>exact⟨rfl,e⟩
 |cons=>cases e
@[go_sem] def Tp (p:Plea)(st:List (Int×Bool))(kn:List (Int×Int)):List Ob:=[.cells [.rs .int p.facts,.rs .clause p.clauses,.os 1,.os 2],.mp .int .bool st none,.mp .int .int kn none]
@[go_sem] noncomputable def p5:List SV→List Ob→Option HCon:=fun l h=>To (pD .plea (fun p=>pE (i5 (iC p) (.ptr 0 0) (Tp p (eU p) []))) l) h
theorem yA:FnOkO Tryz.prog 84 p5:=by
 have hG:ConsOk Tryz.prog (mkG [(118,fun l=>sf (bA [.st .plea] l))] []):=av (cgc (u4.norm [.st .plea]) cg0) cg0;refine oM mixed ap hG (fn:=Tryz.f84) (c:=ae Tryz.f84) kr kr kr kr fun l o con h=>?_;unfold p5 at h;obtain⟨rfl,h⟩:=NB h;obtain⟨p,r1,rfl,h1⟩:=Me h;obtain⟨rfl,rfl⟩:=Bk h1;clear h h1;refine⟨_,_,_,rfl,fun hp=>?_⟩;refine⟨nbl rfl,L0,ah _,?_⟩;unfold ae Tryz.f84;simp only[go_sem,Nat.reduceBEq,Nat.reduceLeDiff,Nat.reduceLT,decide_true,Nat.reduceAdd,Nat.reduceSub,Nat.reduceMul,Int.reduceLE,Int.reduceLT,Int.reduceToNat,Int.reduceNeg,reduceCtorEq];refine⟨hp,rfl,?_⟩;exact fk (jl [3,1,2])
def iZ (x:Reason)(facts:List Int)(clauses:List Clause)(strict_:List (Int×Bool))(known_:List (Int×Int)):List (Int×Int):=(bif x.proved then(lr .int .int (lr .int .int known_ x.literal 2) x.literal 1)else(lr .int .int known_ x.literal 2))
noncomputable def nj:List SV→List Ob→Option HCon:=pL (fun x_:Reason×(List Int)×(List Clause)×(List (Int×Bool))×(List (Int×Int)) =>[.ptr 0 0,.agg (cellsOf .reason x_.1)]) (fun x_=>[.cells [.rs .int x_.2.1,.rs .clause x_.2.2.1,.os 1,.os 2],.mp .int .bool x_.2.2.2.1 none,.mp .int .int x_.2.2.2.2 none]) (fun x_=>i5 True (.tup []) [.cells [.rs .int x_.2.1,.rs .clause x_.2.2.1,.os 1,.os 2],.mp .int .bool x_.2.2.2.1 none,.mp .int .int (iZ x_.1 x_.2.1 x_.2.2.1 x_.2.2.2.1 x_.2.2.2.2) none])
@[go_sem] theorem EA (x:Reason)(facts:List Int)(clauses:List Clause)(strict_:List (Int×Bool))(known_:List (Int×Int)){p1_:Option (Nat×Option Tag.int.T)}(hp1_:p1_=none){p2_:Option (Nat×Option Tag.int.T)}(hp2_:p2_=none):nj ([.ptr 0 0,.agg [.v (.int .i64 x.literal),.v (.int .i64 x.clause),.v (.bool x.proved)]]) ([.cells [.rs .int facts,.rs .clause clauses,.os 1,.os 2],.mp .int .bool strict_ p1_,.mp .int .int known_ p2_])=some (i5 True (.tup []) [.cells [.rs .int facts,.rs .clause clauses,.os 1,.os 2],.mp .int .bool strict_ none,.mp .int .int (iZ x facts clauses strict_ known_) none]):=by
 subst hp1_;subst hp2_;exact mP (A:=fun x_:Reason×(List Int)×(List Clause)×(List (Int×Bool))×(List (Int×Int)) =>[.ptr 0 0,.agg (cellsOf .reason x_.1)]) (H:=fun x_=>[.cells [.rs .int x_.2.1,.rs .clause x_.2.2.1,.os 1,.os 2],.mp .int .bool x_.2.2.2.1 none,.mp .int .int x_.2.2.2.2 none]) (K:=fun x_=>i5 True (.tup []) [.cells [.rs .int x_.2.1,.rs .clause x_.2.2.1,.os 1,.os 2],.mp .int .bool x_.2.2.2.1 none,.mp .int .int (iZ x_.1 x_.2.1 x_.2.2.1 x_.2.2.2.1 x_.2.2.2.2) none]) (x:=(x,facts,clauses,strict_,known_))
theorem wj:FnOkO Tryz.prog 135 (nj):=by
 have hG:ConsOk Tryz.prog (mkG [] []):=av cg0 cg0;refine oM mixed ap hG (fn:=Tryz.f135) (c:=ae Tryz.f135) kr kr kr kr fun l o con h=>?_;obtain⟨⟨x,facts,clauses,strict_,known_⟩,rfl,rfl,rfl⟩:=ke h;clear h;try dsimp only
 refine⟨_,_,_,rfl,fun hp=>?_⟩;refine⟨nbl rfl,L0,?_,?_⟩
 ·unfold ae Tryz.f135;simp only[aq,and_self,true_and,and_true]
 ·unfold ae Tryz.f135;try unfold iZ
  exact t8 (jl [0,1,2])
end Go.Sx
end
section
namespace Go.Sx
open Go.RowKit
section
variable {P:Program}{ts:Tis}{G:Cons}{N:Nat}
theorem H9 (hm:P.follows .mixedOrders=true)(hts:ts.ok P)(hG:ConsOk P G){id:Nat}{g:Operand}{ps:Array Tmp}{assign body:Code}{C:St→Option LCon}
  (hpn:ps.toList.Nodup) (hpN:∀ p∈ps.toList,p<N) (hca:cg N assign=true) (hcb:cg N body=true)
  (h:∀ st0 lc,C st0=some lc→lc.pre→∃ st,NilS st0 st∧∃ (f:FuncId) (caps:List SV) (τ ρ σ:Type) (l:List τ) (mk:τ→List SV) (step:τ→σ→ρ⊕σ) (p:τ→σ→Prop) (pre:Prop) (s0:σ) (exE:ρ→Ex) (outE:ρ→St) (outN:σ→St) (T:List (Nat×SV)) (H:σ→List Ob) (Hy:ρ→List Ob) (js:List Nat),
   raw st.t g=.fn f [] caps∧lc=LC pre (mZ step l s0) exE outE outN∧okL step p l s0∧st.h.length≤(H s0).length∧Sub js st.h.length ⟨st.t,vO (nW st caps) st.h⟩ ⟨T,H s0⟩∧
   FM P f (fun y=>y::caps.map (ren (HN (nW st caps)) 3)) (FO (nW st caps) st.h) (l.map mk)∧
   (∀ x s,p x s→(mk x).length=ps.size∧∃ L,(∀ l,aq P (some l) N L assign)∧(∀ l,aq P (some l) N L body)∧exec ts G L assign ⟨psT ps.toList (mk x)++T,H s⟩ (fun e st1=>e=.normal∧exec ts G L body st1 (rgQ step exE T H Hy st.h.length id x s)))∧
   (∀ s,i4 (outN s) st.h.length ⟨T,H s⟩)∧∀ y,i4 (outE y) st.h.length ⟨T,Hy y⟩):lR P none N id (.rangeFunc g ps assign body) C:=by
 intro nd F w0 st0 lc hC hpre own a w hr;obtain⟨st,hN,hrest⟩:=h st0 lc hC hpre;obtain⟨own',hr'⟩:=hN.rel hr;refine yY hm hts hG hpn hpN hca hcb (C:=fun s=>@ite _ (s=st) (Classical.propDecidable _) (some lc) none) (fun s l e _=>?_) nd F w0 st lc (if_pos rfl) hpre own' a w hr';split at e
 ·rename_i e1;subst e1;cases e;exact hrest
 ·cases e
end
end Go.Sx
end
section
namespace Go.Sx
open Go.Proofs
open IntKind (i64)
theorem NC {l0 l1:List Nat}(a0:JL l0)(a1:JL l1){p:Prop}(h:JL l0→JL l1→p:=by intro ja jb;(first|done|(repeat' (first|with_reducible refine And.intro ?_ ?_|((with_reducible show _≠_);first|assumption|omega|(simp_all [d9,fA];done) |grind) |with_reducible intro _)) <;>(first|done|with_reducible exact Empty.elim ‹Empty› |with_reducible assumption|rfl|omega|assumption|decide|exact fk ja|exact fk jb|exact czl|(simp only[*,cond_true,cond_false,Bool.not_true,Bool.not_false,go_sem,Nat.reduceBEq,Nat.reduceLeDiff,Nat.reduceLT,decide_true,Nat.reduceAdd,Nat.reduceSub,Nat.reduceMul,Int.reduceLE,Int.reduceLT,Int.reduceToNat,Int.reduceNeg,reduceCtorEq];(repeat' (first|with_reducible refine And.intro ?_ ?_|((with_reducible show _≠_);first|assumption|omega|(simp_all [d9,fA];done) |grind) |with_reducible intro _)) <;>(first|done|assumption|rfl|omega|decide|exact fk ja|exact fk jb|(simp_all [d9,fA];done))) |(simp_all [okI,d9,fA];done) |(simp_all [d9,fA];(first|done|exact fk2 ja|exact fk2 jb)) |exact fk2 ja|exact fk2 jb|(simp_all only[d9,fA,cond_true,cond_false];(first|done|exact fk ja|exact fk jb|exact fk2 ja|exact fk2 jb|(simp only[go_sem,Nat.reduceBEq,Nat.reduceLeDiff,Nat.reduceLT,decide_true,Nat.reduceAdd,Nat.reduceSub,Nat.reduceMul,Int.reduceLE,Int.reduceLT,Int.reduceToNat,Int.reduceNeg,reduceCtorEq];((repeat' (first|with_reducible refine And.intro ?_ ?_|((with_reducible show _≠_);first|assumption|omega|(simp_all [d9,fA];done) |grind) |with_reducible intro _)) <;>(first|done|rfl|exact fk ja|exact fk jb|exact fk2 ja|exact fk2 jb)))))))):p:=h a0 a1
theorem Gv {l0 l1 l2:List Nat}(a0:JL l0)(a1:JL l1)(a2:JL l2){p:Prop}(h:JL l0→JL l1→JL l2→p:=by intro ja jb jc;(first|done|(repeat' (first|with_reducible refine And.intro ?_ ?_|((with_reducible show _≠_);first|assumption|omega|(simp_all [d9,fA];done) |grind) |with_reducible intro _)) <;>(first|done|with_reducible exact Empty.elim ‹Empty› |with_reducible assumption|rfl|omega|assumption|decide|exact fk ja|exact fk jb|exact fk jc|exact czl|(simp only[*,cond_true,cond_false,Bool.not_true,Bool.not_false,go_sem,Nat.reduceBEq,Nat.reduceLeDiff,Nat.reduceLT,decide_true,Nat.reduceAdd,Nat.reduceSub,Nat.reduceMul,Int.reduceLE,Int.reduceLT,Int.reduceToNat,Int.reduceNeg,reduceCtorEq];(repeat' (first|with_reducible refine And.intro ?_ ?_|((with_reducible show _≠_);first|assumption|omega|(simp_all [d9,fA];done) |grind) |with_reducible intro _)) <;>(first|done|assumption|rfl|omega|decide|exact fk ja|exact fk jb|exact fk jc|(simp_all [d9,fA];done))) |(simp_all [okI,d9,fA];done) |(simp_all [d9,fA];(first|done|exact fk2 ja|exact fk2 jb|exact fk2 jc)) |exact fk2 ja|exact fk2 jb|exact fk2 jc|(simp_all only[d9,fA,cond_true,cond_false];(first|done|exact fk ja|exact fk jb|exact fk jc|exact fk2 ja|exact fk2 jb|exact fk2 jc|(simp only[go_sem,Nat.reduceBEq,Nat.reduceLeDiff,Nat.reduceLT,decide_true,Nat.reduceAdd,Nat.reduceSub,Nat.reduceMul,Int.reduceLE,Int.reduceLT,Int.reduceToNat,Int.reduceNeg,reduceCtorEq];((repeat' (first|with_reducible refine And.intro ?_ ?_|((with_reducible show _≠_);first|assumption|omega|(simp_all [d9,fA];done) |grind) |with_reducible intro _)) <;>(first|done|rfl|exact fk ja|exact fk jb|exact fk jc|exact fk2 ja|exact fk2 jb|exact fk2 jc)))))))):p:=h a0 a1 a2
theorem BY {l0:List Nat}(a0:JL l0){p:Prop}(h:JL l0→p:=by intro ja;(first|done|(repeat' (first|with_reducible refine And.intro ?_ ?_|((with_reducible show _≠_);first|assumption|omega|(simp_all [d9,fA];done) |grind) |with_reducible intro _)) <;>(first|done|with_reducible exact Empty.elim ‹Empty› |with_reducible assumption|rfl|omega|assumption|decide|exact fk ja|exact czl|(simp only[*,cond_true,cond_false,Bool.not_true,Bool.not_false,go_sem,Nat.reduceBEq,Nat.reduceLeDiff,Nat.reduceLT,decide_true,Nat.reduceAdd,Nat.reduceSub,Nat.reduceMul,Int.reduceLE,Int.reduceLT,Int.reduceToNat,Int.reduceNeg,reduceCtorEq];(repeat' (first|with_reducible refine And.intro ?_ ?_|((with_reducible show _≠_);first|assumption|omega|(simp_all [d9,fA];done) |grind) |with_reducible intro _)) <;>(first|done|assumption|rfl|omega|decide|exact fk ja|(simp_all [d9,fA];done))) |(simp_all [okI,d9,fA];done) |(simp_all [d9,fA];(first|done|exact fk2 ja)) |exact fk2 ja|(simp_all only[d9,fA,cond_true,cond_false];(first|done|exact fk ja|exact fk2 ja|(simp only[go_sem,Nat.reduceBEq,Nat.reduceLeDiff,Nat.reduceLT,decide_true,Nat.reduceAdd,Nat.reduceSub,Nat.reduceMul,Int.reduceLE,Int.reduceLT,Int.reduceToNat,Int.reduceNeg,reduceCtorEq];((repeat' (first|with_reducible refine And.intro ?_ ?_|((with_reducible show _≠_);first|assumption|omega|(simp_all [d9,fA];done) |grind) |with_reducible intro _)) <;>(first|done|rfl|exact fk ja|exact fk2 ja)))))))):p:=h a0
theorem ND {l0 l1:List Nat}(a0:JL l0)(a1:JL l1){p:Prop}(h:JL l0→JL l1→p:=by intro ja jb;simp only[go_sem,Nat.reduceBEq,Nat.reduceLeDiff,Nat.reduceLT,decide_true,Nat.reduceAdd,Nat.reduceSub,Nat.reduceMul,Int.reduceLE,Int.reduceLT,Int.reduceToNat,Int.reduceNeg,reduceCtorEq];all_goals exact NC ja jb):p:=h a0 a1
theorem NE {l0:List Nat}(a0:JL l0){p:Prop}(h:JL l0→p:=by intro ja;simp only[go_sem,Nat.reduceBEq,Nat.reduceLeDiff,Nat.reduceLT,decide_true,Nat.reduceAdd,Nat.reduceSub,Nat.reduceMul,Int.reduceLE,Int.reduceLT,Int.reduceToNat,Int.reduceNeg,reduceCtorEq,hc,hw];all_goals exact BY ja):p:=h a0
theorem NF {l0:List Nat}(a0:JL l0){p:Prop}(h:JL l0→p:=by intro ja;simp only[go_sem,Nat.reduceBEq,Nat.reduceLeDiff,Nat.reduceLT,decide_true,Nat.reduceAdd,Nat.reduceSub,Nat.reduceMul,Int.reduceLE,Int.reduceLT,Int.reduceToNat,Int.reduceNeg,reduceCtorEq,hc];all_goals exact BY ja):p:=h a0
@[go_sem] def bg (facts:List Int)(clauses:List Clause)(strict_:List (Int×Bool))(s_0:List (Int×Int)×List Reason)(z_1:Int)(s_1:List Reason):Empty⊕(List Reason):=(bif((fZ .int .int s_0.1 z_1) !=0)then .inr s_1 else(bif(fZ .int .bool strict_ z_1)then .inr (s_1++([({ literal:=z_1,clause:=0,proved:=true}:Reason)]))else(bif(iA ({ plea:=({ facts:=facts,clauses:=clauses}:Plea),strict:=strict_,known:=s_0.1}:PleasCourt) z_1)then .inr (s_1++([({ literal:=z_1,clause:=(kp ({ plea:=({ facts:=facts,clauses:=clauses}:Plea),strict:=strict_,known:=s_0.1}:PleasCourt) z_1),proved:=true}:Reason)]))else(bif(jt ({ plea:=({ facts:=facts,clauses:=clauses}:Plea),strict:=strict_,known:=s_0.1}:PleasCourt) z_1)then .inr (s_1++([({ literal:=z_1,clause:=0,proved:=false}:Reason)]))else .inr s_1))))
def eF (facts:List Int)(clauses:List Clause)(strict_:List (Int×Bool))(s_0:List (Int×Int)×List Reason)(z_1:Int)(s_1:List Reason):Prop:=(((fZ .int .int s_0.1 z_1) !=0)=false→(((fZ .int .bool strict_ z_1)=true→((s_1++([({ literal:=z_1,clause:=0,proved:=true}:Reason)])).length*24≤dq))∧((fZ .int .bool strict_ z_1)=false→(((iA ({ plea:=({ facts:=facts,clauses:=clauses}:Plea),strict:=strict_,known:=s_0.1}:PleasCourt) z_1)=true→((s_1++([({ literal:=z_1,clause:=(kp ({ plea:=({ facts:=facts,clauses:=clauses}:Plea),strict:=strict_,known:=s_0.1}:PleasCourt) z_1),proved:=true}:Reason)])).length*24≤dq))∧((iA ({ plea:=({ facts:=facts,clauses:=clauses}:Plea),strict:=strict_,known:=s_0.1}:PleasCourt) z_1)=false→((jt ({ plea:=({ facts:=facts,clauses:=clauses}:Plea),strict:=strict_,known:=s_0.1}:PleasCourt) z_1)=true→((s_1++([({ literal:=z_1,clause:=0,proved:=false}:Reason)])).length*24≤dq)))))))
@[go_sem] def ld (facts:List Int)(clauses:List Clause)(strict_:List (Int×Bool))(s_1:List Reason)(k_2:Nat)(s_2:List (Int×Int)):Empty⊕(List (Int×Int)):=.inr (iZ (s_1.getD k_2 (default:Reason)) facts clauses strict_ s_2)
@[go_sem] def iJ (facts:List Int)(clauses:List Clause)(strict_:List (Int×Bool))(k_0:Nat)(s_0:List (Int×Int)×List Reason):(List (Int×Int)×List Reason)⊕(List (Int×Int)×List Reason):=(match mZ (bg facts clauses strict_ s_0) aP ([])with| .inl x=>x.elim| .inr s_1=>(bif((s_1.length:Int) ==0)then .inl (s_0.1,s_0.2)else(match aw (ld facts clauses strict_ s_1) s_1.length 0 s_0.1 with| .inl x=>x.elim| .inr s_2=>.inr (s_2,(s_0.2++s_1)))))
def fD (facts:List Int)(clauses:List Clause)(strict_:List (Int×Bool))(k_0:Nat)(s_0:List (Int×Int)×List Reason):Prop:=((eM ((aP).map BX))∧okL (bg facts clauses strict_ s_0) (eF facts clauses strict_ s_0) aP ([])∧(∀ s_1,mZ (bg facts clauses strict_ s_0) aP ([])=.inr s_1→(s_1.length≤aQ→(((s_1.length:Int) ==0)=false→(s_1.length≤aQ→(∀ s_2,aw (ld facts clauses strict_ s_1) s_1.length 0 s_0.1=.inr s_2→((s_0.2++s_1).length*24≤dq)))))))
def dX (facts:List Int)(clauses:List Clause)(strict_:List (Int×Bool))(known_:List (Int×Int)):(List (Int×Int))×(List Reason):=(match aw (iJ facts clauses strict_) 130 0 (known_,[])with| .inl x_0_0=>(x_0_0.1,x_0_0.2) | .inr s_0=>default)
def eN (facts:List Int)(clauses:List Clause)(strict_:List (Int×Bool))(known_:List (Int×Int)):Prop:=(okI (iJ facts clauses strict_) (fD facts clauses strict_) 130 0 (known_,[])∧(∀ z_,aw (iJ facts clauses strict_) 130 0 (known_,[])≠ .inr z_))
noncomputable def mu:List SV→List Ob→Option HCon:=pL (fun x_:(List Int)×(List Clause)×(List (Int×Bool))×(List (Int×Int)) =>[.ptr 0 0]) (fun x_=>[.cells [.rs .int x_.1,.rs .clause x_.2.1,.os 1,.os 2],.mp .int .bool x_.2.2.1 none,.mp .int .int x_.2.2.2 none]) (fun x_=>i5 (eN x_.1 x_.2.1 x_.2.2.1 x_.2.2.2) (.os 3) [.cells [.rs .int x_.1,.rs .clause x_.2.1,.os 1,.os 2],.mp .int .bool x_.2.2.1 none,.mp .int .int ((dX x_.1 x_.2.1 x_.2.2.1 x_.2.2.2).1) none,.row .reason ((dX x_.1 x_.2.1 x_.2.2.1 x_.2.2.2).2)])
@[go_sem] theorem Dl (facts:List Int)(clauses:List Clause)(strict_:List (Int×Bool))(known_:List (Int×Int)){p1_:Option (Nat×Option Tag.int.T)}(hp1_:p1_=none){p2_:Option (Nat×Option Tag.int.T)}(hp2_:p2_=none):mu ([.ptr 0 0]) ([.cells [.rs .int facts,.rs .clause clauses,.os 1,.os 2],.mp .int .bool strict_ p1_,.mp .int .int known_ p2_])=some (i5 (eN facts clauses strict_ known_) (.os 3) [.cells [.rs .int facts,.rs .clause clauses,.os 1,.os 2],.mp .int .bool strict_ none,.mp .int .int ((dX facts clauses strict_ known_).1) none,.row .reason ((dX facts clauses strict_ known_).2)]):=by
 subst hp1_;subst hp2_;exact mP (A:=fun x_:(List Int)×(List Clause)×(List (Int×Bool))×(List (Int×Int)) =>[.ptr 0 0]) (H:=fun x_=>[.cells [.rs .int x_.1,.rs .clause x_.2.1,.os 1,.os 2],.mp .int .bool x_.2.2.1 none,.mp .int .int x_.2.2.2 none]) (K:=fun x_=>i5 (eN x_.1 x_.2.1 x_.2.2.1 x_.2.2.2) (.os 3) [.cells [.rs .int x_.1,.rs .clause x_.2.1,.os 1,.os 2],.mp .int .bool x_.2.2.1 none,.mp .int .int ((dX x_.1 x_.2.1 x_.2.2.1 x_.2.2.2).1) none,.row .reason ((dX x_.1 x_.2.1 x_.2.2.1 x_.2.2.2).2)]) (x:=(facts,clauses,strict_,known_))
theorem XK {l0 l1 l2:List Nat}(a0:JL l0)(a1:JL l1)(a2:JL l2){p:Prop}(h:JL l0→JL l1→JL l2→p:=by intro ja jb jc;simp only[go_sem,Nat.reduceBEq,Nat.reduceLeDiff,Nat.reduceLT,decide_true,Nat.reduceAdd,Nat.reduceSub,Nat.reduceMul,Int.reduceLE,Int.reduceLT,Int.reduceToNat,Int.reduceNeg,reduceCtorEq,bg,psT,BX,List.cons_append,List.nil_append];all_goals exact Gv ja jb jc):p:=h a0 a1 a2
theorem Rd {l0 l1 l2:List Nat}(a0:JL l0)(a1:JL l1)(a2:JL l2){p:Prop}(h:JL l0→JL l1→JL l2→p:=by intro ja jb jc;simp only[go_sem,Nat.reduceBEq,Nat.reduceLeDiff,Nat.reduceLT,decide_true,Nat.reduceAdd,Nat.reduceSub,Nat.reduceMul,Int.reduceLE,Int.reduceLT,Int.reduceToNat,Int.reduceNeg,reduceCtorEq];all_goals exact Gv ja jb jc):p:=h a0 a1 a2
theorem XL {l0:List Nat}(a0:JL l0){p:Prop}(h:JL l0→p:=by intro ja;simp only[go_sem,Nat.reduceBEq,Nat.reduceLeDiff,Nat.reduceLT,decide_true,Nat.reduceAdd,Nat.reduceSub,Nat.reduceMul,Int.reduceLE,Int.reduceLT,Int.reduceToNat,Int.reduceNeg,reduceCtorEq];all_goals exact BY ja):p:=h a0
theorem vh:FnOkO Tryz.prog 85 (mu):=by
 have hG:ConsOk Tryz.prog (mkG [(119,fun l=>pZ (bA [] l)),(132,qF),(133,qB),(134,pt)] [(135,nj)]):=av (cgc (s5.norm []) (cgc vg (cgc va (cgc uQ cg0)))) (cgc wj cg0);refine oM mixed ap hG (fn:=Tryz.f85) (c:=ae Tryz.f85) kr kr kr kr fun l o con h=>?_;obtain⟨⟨facts,clauses,strict_,known_⟩,rfl,rfl,rfl⟩:=ke h;clear h;try dsimp only
 refine⟨_,_,_,rfl,fun hp=>?_⟩;unfold eN at hp;refine⟨nbl rfl,(fun id st=>bif Nat.beq id 0 then some (LCV (ρ:=(List (Int×Int)×List Reason)) (σ:=(List (Int×Int)×List Reason)) 4 [.slot 2 (.row .reason ([]))] [0,1,2,3,4] (fun k_0 s_0=>⟨[(1,.ptr 3 0),(2,.os 4)],[.cells [.rs .int facts,.rs .clause clauses,.os 1,.os 2],.mp .int .bool strict_ none,.mp .int .int s_0.1 none,.cells [.ptr 0 0],.row .reason s_0.2]⟩) (iJ facts clauses strict_) (fD facts clauses strict_) 130 (known_,[]) (fun _=>.ret) (fun x_0_0=>⟨[(2,.os 4)],[.cells [.rs .int facts,.rs .clause clauses,.os 1,.os 2],.mp .int .bool strict_ none,.mp .int .int x_0_0.1 none,.dead,.row .reason x_0_0.2]⟩) st)else none),?_,?_⟩
 ·unfold ae Tryz.f85;simp only[aq,true_and,and_true,and_assoc]
  ·refine tT mixed ap hG kr (fun _=>rfl) fun k_0 s_0 hq0=>⟨(fun id st=>bif Nat.beq id 2 then some (LC (ρ:=Empty) (σ:=List Reason) (lk 1 st.t=.ptr 3 0∧lk 2 st.t=.os 4∧lk 3 st.t=.ptr 5 0∧lk 7 st.t=.fn 159 [] []∧st.h=[.cells [.rs .int facts,.rs .clause clauses,.os 1,.os 2],.mp .int .bool strict_ none,.mp .int .int s_0.1 none,.cells [.ptr 0 0],.row .reason s_0.2,.cells [.v (.slice none 0 0)]]∧eM ((aP).map BX)∧okL (bg facts clauses strict_ s_0) (eF facts clauses strict_ s_0) aP ([])) (mZ (bg facts clauses strict_ s_0) aP ([])) (fun x=>x.elim) (fun x=>x.elim) (fun s_1=>⟨[(1,.ptr 3 0),(2,.os 4),(3,.ptr 5 0)],[.cells [.rs .int facts,.rs .clause clauses,.os 1,.os 2],.mp .int .bool strict_ none,.mp .int .int s_0.1 none,.cells [.ptr 0 0],.row .reason s_0.2,.cells [.os 7],.dead,.row .reason s_1]⟩))else bif Nat.beq id 5 then some (LCR (ρ:=Empty) (σ:=(List (Int×Int))) 8 [] [0,1,2,3,4,5,6,7] (fun k_2 s_2=>⟨[(1,.ptr 3 0),(2,.os 4),(3,.ptr 5 0),(54,.os 7),(55,.v (.int .i64 ((d9 (mZ (bg facts clauses strict_ s_0) aP ([]))).length:Int))),(56,.v (.int .i64 (k_2:Int)))],[.cells [.rs .int facts,.rs .clause clauses,.os 1,.os 2],.mp .int .bool strict_ none,.mp .int .int s_2 none,.cells [.ptr 0 0],.row .reason s_0.2,.cells [.os 7],.dead,.row .reason (d9 (mZ (bg facts clauses strict_ s_0) aP ([])))]⟩) (ld facts clauses strict_ (d9 (mZ (bg facts clauses strict_ s_0) aP ([])))) pT ((d9 (mZ (bg facts clauses strict_ s_0) aP ([]))).length) s_0.1 ((d9 (mZ (bg facts clauses strict_ s_0) aP ([]))).length≤aQ) ((·.elim)) ((·.elim)) st)else none),?_,?_⟩
   ·simp only[aq,true_and,and_true];refine⟨?_,?_⟩
    ·refine H9 mixed ap hG (by decide) (by decide) kr kr fun st lc hC hp=>?_;simp only[go_sem,Nat.reduceBEq,Option.some.injEq]at hC;subst hC;obtain⟨t,h⟩:=st;dsimp only[LC]at hp;obtain⟨e1_0,e1_1,e1_2,e1_3,rfl,hb1,hok1⟩:=hp;refine⟨⟨t,[.cells [.rs .int facts,.rs .clause clauses,.os 1,.os 2],.mp .int .bool strict_ none,.mp .int .int s_0.1 none,.cells [.ptr 0 0],.row .reason s_0.2,.cells [.os 6],.row .reason ([])]⟩,NilS.cell (h:=[.cells [.rs .int facts,.rs .clause clauses,.os 1,.os 2],.mp .int .bool strict_ none,.mp .int .int s_0.1 none,.cells [.ptr 0 0],.row .reason s_0.2,.cells [.v (.slice none 0 0)]]) (i:=5) (j:=0) (.row .reason ([])) (NilS.refl _) rfl rfl (.inl ⟨_,rfl⟩),159,[],Int,_,_,aP,BX,(bg facts clauses strict_ s_0),(eF facts clauses strict_ s_0),_,([]),_,_,_,[(1,.ptr 3 0),(2,.os 4),(3,.ptr 5 0)],(fun s_1=>[.cells [.rs .int facts,.rs .clause clauses,.os 1,.os 2],.mp .int .bool strict_ none,.mp .int .int s_0.1 none,.cells [.ptr 0 0],.row .reason s_0.2,.cells [.os 7],.dead,.row .reason s_1]),(fun x=>x.elim),[0,1,2,3,4,5,6,6],?_,rfl,hok1,nbl rfl,?_,rt _ hb1,fun z_1 s_1 hq1=>⟨rfl,L0,fun l=>?_,fun l=>?_,?_⟩,fun s_1=>?_,fun y=>?_⟩
     ·simp only[go_sem,e1_0,e1_1,e1_2,e1_3]
     ·simp only[go_sem,Nat.reduceBEq,Nat.reduceLeDiff,Nat.reduceLT,decide_true,Nat.reduceAdd,Nat.reduceSub,Nat.reduceMul,Int.reduceLE,Int.reduceLT,Int.reduceToNat,Int.reduceNeg,reduceCtorEq,vO,nW,List.flatMap_cons,List.flatMap_nil,List.nil_append,List.append_nil,List.map_nil,e1_0,e1_1,e1_2,e1_3];all_goals (first|done|decide|(repeat' (first|refine And.intro ?_ ?_|rfl|decide)))
     ·simp only[aq,and_self,true_and,and_true]
     ·simp only[aq,and_self,true_and,and_true]
     ·unfold eF at hq1;exact XK (jl [0,1,2,3,4,5,6,7]) (jl [0,1,2,3,4,5,6,9]) (jl [0,1,2,3,4,5,6,8])
     ·exact Rd (jl [0,1,2,3,4,5,6,7]) (jl [0,1,2,3,4,5,6,9]) (jl [0,1,2,3,4,5,6,8])
     ·exact Rd (jl [0,1,2,3,4,5,6,7]) (jl [0,1,2,3,4,5,6,9]) (jl [0,1,2,3,4,5,6,8])
    ·refine aY mixed ap hG kr (fun _=>rfl) ((d9 (mZ (bg facts clauses strict_ s_0) aP ([]))).length:Int) rfl im (fun hb2 k_2 s_2 hlt2 _ hw hc=>⟨L0,ah _,?_⟩) (fun hb2 s_2 hc=>?_)
     ·exact NE (jl [0,1,2,3,4,5,6,7])
     ·exact NF (jl [0,1,2,3,4,5,6,7])
   ·unfold fD at hq0;exact ND (jl [0,1,2,3,8]) (jl [0,1,2,3,4])
 ·unfold ae Tryz.f85;try unfold dX
  exact XL (jl [0,1,2,4])
def a8 (p:Plea)(q:Int):Int×Int:=(bif((gP p) !=0)then(0,(gP p))else(bif(!(il q))then(0,1)else(bif((fZ .int .int ((dX p.facts p.clauses (eU p) ([])).1) q) ==0)then(3,0)else((fZ .int .int ((dX p.facts p.clauses (eU p) ([])).1) q),0))))
def jR (p:Plea)(q:Int):Prop:=((jg p)∧(((gP p) !=0)=false→((!(il q))=false→((iC p)∧(eN p.facts p.clauses (eU p) ([]))))))
@[go_sem] def so:List SV→Option Con:=(pD .plea fun p=>(pI fun q=>(pE (.det (jR p q) (.tup [.v (.int .i64 ((a8 p q).1)),.v (.int .i64 ((a8 p q).2))])))))
theorem u5:FnOk Tryz.prog 35 so:=by
 have hG:ConsOk Tryz.prog (mkG [(67,fun l=>qf (bA [.st .plea] l)),(83,nQ)] [(84,p5),(85,mu)]):=av (cgc (sg.norm [.st .plea]) (cgc pW cg0)) (cgc yA (cgc vh cg0));refine ay [.o,.o] mixed ap hG (fn:=Tryz.f35) (c:=ae Tryz.f35) kr kr kr kr (bF fun p=>(dh fun q=>(ak (fun hp=>?_))));dsimp only[ax]at hp;unfold jR at hp;refine⟨nbl rfl,L0,ah _,?_⟩
 ·unfold ae Tryz.f35;try unfold a8
  exact zq1
@[go_sem] def nk (a0:Cases)(a1:Suit)(k_0:Nat)(s_0:List Int):Empty⊕(List Int):=(bif((a0.sides.getD (Int.toNat (a1.facts.getD k_0 (0:Int))) (0:Int)) ==1)then .inr (s_0++([(a1.facts.getD k_0 (0:Int))]))else .inr s_0)
def lf (a0:Cases)(a1:Suit)(k_0:Nat)(s_0:List Int):Prop:=((0≤(a1.facts.getD k_0 (0:Int))∧(a1.facts.getD k_0 (0:Int)) < (a0.sides.length:Int))∧(((a0.sides.getD (Int.toNat (a1.facts.getD k_0 (0:Int))) (0:Int)) ==1)=true→((s_0++([(a1.facts.getD k_0 (0:Int))])).length*8≤dq)))
@[go_sem] def nq (a0:Cases)(a1:Suit)(k_1:Nat)(s_1:List Int):Empty⊕(List Int):=(bif((a0.sides.getD (Int.toNat (a1.facts.getD k_1 (0:Int))) (0:Int)) ==0)then .inr (s_1++([(a1.facts.getD k_1 (0:Int))]))else .inr s_1)
def lg (a0:Cases)(a1:Suit)(k_1:Nat)(s_1:List Int):Prop:=((0≤(a1.facts.getD k_1 (0:Int))∧(a1.facts.getD k_1 (0:Int)) < (a0.sides.length:Int))∧(((a0.sides.getD (Int.toNat (a1.facts.getD k_1 (0:Int))) (0:Int)) ==0)=true→((s_1++([(a1.facts.getD k_1 (0:Int))])).length*8≤dq)))
@[go_sem] def nr (a0:Cases)(a1:Suit)(k_2:Nat)(s_2:List Int):Empty⊕(List Int):=(bif((a0.sides.getD (Int.toNat (a1.facts.getD k_2 (0:Int))) (0:Int)) ==1)then .inr (s_2++([(a1.facts.getD k_2 (0:Int))]))else .inr s_2)
def lh (a0:Cases)(a1:Suit)(k_2:Nat)(s_2:List Int):Prop:=((0≤(a1.facts.getD k_2 (0:Int))∧(a1.facts.getD k_2 (0:Int)) < (a0.sides.length:Int))∧(((a0.sides.getD (Int.toNat (a1.facts.getD k_2 (0:Int))) (0:Int)) ==1)=true→((s_2++([(a1.facts.getD k_2 (0:Int))])).length*8≤dq)))
@[go_sem] def nt (a0:Cases)(a1:Suit)(k_3:Nat)(s_3:List Int):Empty⊕(List Int):=(bif((a0.sides.getD (Int.toNat (a1.facts.getD k_3 (0:Int))) (0:Int)) ==0)then .inr (s_3++([(a1.facts.getD k_3 (0:Int))]))else .inr s_3)
def li (a0:Cases)(a1:Suit)(k_3:Nat)(s_3:List Int):Prop:=((0≤(a1.facts.getD k_3 (0:Int))∧(a1.facts.getD k_3 (0:Int)) < (a0.sides.length:Int))∧(((a0.sides.getD (Int.toNat (a1.facts.getD k_3 (0:Int))) (0:Int)) ==0)=true→((s_3++([(a1.facts.getD k_3 (0:Int))])).length*8≤dq)))
def io (a0:Cases)(a1:Suit):Case×Int:=(bif((dA a0) !=0)then(({ no:=0,hour:=0,winner:=0,facts:=[],reason:=[]}:Case),(dA a0))else(bif((gP a1.plea) !=0)then(({ no:=0,hour:=0,winner:=0,facts:=[],reason:=[]}:Case),(gP a1.plea))else(bif(ar ((a8 a1.plea a1.question).2==0) ((a8 a1.plea a1.question).2))then(bif(ar ((al a0 a1.facts 0).2.2==0) ((al a0 a1.facts 0).2.2))then(bif(ar ((aG a1.no 0 1048576)&&(aG a1.hour 0 4096)) 520)then(bif(decide ((a0.cases.length:Int) > 0))then(bif(ar ((decide (a1.no > (a0.cases.getD (Int.toNat (i64.wrap ((a0.cases.length:Int) - 1))) (default:Case)).no))&&(decide (a1.hour≥(a0.cases.getD (Int.toNat (i64.wrap ((a0.cases.length:Int) - 1))) (default:Case)).hour))) 520)then(bif((!(al a0 a1.facts 0).2.1)&&((al a0 a1.facts 1).2.1||((a8 a1.plea a1.question).1 !=1)))then(match aw (nk a0 a1) a1.facts.length 0 ([])with| .inl x=>x.elim| .inr s_0=>(({ no:=a1.no,hour:=a1.hour,winner:=1,facts:=a1.facts,reason:=s_0}:Case),0))else(match aw (nq a0 a1) a1.facts.length 0 ([])with| .inl x=>x.elim| .inr s_1=>(({ no:=a1.no,hour:=a1.hour,winner:=0,facts:=a1.facts,reason:=s_1}:Case),0)))else(({ no:=0,hour:=0,winner:=0,facts:=[],reason:=[]}:Case),520))else(bif((!(al a0 a1.facts 0).2.1)&&((al a0 a1.facts 1).2.1||((a8 a1.plea a1.question).1 !=1)))then(match aw (nr a0 a1) a1.facts.length 0 ([])with| .inl x=>x.elim| .inr s_2=>(({ no:=a1.no,hour:=a1.hour,winner:=1,facts:=a1.facts,reason:=s_2}:Case),0))else(match aw (nt a0 a1) a1.facts.length 0 ([])with| .inl x=>x.elim| .inr s_3=>(({ no:=a1.no,hour:=a1.hour,winner:=0,facts:=a1.facts,reason:=s_3}:Case),0))))else(({ no:=0,hour:=0,winner:=0,facts:=[],reason:=[]}:Case),520))else(({ no:=0,hour:=0,winner:=0,facts:=[],reason:=[]}:Case),((al a0 a1.facts 0).2.2)))else(({ no:=0,hour:=0,winner:=0,facts:=[],reason:=[]}:Case),((a8 a1.plea a1.question).2)))))
def sp (a0:Cases)(a1:Suit):Prop:=((fw a0)∧(((dA a0) !=0)=false→((jg a1.plea)∧(((gP a1.plea) !=0)=false→((jR a1.plea a1.question)∧((ar ((a8 a1.plea a1.question).2==0) ((a8 a1.plea a1.question).2))=true→((eL a0 a1.facts 0)∧((ar ((al a0 a1.facts 0).2.2==0) ((al a0 a1.facts 0).2.2))=true→((eL a0 a1.facts 1)∧((ar ((aG a1.no 0 1048576)&&(aG a1.hour 0 4096)) 520)=true→(a0.cases.length≤aQ→(((decide ((a0.cases.length:Int) > 0))=true→((0≤(i64.wrap ((a0.cases.length:Int) - 1))∧(i64.wrap ((a0.cases.length:Int) - 1)) < (a0.cases.length:Int))∧(((decide (a1.no > (a0.cases.getD (Int.toNat (i64.wrap ((a0.cases.length:Int) - 1))) (default:Case)).no))=true→(0≤(i64.wrap ((a0.cases.length:Int) - 1))∧(i64.wrap ((a0.cases.length:Int) - 1)) < (a0.cases.length:Int)))∧((ar ((decide (a1.no > (a0.cases.getD (Int.toNat (i64.wrap ((a0.cases.length:Int) - 1))) (default:Case)).no))&&(decide (a1.hour≥(a0.cases.getD (Int.toNat (i64.wrap ((a0.cases.length:Int) - 1))) (default:Case)).hour))) 520)=true→((((!(al a0 a1.facts 0).2.1)&&((al a0 a1.facts 1).2.1||((a8 a1.plea a1.question).1 !=1)))=true→(a1.facts.length≤aQ→okI (nk a0 a1) (lf a0 a1) a1.facts.length 0 ([])))∧(((!(al a0 a1.facts 0).2.1)&&((al a0 a1.facts 1).2.1||((a8 a1.plea a1.question).1 !=1)))=false→(a1.facts.length≤aQ→okI (nq a0 a1) (lg a0 a1) a1.facts.length 0 ([]))))))))∧((decide ((a0.cases.length:Int) > 0))=false→((((!(al a0 a1.facts 0).2.1)&&((al a0 a1.facts 1).2.1||((a8 a1.plea a1.question).1 !=1)))=true→(a1.facts.length≤aQ→okI (nr a0 a1) (lh a0 a1) a1.facts.length 0 ([])))∧(((!(al a0 a1.facts 0).2.1)&&((al a0 a1.facts 1).2.1||((a8 a1.plea a1.question).1 !=1)))=false→(a1.facts.length≤aQ→okI (nt a0 a1) (li a0 a1) a1.facts.length 0 ([])))))))))))))))))
@[go_sem] def sq:List SV→Option Con:=(pD .cases fun a0=>(pD .suit fun a1=>(pE (.det (sp a0 a1) (.tup [.agg (cellsOf .case ((io a0 a1).1)),.v (.int .i64 ((io a0 a1).2))])))))
theorem Jt {p:Prop}(h:p:=by simp only[go_sem,Nat.reduceBEq,Nat.reduceLeDiff,Nat.reduceLT,decide_true,Nat.reduceAdd,Nat.reduceSub,Nat.reduceMul,Int.reduceLE,Int.reduceLT,Int.reduceToNat,Int.reduceNeg,reduceCtorEq,hs0,hs1,pz,nX,RCJ];all_goals exact cl):p:=h
theorem wI:FnOk Tryz.prog 24 sq:=by
 have hG:ConsOk Tryz.prog (mkG [(34,fun l=>od (bA [.st .cases,.sl .int,.o] l)),(35,fun l=>so (bA [.st .plea,.o] l)),(52,f9),(58,jB),(64,fun l=>kh (bA [.st .cases] l)),(67,fun l=>qf (bA [.st .plea] l))] []):=av (cgc (rj.norm [.st .cases,.sl .int,.o]) (cgc (u5.norm [.st .plea,.o]) (cgc g6 (cgc lw (cgc (ni.norm [.st .cases]) (cgc (sg.norm [.st .plea]) cg0)))))) cg0;refine I8 Ec [.st .case,.o] mixed ap hG (fn:=Tryz.f24) (c0:=pz (ae Tryz.f24)) (c1:=nX (nX (ae Tryz.f24))) (i1:=O1 (pz (nX (ae Tryz.f24)))) (o1:=Mm 0 (pz (nX (ae Tryz.f24)))) (q:=5) (tys:= #[104]) kr kr kr (by refine⟨?_,?_,?_⟩ <;>kernel_rfl) kr kr (bF fun a0=>(bF fun a1=>(ak (fun hp=>?_))));dsimp only[ax]at hp;unfold sp at hp;rcases Bool.eq_false_or_eq_true (decide ((a0.cases.length:Int) > 0))with hs0|hs0 <;>rcases Bool.eq_false_or_eq_true ((!(al a0 a1.facts 0).2.1)&&((al a0 a1.facts 1).2.1||((a8 a1.plea a1.question).1 !=1)))with hs1|hs1
 ·have hsp:True:=trivial;refine⟨nbl rfl,L0,(fun id st=>bif Nat.beq id 0 then some (LCR (ρ:=Empty) (σ:=(List Int)) 4 [.cell 2 4 (.row .int ([]))] [0,1,2,3,4] (fun k_0 s_0=>⟨[(2,.ptr 0 0),(4,.ptr 2 0),(5,.ptr 3 0),(115,.rs .int a1.facts),(116,.v (.int .i64 (a1.facts.length:Int))),(117,.v (.int .i64 (k_0:Int)))],[.cells (cellsOf .cases a0),.dead,.cells [.v (.int .i64 a1.no),.v (.int .i64 a1.hour),.v (.int .i64 1),.rs .int a1.facts,.os 4],.cells [.v (.int .i64 ((al a0 a1.facts 0).2.2))],.row .int s_0]⟩) (nk a0 a1) (lf a0 a1) a1.facts.length ([]) (a1.facts.length≤aQ) ((·.elim)) ((·.elim)) st)else none),3,?_,?_,?_⟩
  ·unfold ae Tryz.f24;simp only[pz,aq,and_self,true_and,and_true]
  ·unfold ae Tryz.f24;simp only[nX];simp only[aq,true_and,and_true]
   ·refine aY mixed ap hG kr (fun _=>rfl) (a1.facts.length:Int) rfl im (fun hb0 k_0 s_0 hlt0 hq0 hw hc=>⟨L0,ah _,?_⟩) (fun hb0 s_0 hc=>?_)
    ·unfold lf at hq0;try simp only[hw,Int.toNat_natCast]at hq0
     exact nD (jl [0,1,2,3,6]) (jl [0,1,2,3,4])
    ·exact lX (jl [0,1,2,3,6]) (jl [0,1,2,3,4])
  ·unfold ae Tryz.f24;try unfold io
   exact Jt
 ·have hsp:True:=trivial;refine⟨nbl rfl,L0,(fun id st=>bif Nat.beq id 0 then some (LCR (ρ:=Empty) (σ:=(List Int)) 4 [.cell 2 4 (.row .int ([]))] [0,1,2,3,4] (fun k_1 s_1=>⟨[(2,.ptr 0 0),(4,.ptr 2 0),(5,.ptr 3 0),(115,.rs .int a1.facts),(116,.v (.int .i64 (a1.facts.length:Int))),(117,.v (.int .i64 (k_1:Int)))],[.cells (cellsOf .cases a0),.dead,.cells [.v (.int .i64 a1.no),.v (.int .i64 a1.hour),.v (.int .i64 0),.rs .int a1.facts,.os 4],.cells [.v (.int .i64 ((al a0 a1.facts 0).2.2))],.row .int s_1]⟩) (nq a0 a1) (lg a0 a1) a1.facts.length ([]) (a1.facts.length≤aQ) ((·.elim)) ((·.elim)) st)else none),3,?_,?_,?_⟩
  ·unfold ae Tryz.f24;simp only[pz,aq,and_self,true_and,and_true]
  ·unfold ae Tryz.f24;simp only[nX];simp only[aq,true_and,and_true]
   ·refine aY mixed ap hG kr (fun _=>rfl) (a1.facts.length:Int) rfl im (fun hb1 k_1 s_1 hlt1 hq1 hw hc=>⟨L0,ah _,?_⟩) (fun hb1 s_1 hc=>?_)
    ·unfold lg at hq1;try simp only[hw,Int.toNat_natCast]at hq1
     exact nD (jl [0,1,2,3,6]) (jl [0,1,2,3,4])
    ·exact lX (jl [0,1,2,3,6]) (jl [0,1,2,3,4])
  ·unfold ae Tryz.f24;try unfold io
   exact Jt
 ·have hsp:True:=trivial;refine⟨nbl rfl,L0,(fun id st=>bif Nat.beq id 0 then some (LCR (ρ:=Empty) (σ:=(List Int)) 4 [.cell 2 4 (.row .int ([]))] [0,1,2,3,4] (fun k_2 s_2=>⟨[(2,.ptr 0 0),(4,.ptr 2 0),(5,.ptr 3 0),(115,.rs .int a1.facts),(116,.v (.int .i64 (a1.facts.length:Int))),(117,.v (.int .i64 (k_2:Int)))],[.cells (cellsOf .cases a0),.dead,.cells [.v (.int .i64 a1.no),.v (.int .i64 a1.hour),.v (.int .i64 1),.rs .int a1.facts,.os 4],.cells [.v (.int .i64 ((al a0 a1.facts 0).2.2))],.row .int s_2]⟩) (nr a0 a1) (lh a0 a1) a1.facts.length ([]) (a1.facts.length≤aQ) ((·.elim)) ((·.elim)) st)else none),3,?_,?_,?_⟩
  ·unfold ae Tryz.f24;simp only[pz,aq,and_self,true_and,and_true]
  ·unfold ae Tryz.f24;simp only[nX];simp only[aq,true_and,and_true]
   ·refine aY mixed ap hG kr (fun _=>rfl) (a1.facts.length:Int) rfl im (fun hb2 k_2 s_2 hlt2 hq2 hw hc=>⟨L0,ah _,?_⟩) (fun hb2 s_2 hc=>?_)
    ·unfold lh at hq2;try simp only[hw,Int.toNat_natCast]at hq2
     exact nD (jl [0,1,2,3,6]) (jl [0,1,2,3,4])
    ·exact lX (jl [0,1,2,3,6]) (jl [0,1,2,3,4])
  ·unfold ae Tryz.f24;try unfold io
   exact Jt
 ·have hsp:True:=trivial;refine⟨nbl rfl,L0,(fun id st=>bif Nat.beq id 0 then some (LCR (ρ:=Empty) (σ:=(List Int)) 4 [.cell 2 4 (.row .int ([]))] [0,1,2,3,4] (fun k_3 s_3=>⟨[(2,.ptr 0 0),(4,.ptr 2 0),(5,.ptr 3 0),(115,.rs .int a1.facts),(116,.v (.int .i64 (a1.facts.length:Int))),(117,.v (.int .i64 (k_3:Int)))],[.cells (cellsOf .cases a0),.dead,.cells [.v (.int .i64 a1.no),.v (.int .i64 a1.hour),.v (.int .i64 0),.rs .int a1.facts,.os 4],.cells [.v (.int .i64 ((al a0 a1.facts 0).2.2))],.row .int s_3]⟩) (nt a0 a1) (li a0 a1) a1.facts.length ([]) (a1.facts.length≤aQ) ((·.elim)) ((·.elim)) st)else none),3,?_,?_,?_⟩
  ·unfold ae Tryz.f24;simp only[pz,aq,and_self,true_and,and_true]
  ·unfold ae Tryz.f24;simp only[nX];simp only[aq,true_and,and_true]
   ·refine aY mixed ap hG kr (fun _=>rfl) (a1.facts.length:Int) rfl im (fun hb3 k_3 s_3 hlt3 hq3 hw hc=>⟨L0,ah _,?_⟩) (fun hb3 s_3 hc=>?_)
    ·unfold li at hq3;try simp only[hw,Int.toNat_natCast]at hq3
     exact nD (jl [0,1,2,3,6]) (jl [0,1,2,3,4])
    ·exact lX (jl [0,1,2,3,6]) (jl [0,1,2,3,4])
  ·unfold ae Tryz.f24;try unfold io
   exact Jt
end Go.Sx
end
section
namespace Go.Sx
def pCN {α:Type 1}(k:List Int→List SV→Option α):List SV→Option α
 | .agg [.rs .int s,.v (.slice none 0 0)]::r=>k s r
 |_=>none
@[go_sem] theorem aao {α:Type 1}{k:List Int→List SV→Option α}{s:List Tag.int.T}{r:List SV}:pCN k (.agg [.rs .int s,.v (.slice none 0 0)]::r)=k s r:=(rfl)
theorem Qg {α:Type 1}{G:List SV→α→Prop}{k:List Int→List SV→Option α}(h:∀ s l c,k s l=some c→G (.agg [.rs .int s,.v (.slice none 0 0)]::l) c):∀ l c,pCN k l=some c→G l c:=by
 intro l c hc;unfold pCN at hc;split at hc
 ·exact h _ _ _ hc
 ·cases hc
end Go.Sx
end
section
namespace Go.Sx
open Go.RowKit
def H_ (n0 id:Nat):Ob→SV
 | .row k l=>bif Nat.ble n0 id then .rs k l else .any
 |_=>.any
def isV:SV→Bool
 | .v _=>true
 |_=>false
def wl (n0:Nat)(h:List Ob):SV→SV
 | .v x=>.v x
 | .rs k l=>.rs k l
 | .agg l=>bif l.all isV then .agg l else .any
 | .os id=>H_ n0 id (am h id)
 |_=>.any
def EB (n0:Nat)(h:List Ob):SV→SV
 | .tup l=>.tup (l.map (wl n0 h))
 |s=>wl n0 h s
def Cm (n0:Nat)(own:Own):Own:=fun i=>if i<n0 then own i else none
section
variable {F:Nat→Prop}{own:Own}{w:World}{n0:Nat}{h:List Ob}
theorem yB {b:Nat}(hb:¬bP F own b):¬bP F (Cm n0 own) b:=by
 rintro (hf| ⟨id,hd,e,hm⟩)
 ·exact hb (.inl hf)
 ·unfold Cm at e;split at e
  ·exact hb (.inr ⟨id,hd,e,hm⟩)
  ·cases e
theorem Gw (hp:Hp F own w h):∀ (s:SV) (v:Value),Rel F own w s v→Rel F (Cm n0 own) w (wl n0 h s) v:=by
 intro s v hr;cases s with
 |v x=>exact hr.over (.v x) fun b hb=>yB hb
 |rs k l=>exact hr.over .rs fun b hb=>yB hb
 |agg l=>
  simp only[wl];cases ha:l.all isV with
  |false=>exact .any _
  |true=>
   refine hr.over (.agg fun j s hj=>?_) fun b hb=>yB hb;have:=List.all_eq_true.1 ha s (List.mem_of_getElem? hj);cases s <;>first|exact .v _|cases this
 |os id=>
  obtain⟨hd,h1,rfl,h2⟩:=ir hr;simp only[wl];cases ho:am h id with
  |row k l=>
   simp only[H_];cases hn:Nat.ble n0 id with
   |false=>exact .any _
   |true=>
    have hn':=nbl hn;obtain⟨hd',e0,e⟩:=hp.at ho rfl;rw[h1]at e0;cases e0;have hnb:∀ b∈hd.bs,¬bP F (Cm n0 own) b:=by
     rintro b hb (hf| ⟨i,hi,e1,e2⟩)
     ·exact hp.apart id hd b h1 hb hf
     ·unfold Cm at e1;split at e1
      ·rename_i hlt;have:=hp.inj id i hd hi b h1 e1 hb e2;omega
      ·cases e1
    rcases e with⟨a,e1,rfl,_⟩ | ⟨b,o,cap,cs,ty,e1,e2,h3,h4,h5,h6,h7⟩
    ·rw[e1];exact .rs0
    ·rw[e1];refine .rs (fun i j=>cs.getD (o+i*aa k+j) undef) h5 h6 (fun i x hi j s hj=>?_) (fun i x hi j s hj=>?_)
     ·obtain⟨u,k1,k2⟩:=h7 i x hi j s hj;refine⟨hnb b (by simp[e2]),?_⟩;rw[dS h3,k1];simp[Array.getD_eq_getD_getElem?,k1]
     ·obtain⟨u,k1,k2⟩:=h7 i x hi j s hj;have:cs.getD (o+i*aa k+j) undef=u:=by simp[Array.getD_eq_getD_getElem?,k1]
      rw[this];exact k2.over (qq hj) fun b hb=>yB hb
  |_=>exact .any _
 |_=>exact .any _
theorem Ju (s:SV):PF (wl n0 h s):=by
 cases s with
 |agg l=>
  simp only[wl];cases ha:l.all isV with
  |false=>exact .any
  |true=>
   refine .agg fun j s hj=>?_;have:=List.all_eq_true.1 ha s (List.mem_of_getElem? hj);cases s <;>first|exact .v _|cases this
 |os id=>
  simp only[wl];cases am h id with
  |row k l=>simp only[H_];cases Nat.ble n0 id <;>first|exact .any|exact .rs
  |_=>exact .any
 |v x=>exact .v x
 |rs k l=>exact .rs
 |_=>exact .any
@[go_sem] theorem XM {l:List SV}:EB n0 h (.tup l)=.tup (l.map (wl n0 h)):=(rfl)
@[go_sem] theorem Zr {id:Nat}:EB n0 h (.os id)=H_ n0 id (am h id):=(rfl)
@[go_sem] theorem aap {x:Value}:EB n0 h (.v x)=.v x:=(rfl)
@[go_sem] theorem Zs {k:Tag}{l:List k.T}:EB n0 h (.rs k l)=.rs k l:=(rfl)
@[go_sem] theorem XN {l:List SV}:EB n0 h (.agg l)=bif l.all isV then .agg l else .any:=(rfl)
@[go_sem] theorem aaq {x:Value}:wl n0 h (.v x)=.v x:=(rfl)
@[go_sem] theorem Zt {k:Tag}{l:List k.T}:wl n0 h (.rs k l)=.rs k l:=(rfl)
@[go_sem] theorem XO {l:List SV}:wl n0 h (.agg l)=bif l.all isV then .agg l else .any:=(rfl)
@[go_sem] theorem Zu {id:Nat}:wl n0 h (.os id)=H_ n0 id (am h id):=(rfl)
@[go_sem] theorem XP {k:Tag}{l:List k.T}{id:Nat}:H_ n0 id (.row k l)=bif Nat.ble n0 id then .rs k l else .any:=(rfl)
@[go_sem] theorem isV_v {x:Value}:isV (.v x)=true:=(rfl)
end
def NG (pks:List Pk)(n0:Nat)(S:SV)(H:List Ob)(h:List Ob):Option SV→Prop
 |some s=>S=ta pks (EB n0 h s)∧i4 ⟨[],H⟩ n0 ⟨[],h⟩
 |none=>False
def Re (pks:List Pk)(n0:Nat)(rs:List ResultVar)(ts:Tis)(S:SV)(H:List Ob):Ex→St→Prop
 | .exit _,_=>False
 | .normal,st=>NG pks n0 S H st.h (kD (jv ts st rs))
 | .ret,st=>NG pks n0 S H st.h (kD (jv ts st rs))
 | .pan _,_=>False
section
variable {P:Program}{ts:Tis}{G:Cons}{n0:Nat}{S s:SV}{H h:List Ob}{rs:List ResultVar}{st:St}{pks:List Pk}
@[go_sem] theorem VC:NG pks n0 S H h (some s)=(S=ta pks (EB n0 h s)∧i4 ⟨[],H⟩ n0 ⟨[],h⟩):=(rfl)
@[go_sem] theorem Qh:Re pks n0 rs ts S H .normal st=NG pks n0 S H st.h (kD (jv ts st rs)):=(rfl)
@[go_sem] theorem VD:Re pks n0 rs ts S H .ret st=NG pks n0 S H st.h (kD (jv ts st rs)):=(rfl)
theorem NH {js:List Nat}{own:Own}{F:Nat→Prop}{b:Nat}(hk:xf 0 js n0=true)(hl:H.length=n0)(hb:¬bP F (Cm n0 own) b):¬bP F (gZ js H own) b:=by
 rintro (hf| ⟨k,hd,e,hm⟩)
 ·exact hb (.inl hf)
 ·obtain⟨h1,j,hd0,e1,e2,_,e4⟩:=ij e;obtain⟨_,rfl⟩:=e4 b hm;have hj:=xo js 0 n0 hk k j e1 (by omega);have hjk:j=k:=by omega
  subst hjk;refine hb (.inr ⟨j,hd,?_,hm⟩);unfold Cm;rw[if_pos (by omega)];exact e2
end
def Cn (n0:Nat)(h:List Ob):SV→SV
 | .agg l=>.agg (l.map (wl n0 h))
 |s=>wl n0 h s
def Co (n0:Nat)(h:List Ob):SV→SV
 | .tup l=>.tup (l.map (Cn n0 h))
 |s=>Cn n0 h s
section
variable {F:Nat→Prop}{own:Own}{w:World}{n0:Nat}{h:List Ob}
theorem Gx (hp:Hp F own w h)(s:SV)(v:Value)(hr:Rel F own w s v):Rel F (Cm n0 own) w (Cn n0 h s) v:=by
 cases s with
 |agg l=>
  cases hr with
  |agg h0 h1=>
   refine .agg (by simpa using h0) fun j s hj=>?_;obtain⟨x,hx,rfl⟩:=cn hj;exact Gw hp x _ (h1 j x hx)
 |_=>exact Gw hp _ _ hr
theorem Gy (hp:Hp F own w h)(s:SV)(v:Value)(hr:Rel F own w s v):Rel F (Cm n0 own) w (Co n0 h s) v:=by
 cases s with
 |tup l=>
  cases hr with
  |tup h0 h1=>
   refine .tup (by simpa using h0) fun j s hj=>?_;obtain⟨x,hx,rfl⟩:=cn hj;exact Gx hp x _ (h1 j x hx)
 |_=>exact Gx hp _ _ hr
theorem Jv (s:SV):PF (Cn n0 h s):=by
 cases s
 case agg l=>exact .agg fun j s hj=>by obtain⟨x,hx,rfl⟩:=cn hj;exact Ju x
 all_goals (unfold Cn;exact Ju _)
theorem Qi (s:SV):PF (Co n0 h s):=by
 cases s
 case tup l=>exact .tup fun j s hj=>by obtain⟨x,hx,rfl⟩:=cn hj;exact Jv x
 all_goals (unfold Co;exact Jv _)
@[go_sem] theorem XQ {l:List SV}:Co n0 h (.tup l)=.tup (l.map (Cn n0 h)):=(rfl)
@[go_sem] theorem XR {l:List SV}:Co n0 h (.agg l)=.agg (l.map (wl n0 h)):=(rfl)
@[go_sem] theorem aar {x:Value}:Co n0 h (.v x)=.v x:=(rfl)
@[go_sem] theorem XS {l:List SV}:Cn n0 h (.agg l)=.agg (l.map (wl n0 h)):=(rfl)
@[go_sem] theorem aas {x:Value}:Cn n0 h (.v x)=.v x:=(rfl)
@[go_sem] theorem Zv {k:Tag}{l:List k.T}:Cn n0 h (.rs k l)=.rs k l:=(rfl)
@[go_sem] theorem Zw {id:Nat}:Cn n0 h (.os id)=H_ n0 id (am h id):=(rfl)
end
def EC (pks:List Pk)(n0:Nat)(S:SV)(H:List Ob)(h:List Ob):Option SV→Prop
 |some s=>S=ta pks (Co n0 h s)∧i4 ⟨[],H⟩ n0 ⟨[],h⟩
 |none=>False
def Jw (pks:List Pk)(n0:Nat)(rs:List ResultVar)(ts:Tis)(S:SV)(H:List Ob)(id:Nat)(st:St):Option SV→Prop
 |some s=>Cd (am st.h id)∧kU st.h=false∧EC pks n0 S H (bo st.h id (.cells [s])) (kD (jv ts ⟨st.t,bo st.h id (.cells [s])⟩ rs))
 |none=>False
def Jx (RC:Value→Option SV)(pks:List Pk)(n0:Nat)(rs:List ResultVar)(ts:Tis)(S:SV)(H:List Ob)(id:Nat):Ex→St→Prop
 | .exit _,_=>False
 | .normal,st=>EC pks n0 S H st.h (kD (jv ts st rs))
 | .ret,st=>EC pks n0 S H st.h (kD (jv ts st rs))
 | .pan x,st=>Jw pks n0 rs ts S H id st (RC x)
section
variable {RC:Value→Option SV}{pks:List Pk}{n0:Nat}{rs:List ResultVar}{ts:Tis}{S s:SV}{H h:List Ob}{id:Nat}{st:St}{x:Value}
@[go_sem] theorem VE:EC pks n0 S H h (some s)=(S=ta pks (Co n0 h s)∧i4 ⟨[],H⟩ n0 ⟨[],h⟩):=(rfl)
@[go_sem] theorem Tq:Jw pks n0 rs ts S H id st (some s)=(Cd (am st.h id)∧kU st.h=false∧EC pks n0 S H (bo st.h id (.cells [s])) (kD (jv ts ⟨st.t,bo st.h id (.cells [s])⟩ rs))):=(rfl)
@[go_sem] theorem Qj:Jx RC pks n0 rs ts S H id .normal st=EC pks n0 S H st.h (kD (jv ts st rs)):=(rfl)
@[go_sem] theorem VF:Jx RC pks n0 rs ts S H id .ret st=EC pks n0 S H st.h (kD (jv ts st rs)):=(rfl)
@[go_sem] theorem VG:Jx RC pks n0 rs ts S H id (.pan x) st=Jw pks n0 rs ts S H id st (RC x):=(rfl)
end
section
variable {P:Program}{ts:Tis}{G:Cons}
theorem NI {g:FuncId}{RC:Value→Option SV}(hrec:FR P g RC)(pks:List Pk)(hm:P.follows .mixedOrders=true)(hts:ts.ok P)(hG:ConsOk P G){f:FuncId}{fn:Func}{c0 c1:Code}{i1 q:Nat}{o1:Oper}{tys:Array TypeId}
  (hf:P.funcs[f]? =some fn) (hb:fn.body=some (.seq c0 (.seq (.region i1 #[o1] false) c1))) (hname:(fn.name== "runtime.NumGoroutine")=false)
  (ho1:o1.dst=none∧o1.op=.defer ⟨.value (.func g),#[.tmp q],tys⟩∧o1.guard=none)
  (hc0:cg fn.ntmps c0=true) (hc1:cg fn.ntmps c1=true) {C:List SV→List Ob→Option HCon}
  (h:∀ l o con,C l o=some con→∃ p S H,con=i5 p S H∧H.length=o.length∧(p→l.length≤fn.ntmps∧∃ L L' id,aq P none fn.ntmps L c0∧aq P none fn.ntmps L' c1∧exec ts G L c0 ⟨lM 0 l,o⟩ (fun e st=>e=.normal∧lk q st.t=.ptr id 0∧Cd (am st.h id)∧
   exec ts G L' c1 ⟨st.t,st.h⟩ (Jx RC pks o.length fn.results.toList ts S H id)))):FnOkO P f C:=by
 refine⟨fun l o con _ args w=>?_,fun l o con hcon hpre F own w vs hp0 hvs=>?_⟩
 ·have hn:¬fn.name= "runtime.NumGoroutine":=by simpa using hname
  simp[callFunc,hf,hn,hb]
 ·obtain⟨p,S,H,rfl,hH,h2⟩:=h l o con hcon;obtain⟨hlen,L,L',id,hl,hl',hx⟩:=h2 hpre;have hn0:∀ id hd,own id=some hd→id<o.length:=fun id hd e=>hp0.dom id hd e;refine nU (n:=0) (callsIn_of_wp_marks hf hb trivial ?_);have hr:StRel F { w:=w,own:=own} fn.ntmps own ⟨lM 0 l,o⟩ { tmps:=vs++Array.replicate (fn.ntmps - vs.size) undef,defers:=[]} w:=
   ⟨by have:=hvs.1;simp;omega,Dfr.nil,hp0,Fr.refl { w:=w,own:=own},fun t=>lT hvs _ t⟩
  refine wpIn_seq (wpIn_mono (mK hm hts hG c0 hc0 hl F _ _ hx own _ w hr) ?_);intro e a1 w1 hq;cases e with
  |normal=>
   obtain⟨F1,own1,st1,hF1,hst1,_,hlk,_,hx1⟩:=hq;have hsq:=hst1.slots q;rw[hlk]at hsq;generalize hv:a1.tmps.getD q undef=pv at hsq;cases hsq with
   | @ptr _ _ b hd ho hp=>
   show(Code.seq (.region i1 #[o1] false) c1).wpIn (rd none) 0 P _ a1 w1;have hsz:=hst1.size;refine wpIn_seq (wY ho1 hv ?_);show c1.wpIn (rd none) 0 P _ _ w1;obtain⟨ms,Ds,k0,k1,k2,k3⟩:=hst1.defers;have k0':a1.defers=ms:=by rw[k0];exact List.append_nil _
   let d:Deferred:= { target:=.fn (.func g) #[],args:= #[.pointer (some ⟨b,0,none⟩)]}
   let B:Bs:= { w:=w1,own:=own1,ds:=d::a1.defers}
   have hr2:StRel F1 B fn.ntmps own1 ⟨st1.t,st1.h⟩ { tmps:=a1.tmps,defers:=d::a1.defers} w1:=by
    exact⟨hsz,Dfr.nil,hst1.hp,Fr.refl B,hst1.slots⟩
   have hbd:∀ D∈Ds,¬ ∃ id hd,own1 id=some hd∧D∈hd.bs:=fun D hD ⟨i,hd,e,hm⟩ =>hst1.hp.apart i hd D e hm (k3 D hD).2.1;have fin:∀ F2 own2 st2 (a2:Act) w2,(∀ b,F1 b→F2 b)→StRel F2 B fn.ntmps own2 st2 a2 w2→EC pks o.length S H st2.h (kD (jv ts st2 fn.results.toList))→
     LeavesInM (rd none) 0 P fn a2.tmps (fun e w'=>∃ r own',(i5 p S H).post r∧DU F w own o.length e own' w' ((i5 p S H).res r)) a1.defers .returning w2:=by
    intro F2 own2 st2 a2 w2 hF2 hst2 hdone;have hB:StRel F2 { w:=w,own:=own} fn.ntmps own2 st2 { a2 with defers:=[]} w2:=⟨hst2.size,Dfr.nil,hst2.hp,hst1.fr.trans ⟨hst2.fr.ids,hst2.fr.base,hst2.fr.os,hst2.fr.tape,hst2.fr.output,hst2.fr.size,hst2.fr.block⟩,hst2.slots⟩;have hkeep:∀ D∈Ds,w2.heap[D]? =some (.deferred (some [])):=fun D hD=>by
     rw[hst2.fr.block D ⟨mG (k3 D hD).2.2,hbd D hD⟩];exact(k3 D hD).2.2
    rw[k0',←List.append_nil ms];refine tR (by simp) Ds ms w2 k1 k2 hkeep fun w4 hs=>?_;have hst4:=(hB.shut (Ds:=Ds) (fun D hD=>⟨(k3 D hD).1,hF2 D (k3 D hD).2.1,hkeep D hD⟩) hs).less (fun c hc=>hF2 c (hF1 c hc)) rfl;cases hres:kD (jv ts st2 fn.results.toList)with
    |none=>rw[hres]at hdone;exact hdone.elim
    |some s=>
     obtain⟨u,e1,e2⟩:=uE (P:=P) hts hst4 hres;rw[hres]at hdone;obtain⟨hS,js,q3,q4⟩:=hdone;obtain⟨k1,k2,_,_⟩:=Bh q4 hst4.hp hst4.fr hn0 q3;refine⟨u,e1,(),gZ js H own2,trivial,⟨u,rfl,?_⟩,k1,k2,q3⟩;subst hS;exact yb ((Gy hst4.hp s u e2).over (Qi s) fun b hb=>NH q4.1.2.1 hH hb)
   have hinv:∀ w2:World,(invoke (.fn (.func g) #[]) #[.pointer (some ⟨b,0,none⟩)]).run P w2=.ok (.enter g #[.pointer (some ⟨b,0,none⟩)]) w2:=fun w2=>by simp[invoke,go_sem,hrec.1]
   refine wpIn_mono (mK hm hts hG c1 hc1 hl' F1 _ _ hx1 own1 _ w1 hr2) ?_;have idle:∀ (a':Act) (w':World) F2 own2 st2,(∀ b,F1 b→F2 b)→StRel F2 B fn.ntmps own2 st2 a' w'→EC pks o.length S H st2.h (kD (jv ts st2 fn.results.toList))→
     LeavesInM (rd none) 0 P fn a'.tmps (fun e w'=>∃ r own',(i5 p S H).post r∧DU F w own o.length e own' w' ((i5 p S H).res r)) a'.defers .returning w':=by
    intro a' w' F2 own2 st2 hF2 hst2 hdone;refine iP hst2 (by simp) fun w2 hst3=>?_;refine⟨by simp,.inr ⟨fun h=>(by cases h),.func g,#[],g,#[.pointer (some ⟨b,0,none⟩)],rfl,hinv w2,fun _ _=>trivial,?_⟩⟩;refine(hrec.2.1 ⟨b,0,none⟩ w2).mono ?_;rintro e u' w3 ⟨⟨v,rfl⟩,rfl,rfl⟩;exact fin F2 own2 st2 { a' with defers:=B.ds} _ hF2 hst3 hdone
   intro e a' w' hq;cases e with
   |normal=>obtain⟨F2,own2,st2,h0,h1,h2⟩:=hq;exact idle a' w' F2 own2 st2 h0 h1 h2
   |ret=>obtain⟨F2,own2,st2,h0,h1,h2⟩:=hq;exact idle a' w' F2 own2 st2 h0 h1 h2
   |exit jd=>obtain⟨F2,own2,st2,h0,h1,h2⟩:=hq;exact h2.elim
   |panic ch=>
    obtain⟨x,F2,own2,st2,h0,h1,hm,rfl⟩:=hq;change Jw pks o.length fn.results.toList ts S H id st2 (RC x)at hm;cases m1:RC x with
    |none=>rw[m1]at hm;exact hm.elim
    |some s=>
    rw[m1]at hm;obtain⟨hm2,m4,m3⟩:=hm;obtain⟨y,m2⟩:=Bp hm2;refine iP h1 (by simp) fun w2 hst3=>?_;refine⟨by simp,.inr ⟨fun h=>(by cases h),.func g,#[],g,#[.pointer (some ⟨b,0,none⟩)],rfl,hinv w2,fun _ _=>trivial,?_⟩⟩;obtain⟨hd2,e2,l2⟩:=hst3.fr.ids id hd ho;refine(hrec.2.2 x s m1 F2 own2 w2 st2.h id hd2 b y m4 hst3.hp m2 e2 (l2.1.trans hp)).mono ?_;rintro e u' w3 ⟨⟨v,rfl⟩,rfl,own3,q1,q2⟩;exact fin F2 own3 ⟨st2.t,_⟩ { a' with defers:=B.ds} w3 h0 (hst3.moved q1 q2) m3
   |_=>exact hq.elim
  |ret=>obtain⟨F1,own,st,h0,h1,h2,_⟩:=hq;cases h2
  |exit jd=>obtain⟨F1,own,st,h0,h1,h2,_⟩:=hq;cases h2
  |panic ch=>obtain⟨x,F1,own,st,h0,h1,⟨h2,_⟩,_⟩:=hq;cases h2
  |_=>exact hq.elim
end
end Go.Sx
end
section
namespace Go.Sx
open Go.Proofs
open IntKind (i64)
@[go_sem] noncomputable def ED:List SV→Option Con:=(pQ (.v (.slice none 0 0)) (pE (.det True (.v (.slice none 0 0)))))
theorem NJ:FnOk Tryz.prog 65 ED:=by
 have hG:ConsOk Tryz.prog (mkG [] []):=av cg0 cg0;refine ay [.o] mixed ap hG (fn:=Tryz.f65) (c:=ae Tryz.f65) kr kr kr kr (Tk (ak (fun hp=>?_)));dsimp only[ax]at hp;refine⟨nbl rfl,L0,ah _,?_⟩
 ·unfold ae Tryz.f65;exact zq1
@[go_sem] def lj (sides:List Int)(a1:Suit)(k_0:Nat)(s_0:List Int):Empty⊕(List Int):=(bif((sides.getD (Int.toNat (a1.facts.getD k_0 (0:Int))) (0:Int)) ==1)then .inr (s_0++([(a1.facts.getD k_0 (0:Int))]))else .inr s_0)
def fE (sides:List Int)(a1:Suit)(k_0:Nat)(s_0:List Int):Prop:=((0≤(a1.facts.getD k_0 (0:Int))∧(a1.facts.getD k_0 (0:Int)) < (sides.length:Int))∧(((sides.getD (Int.toNat (a1.facts.getD k_0 (0:Int))) (0:Int)) ==1)=true→((s_0++([(a1.facts.getD k_0 (0:Int))])).length*8≤dq)))
@[go_sem] def ll (sides:List Int)(a1:Suit)(k_1:Nat)(s_1:List Int):Empty⊕(List Int):=(bif((sides.getD (Int.toNat (a1.facts.getD k_1 (0:Int))) (0:Int)) ==0)then .inr (s_1++([(a1.facts.getD k_1 (0:Int))]))else .inr s_1)
def fF (sides:List Int)(a1:Suit)(k_1:Nat)(s_1:List Int):Prop:=((0≤(a1.facts.getD k_1 (0:Int))∧(a1.facts.getD k_1 (0:Int)) < (sides.length:Int))∧(((sides.getD (Int.toNat (a1.facts.getD k_1 (0:Int))) (0:Int)) ==0)=true→((s_1++([(a1.facts.getD k_1 (0:Int))])).length*8≤dq)))
@[go_sem] def lm (sides:List Int)(a1:Suit)(k_2:Nat)(s_2:List Int):Empty⊕(List Int):=(bif((sides.getD (Int.toNat (a1.facts.getD k_2 (0:Int))) (0:Int)) ==1)then .inr (s_2++([(a1.facts.getD k_2 (0:Int))]))else .inr s_2)
def fG (sides:List Int)(a1:Suit)(k_2:Nat)(s_2:List Int):Prop:=((0≤(a1.facts.getD k_2 (0:Int))∧(a1.facts.getD k_2 (0:Int)) < (sides.length:Int))∧(((sides.getD (Int.toNat (a1.facts.getD k_2 (0:Int))) (0:Int)) ==1)=true→((s_2++([(a1.facts.getD k_2 (0:Int))])).length*8≤dq)))
@[go_sem] def ln (sides:List Int)(a1:Suit)(k_3:Nat)(s_3:List Int):Empty⊕(List Int):=(bif((sides.getD (Int.toNat (a1.facts.getD k_3 (0:Int))) (0:Int)) ==0)then .inr (s_3++([(a1.facts.getD k_3 (0:Int))]))else .inr s_3)
def fH (sides:List Int)(a1:Suit)(k_3:Nat)(s_3:List Int):Prop:=((0≤(a1.facts.getD k_3 (0:Int))∧(a1.facts.getD k_3 (0:Int)) < (sides.length:Int))∧(((sides.getD (Int.toNat (a1.facts.getD k_3 (0:Int))) (0:Int)) ==0)=true→((s_3++([(a1.facts.getD k_3 (0:Int))])).length*8≤dq)))
def be (sides:List Int)(a1:Suit)(cs:List Case):Case×Int:=(bif((dA ({ sides:=sides,cases:=cs}:Cases)) !=0)then(({ no:=0,hour:=0,winner:=0,facts:=[],reason:=[]}:Case),(dA ({ sides:=sides,cases:=cs}:Cases)))else(bif((gP a1.plea) !=0)then(({ no:=0,hour:=0,winner:=0,facts:=[],reason:=[]}:Case),(gP a1.plea))else(bif(ar ((a8 a1.plea a1.question).2==0) ((a8 a1.plea a1.question).2))then(bif(ar ((al ({ sides:=sides,cases:=cs}:Cases) a1.facts 0).2.2==0) ((al ({ sides:=sides,cases:=cs}:Cases) a1.facts 0).2.2))then(bif(ar ((aG a1.no 0 1048576)&&(aG a1.hour 0 4096)) 520)then(bif(decide ((cs.length:Int) > 0))then(bif(ar ((decide (a1.no > (cs.getD (Int.toNat (i64.wrap ((cs.length:Int) - 1))) (default:Case)).no))&&(decide (a1.hour≥(cs.getD (Int.toNat (i64.wrap ((cs.length:Int) - 1))) (default:Case)).hour))) 520)then(bif((!(al ({ sides:=sides,cases:=cs}:Cases) a1.facts 0).2.1)&&((al ({ sides:=sides,cases:=cs}:Cases) a1.facts 1).2.1||((a8 a1.plea a1.question).1 !=1)))then(match aw (lj sides a1) a1.facts.length 0 ([])with| .inl x=>x.elim| .inr s_0=>(({ no:=a1.no,hour:=a1.hour,winner:=1,facts:=a1.facts,reason:=s_0}:Case),0))else(match aw (ll sides a1) a1.facts.length 0 ([])with| .inl x=>x.elim| .inr s_1=>(({ no:=a1.no,hour:=a1.hour,winner:=0,facts:=a1.facts,reason:=s_1}:Case),0)))else(({ no:=0,hour:=0,winner:=0,facts:=[],reason:=[]}:Case),520))else(bif((!(al ({ sides:=sides,cases:=cs}:Cases) a1.facts 0).2.1)&&((al ({ sides:=sides,cases:=cs}:Cases) a1.facts 1).2.1||((a8 a1.plea a1.question).1 !=1)))then(match aw (lm sides a1) a1.facts.length 0 ([])with| .inl x=>x.elim| .inr s_2=>(({ no:=a1.no,hour:=a1.hour,winner:=1,facts:=a1.facts,reason:=s_2}:Case),0))else(match aw (ln sides a1) a1.facts.length 0 ([])with| .inl x=>x.elim| .inr s_3=>(({ no:=a1.no,hour:=a1.hour,winner:=0,facts:=a1.facts,reason:=s_3}:Case),0))))else(({ no:=0,hour:=0,winner:=0,facts:=[],reason:=[]}:Case),520))else(({ no:=0,hour:=0,winner:=0,facts:=[],reason:=[]}:Case),((al ({ sides:=sides,cases:=cs}:Cases) a1.facts 0).2.2)))else(({ no:=0,hour:=0,winner:=0,facts:=[],reason:=[]}:Case),((a8 a1.plea a1.question).2)))))
def eO (sides:List Int)(a1:Suit)(cs:List Case):Prop:=((fw ({ sides:=sides,cases:=cs}:Cases))∧(((dA ({ sides:=sides,cases:=cs}:Cases)) !=0)=false→((jg a1.plea)∧(((gP a1.plea) !=0)=false→((jR a1.plea a1.question)∧((ar ((a8 a1.plea a1.question).2==0) ((a8 a1.plea a1.question).2))=true→((eL ({ sides:=sides,cases:=cs}:Cases) a1.facts 0)∧((ar ((al ({ sides:=sides,cases:=cs}:Cases) a1.facts 0).2.2==0) ((al ({ sides:=sides,cases:=cs}:Cases) a1.facts 0).2.2))=true→((eL ({ sides:=sides,cases:=cs}:Cases) a1.facts 1)∧((ar ((aG a1.no 0 1048576)&&(aG a1.hour 0 4096)) 520)=true→(cs.length≤aQ→(((decide ((cs.length:Int) > 0))=true→((0≤(i64.wrap ((cs.length:Int) - 1))∧(i64.wrap ((cs.length:Int) - 1)) < (cs.length:Int))∧(((decide (a1.no > (cs.getD (Int.toNat (i64.wrap ((cs.length:Int) - 1))) (default:Case)).no))=true→(0≤(i64.wrap ((cs.length:Int) - 1))∧(i64.wrap ((cs.length:Int) - 1)) < (cs.length:Int)))∧((ar ((decide (a1.no > (cs.getD (Int.toNat (i64.wrap ((cs.length:Int) - 1))) (default:Case)).no))&&(decide (a1.hour≥(cs.getD (Int.toNat (i64.wrap ((cs.length:Int) - 1))) (default:Case)).hour))) 520)=true→((((!(al ({ sides:=sides,cases:=cs}:Cases) a1.facts 0).2.1)&&((al ({ sides:=sides,cases:=cs}:Cases) a1.facts 1).2.1||((a8 a1.plea a1.question).1 !=1)))=true→(a1.facts.length≤aQ→okI (lj sides a1) (fE sides a1) a1.facts.length 0 ([])))∧(((!(al ({ sides:=sides,cases:=cs}:Cases) a1.facts 0).2.1)&&((al ({ sides:=sides,cases:=cs}:Cases) a1.facts 1).2.1||((a8 a1.plea a1.question).1 !=1)))=false→(a1.facts.length≤aQ→okI (ll sides a1) (fF sides a1) a1.facts.length 0 ([]))))))))∧((decide ((cs.length:Int) > 0))=false→((((!(al ({ sides:=sides,cases:=cs}:Cases) a1.facts 0).2.1)&&((al ({ sides:=sides,cases:=cs}:Cases) a1.facts 1).2.1||((a8 a1.plea a1.question).1 !=1)))=true→(a1.facts.length≤aQ→okI (lm sides a1) (fG sides a1) a1.facts.length 0 ([])))∧(((!(al ({ sides:=sides,cases:=cs}:Cases) a1.facts 0).2.1)&&((al ({ sides:=sides,cases:=cs}:Cases) a1.facts 1).2.1||((a8 a1.plea a1.question).1 !=1)))=false→(a1.facts.length≤aQ→okI (ln sides a1) (fH sides a1) a1.facts.length 0 ([])))))))))))))))))
noncomputable def mv:List SV→List Ob→Option HCon:=pL (fun x_:(List Int)×Suit×(List Case) =>[.agg [.rs .int x_.1,.os 0],.agg (cellsOf .suit x_.2.1)]) (fun x_=>[.row .case x_.2.2]) (fun x_=>i5 (eO x_.1 x_.2.1 x_.2.2) (.tup [.agg (cellsOf .case ((be x_.1 x_.2.1 x_.2.2).1)),.v (.int .i64 ((be x_.1 x_.2.1 x_.2.2).2))]) [.row .case x_.2.2])
@[go_sem] theorem Dm (sides:List Int)(a1:Suit)(cs:List Case):mv ([.agg [.rs .int sides,.os 0],.agg [.v (.int .i64 a1.no),.v (.int .i64 a1.hour),.v (.int .i64 a1.question),.rs .int a1.plea.facts,.rs .clause a1.plea.clauses,.rs .int a1.facts]]) ([.row .case cs])=some (i5 (eO sides a1 cs) (.tup [.agg (cellsOf .case ((be sides a1 cs).1)),.v (.int .i64 ((be sides a1 cs).2))]) [.row .case cs]):=mP (A:=fun x_:(List Int)×Suit×(List Case) =>[.agg [.rs .int x_.1,.os 0],.agg (cellsOf .suit x_.2.1)]) (H:=fun x_=>[.row .case x_.2.2]) (K:=fun x_=>i5 (eO x_.1 x_.2.1 x_.2.2) (.tup [.agg (cellsOf .case ((be x_.1 x_.2.1 x_.2.2).1)),.v (.int .i64 ((be x_.1 x_.2.1 x_.2.2).2))]) [.row .case x_.2.2]) (x:=(sides,a1,cs))
theorem Jy {l0:List Nat}(a0:JL l0){p:Prop}(h:JL l0→p:=by intro ja;simp only[go_sem,Nat.reduceBEq,Nat.reduceLeDiff,Nat.reduceLT,decide_true,Nat.reduceAdd,Nat.reduceSub,Nat.reduceMul,Int.reduceLE,Int.reduceLT,Int.reduceToNat,Int.reduceNeg,reduceCtorEq,hs0,hs1,pz,nX,RCJ];all_goals exact kF ja):p:=h a0
theorem vj:FnOkO Tryz.prog 24 mv:=by
 have hG:ConsOk Tryz.prog (mkG [(34,fun l=>od (bA [.st .cases,.sl .int,.o] l)),(35,fun l=>so (bA [.st .plea,.o] l)),(52,f9),(58,jB),(64,fun l=>kh (bA [.st .cases] l)),(67,fun l=>qf (bA [.st .plea] l))] []):=av (cgc (rj.norm [.st .cases,.sl .int,.o]) (cgc (u5.norm [.st .plea,.o]) (cgc g6 (cgc lw (cgc (ni.norm [.st .cases]) (cgc (sg.norm [.st .plea]) cg0)))))) cg0;refine NI Ec [.st .case,.o] mixed ap hG (fn:=Tryz.f24) (c0:=pz (ae Tryz.f24)) (c1:=nX (nX (ae Tryz.f24))) (i1:=O1 (pz (nX (ae Tryz.f24)))) (o1:=Mm 0 (pz (nX (ae Tryz.f24)))) (q:=5) (tys:= #[104]) kr kr kr (by refine⟨?_,?_,?_⟩ <;>kernel_rfl) kr kr fun l o con h=>?_;obtain⟨⟨sides,a1,cs⟩,rfl,rfl,rfl⟩:=ke h;clear h;try dsimp only
 refine⟨_,_,_,rfl,rfl,fun hp=>?_⟩;unfold eO at hp;rcases Bool.eq_false_or_eq_true (decide ((cs.length:Int) > 0))with hs0|hs0 <;>rcases Bool.eq_false_or_eq_true ((!(al ({ sides:=sides,cases:=cs}:Cases) a1.facts 0).2.1)&&((al ({ sides:=sides,cases:=cs}:Cases) a1.facts 1).2.1||((a8 a1.plea a1.question).1 !=1)))with hs1|hs1
 ·have hsp:True:=trivial;refine⟨nbl rfl,L0,(fun id st=>bif Nat.beq id 0 then some (LCR (ρ:=Empty) (σ:=(List Int)) 5 [.cell 3 4 (.row .int ([]))] [0,1,2,3,4,5] (fun k_0 s_0=>⟨[(2,.ptr 1 0),(4,.ptr 3 0),(5,.ptr 4 0),(115,.rs .int a1.facts),(116,.v (.int .i64 (a1.facts.length:Int))),(117,.v (.int .i64 (k_0:Int)))],[.row .case cs,.cells [.rs .int sides,.os 0],.dead,.cells [.v (.int .i64 a1.no),.v (.int .i64 a1.hour),.v (.int .i64 1),.rs .int a1.facts,.os 5],.cells [.v (.int .i64 ((al ({ sides:=sides,cases:=cs}:Cases) a1.facts 0).2.2))],.row .int s_0]⟩) (lj sides a1) (fE sides a1) a1.facts.length ([]) (a1.facts.length≤aQ) ((·.elim)) ((·.elim)) st)else none),4,?_,?_,?_⟩
  ·unfold ae Tryz.f24;simp only[pz,aq,and_self,true_and,and_true]
  ·unfold ae Tryz.f24;simp only[nX];simp only[aq,true_and,and_true]
   ·refine aY mixed ap hG kr (fun _=>rfl) (a1.facts.length:Int) rfl im (fun hb0 k_0 s_0 hlt0 hq0 hw hc=>⟨L0,ah _,?_⟩) (fun hb0 s_0 hc=>?_)
    ·unfold fE at hq0;try simp only[hw,Int.toNat_natCast]at hq0
     exact nD (jl [0,1,2,3,4,7]) (jl [0,1,2,3,4,5])
    ·exact lX (jl [0,1,2,3,4,7]) (jl [0,1,2,3,4,5])
  ·unfold ae Tryz.f24;try unfold be
   exact Jy (jl [0])
 ·have hsp:True:=trivial;refine⟨nbl rfl,L0,(fun id st=>bif Nat.beq id 0 then some (LCR (ρ:=Empty) (σ:=(List Int)) 5 [.cell 3 4 (.row .int ([]))] [0,1,2,3,4,5] (fun k_1 s_1=>⟨[(2,.ptr 1 0),(4,.ptr 3 0),(5,.ptr 4 0),(115,.rs .int a1.facts),(116,.v (.int .i64 (a1.facts.length:Int))),(117,.v (.int .i64 (k_1:Int)))],[.row .case cs,.cells [.rs .int sides,.os 0],.dead,.cells [.v (.int .i64 a1.no),.v (.int .i64 a1.hour),.v (.int .i64 0),.rs .int a1.facts,.os 5],.cells [.v (.int .i64 ((al ({ sides:=sides,cases:=cs}:Cases) a1.facts 0).2.2))],.row .int s_1]⟩) (ll sides a1) (fF sides a1) a1.facts.length ([]) (a1.facts.length≤aQ) ((·.elim)) ((·.elim)) st)else none),4,?_,?_,?_⟩
  ·unfold ae Tryz.f24;simp only[pz,aq,and_self,true_and,and_true]
  ·unfold ae Tryz.f24;simp only[nX];simp only[aq,true_and,and_true]
   ·refine aY mixed ap hG kr (fun _=>rfl) (a1.facts.length:Int) rfl im (fun hb1 k_1 s_1 hlt1 hq1 hw hc=>⟨L0,ah _,?_⟩) (fun hb1 s_1 hc=>?_)
    ·unfold fF at hq1;try simp only[hw,Int.toNat_natCast]at hq1
     exact nD (jl [0,1,2,3,4,7]) (jl [0,1,2,3,4,5])
    ·exact lX (jl [0,1,2,3,4,7]) (jl [0,1,2,3,4,5])
  ·unfold ae Tryz.f24;try unfold be
   exact Jy (jl [0])
 ·have hsp:True:=trivial;refine⟨nbl rfl,L0,(fun id st=>bif Nat.beq id 0 then some (LCR (ρ:=Empty) (σ:=(List Int)) 5 [.cell 3 4 (.row .int ([]))] [0,1,2,3,4,5] (fun k_2 s_2=>⟨[(2,.ptr 1 0),(4,.ptr 3 0),(5,.ptr 4 0),(115,.rs .int a1.facts),(116,.v (.int .i64 (a1.facts.length:Int))),(117,.v (.int .i64 (k_2:Int)))],[.row .case cs,.cells [.rs .int sides,.os 0],.dead,.cells [.v (.int .i64 a1.no),.v (.int .i64 a1.hour),.v (.int .i64 1),.rs .int a1.facts,.os 5],.cells [.v (.int .i64 ((al ({ sides:=sides,cases:=cs}:Cases) a1.facts 0).2.2))],.row .int s_2]⟩) (lm sides a1) (fG sides a1) a1.facts.length ([]) (a1.facts.length≤aQ) ((·.elim)) ((·.elim)) st)else none),4,?_,?_,?_⟩
  ·unfold ae Tryz.f24;simp only[pz,aq,and_self,true_and,and_true]
  ·unfold ae Tryz.f24;simp only[nX];simp only[aq,true_and,and_true]
   ·refine aY mixed ap hG kr (fun _=>rfl) (a1.facts.length:Int) rfl im (fun hb2 k_2 s_2 hlt2 hq2 hw hc=>⟨L0,ah _,?_⟩) (fun hb2 s_2 hc=>?_)
    ·unfold fG at hq2;try simp only[hw,Int.toNat_natCast]at hq2
     exact nD (jl [0,1,2,3,4,7]) (jl [0,1,2,3,4,5])
    ·exact lX (jl [0,1,2,3,4,7]) (jl [0,1,2,3,4,5])
  ·unfold ae Tryz.f24;try unfold be
   exact Jy (jl [0])
 ·have hsp:True:=trivial;refine⟨nbl rfl,L0,(fun id st=>bif Nat.beq id 0 then some (LCR (ρ:=Empty) (σ:=(List Int)) 5 [.cell 3 4 (.row .int ([]))] [0,1,2,3,4,5] (fun k_3 s_3=>⟨[(2,.ptr 1 0),(4,.ptr 3 0),(5,.ptr 4 0),(115,.rs .int a1.facts),(116,.v (.int .i64 (a1.facts.length:Int))),(117,.v (.int .i64 (k_3:Int)))],[.row .case cs,.cells [.rs .int sides,.os 0],.dead,.cells [.v (.int .i64 a1.no),.v (.int .i64 a1.hour),.v (.int .i64 0),.rs .int a1.facts,.os 5],.cells [.v (.int .i64 ((al ({ sides:=sides,cases:=cs}:Cases) a1.facts 0).2.2))],.row .int s_3]⟩) (ln sides a1) (fH sides a1) a1.facts.length ([]) (a1.facts.length≤aQ) ((·.elim)) ((·.elim)) st)else none),4,?_,?_,?_⟩
  ·unfold ae Tryz.f24;simp only[pz,aq,and_self,true_and,and_true]
  ·unfold ae Tryz.f24;simp only[nX];simp only[aq,true_and,and_true]
   ·refine aY mixed ap hG kr (fun _=>rfl) (a1.facts.length:Int) rfl im (fun hb3 k_3 s_3 hlt3 hq3 hw hc=>⟨L0,ah _,?_⟩) (fun hb3 s_3 hc=>?_)
    ·unfold fH at hq3;try simp only[hw,Int.toNat_natCast]at hq3
     exact nD (jl [0,1,2,3,4,7]) (jl [0,1,2,3,4,5])
    ·exact lX (jl [0,1,2,3,4,7]) (jl [0,1,2,3,4,5])
  ·unfold ae Tryz.f24;try unfold be
   exact Jy (jl [0])
@[go_sem] def p6 (sides:List Int)(l_:List Suit)(k_0:Nat)(s_0:List Case):Int⊕(List Case):=(bif((be sides (l_.getD k_0 (default:Suit)) s_0).2 !=0)then .inl ((be sides (l_.getD k_0 (default:Suit)) s_0).2)else(bif(decide (((s_0++([((be sides (l_.getD k_0 (default:Suit)) s_0).1)])).length:Int) > 64))then .inl 2 else .inr (s_0++([((be sides (l_.getD k_0 (default:Suit)) s_0).1)]))))
def iD (sides:List Int)(l_:List Suit)(k_0:Nat)(s_0:List Case):Prop:=((eO sides (l_.getD k_0 (default:Suit)) s_0)∧(((be sides (l_.getD k_0 (default:Suit)) s_0).2 !=0)=false→((s_0++([((be sides (l_.getD k_0 (default:Suit)) s_0).1)])).length*72≤dq)))
def qg (sides:List Int)(l_:List Suit):Cases×Int:=(bif((dA ({ sides:=sides,cases:=[]}:Cases)) !=0)then(({ sides:=[],cases:=[]}:Cases),(dA ({ sides:=sides,cases:=[]}:Cases)))else(match aw (p6 sides l_) l_.length 0 ([])with| .inl x_0_0=>(({ sides:=[],cases:=[]}:Cases),x_0_0) | .inr s_0=>(({ sides:=sides,cases:=s_0}:Cases),0)))
def iM (sides:List Int)(l_:List Suit):Prop:=((fw ({ sides:=sides,cases:=[]}:Cases))∧(((dA ({ sides:=sides,cases:=[]}:Cases)) !=0)=false→(l_.length≤aQ→okI (p6 sides l_) (iD sides l_) l_.length 0 ([]))))
@[go_sem] def u6:List SV→Option Con:=(pCN fun sides=>(pR .suit fun l_=>(pE (.det (iM sides l_) (.tup [.agg (cellsOf .cases ((qg sides l_).1)),.v (.int .i64 ((qg sides l_).2))])))))
theorem XT {p:Prop}(h:p:=by simp only[go_sem,Nat.reduceBEq,Nat.reduceLeDiff,Nat.reduceLT,decide_true,Nat.reduceAdd,Nat.reduceSub,Nat.reduceMul,Int.reduceLE,Int.reduceLT,Int.reduceToNat,Int.reduceNeg,reduceCtorEq,ED];all_goals exact cl):p:=h
theorem zj:FnOk Tryz.prog 21 u6:=by
 have hG:ConsOk Tryz.prog (mkG [(24,fun l=>sq (bA [.st .cases,.st .suit] l)),(64,fun l=>kh (bA [.st .cases] l)),(65,ED)] [(24,mv)]):=av (cgc (wI.norm [.st .cases,.st .suit]) (cgc (ni.norm [.st .cases]) (cgc NJ cg0))) (cgc vj cg0);refine ay [.st .cases,.o] mixed ap hG (fn:=Tryz.f21) (c:=ae Tryz.f21) kr kr kr kr (Qg fun sides=>(bY fun l_=>(ak (fun hp=>?_))));dsimp only[ax]at hp;unfold iM at hp;refine⟨nbl rfl,(fun id st=>bif Nat.beq id 0 then some (LCR (ρ:=Int) (σ:=(List Case)) 2 [.cell 0 1 (.row .case ([]))] [0,1,2] (fun k_0 s_0=>⟨[(2,.ptr 0 0),(4,.ptr 1 0),(20,.rs .suit l_),(21,.v (.int .i64 (l_.length:Int))),(22,.v (.int .i64 (k_0:Int)))],[.cells [.rs .int sides,.os 2],.cells [.v (.slice none 0 0),.v (.slice none 0 0)],.row .case s_0]⟩) (p6 sides l_) (iD sides l_) l_.length ([]) (l_.length≤aQ) (fun _=>.ret) (fun x_0_0=>⟨[(4,.ptr 1 0),(5,.v (.int .i64 x_0_0))],[.dead,.cells [.v (.slice none 0 0),.v (.slice none 0 0)],.dead]⟩) st)else none),?_,?_⟩
 ·unfold ae Tryz.f21;simp only[aq,true_and,and_true]
  ·refine aY mixed ap hG kr (fun _=>rfl) (l_.length:Int) rfl im (fun hb0 k_0 s_0 hlt0 hq0 hw hc=>⟨L0,ah _,?_⟩) (fun hb0 s_0 hc=>?_)
   ·unfold iD at hq0;try simp only[hw,Int.toNat_natCast]at hq0
    exact nD (jl [0,1,6]) (jl [0,1,2])
   ·exact lX (jl [0,1,6]) (jl [0,1,2])
 ·unfold ae Tryz.f21;try unfold qg
  exact XT

end Go.Sx
end
section
namespace Go.Sx
open Go.RowKit
def Tr (h:List Ob):Option Con→Option HCon
 |some (.det p s) =>some (i5 p (EB 0 (aJ 3 s) (g9 3 0 s)) (h.map fun _=>.dead))
 |_=>none
def eatC (C:List SV→Option Con)(l:List SV)(h:List Ob):Option HCon:=Tr h (C (l.map (fe h 6)))
@[go_sem] theorem Zx {C:List SV→Option Con}{l:List SV}{h:List Ob}:eatC C l h=Tr h (C (l.map (fe h 6))):=(rfl)
@[go_sem] theorem XU {h:List Ob}{p:Prop}{s:SV}:Tr h (some (.det p s))=some (i5 p (EB 0 (aJ 3 s) (g9 3 0 s)) (h.map fun _=>.dead)):=(rfl)
section
variable {P:Program}{F:Nat→Prop}{own:Own}{w w':World}
def NK (own:Own):Own:=fun i=>(own i).map fun hd=>{ hd with bs:=[]}
theorem Qk {b:Nat}(hb:¬F b):¬bP F (NK own) b:=by
 rintro (hf| ⟨id,hd,e,hm⟩)
 ·exact hb hf
 ·unfold NK at e;cases h:own id with
  |none=>rw[h]at e;cases e
  |some x=>rw[h]at e;cases e;cases hm
end
def Jz (h:List Ob):Option Con→Option HCon
 |some (.det p s) =>some (i5 p (Co 0 (aJ 3 s) (g9 3 0 s)) (h.map fun _=>.dead))
 |_=>none
def Gz (C:List SV→Option Con)(l:List SV)(h:List Ob):Option HCon:=Jz h (C (l.map (fe h 6)))
@[go_sem] theorem XV {C:List SV→Option Con}{l:List SV}{h:List Ob}:Gz C l h=Jz h (C (l.map (fe h 6))):=(rfl)
@[go_sem] theorem VH {h:List Ob}{p:Prop}{s:SV}:Jz h (some (.det p s))=some (i5 p (Co 0 (aJ 3 s) (g9 3 0 s)) (h.map fun _=>.dead)):=(rfl)
section
variable {P:Program}{F:Nat→Prop}{own:Own}{w w':World}
theorem FnOk.eat2 {f:FuncId}{C:List SV→Option Con}(hf:FnOk P f C):FnOkO P f (Gz C) where
 enter:=fun l h c e=>by
  unfold Gz at e;cases hc:C (l.map (fe h 6))with
  |none=>rw[hc]at e;cases e
  |some c'=>exact hf.enter _ c' hc
 calls:=fun l h c e hp F own w vs hH hr=>by
  unfold Gz at e;cases hc:C (l.map (fe h 6))with
  |none=>rw[hc]at e;cases e
  |some c'=>
   rw[hc]at e;cases c' with
   |det p s=>
    simp only[Jz,Option.some.injEq]at e;subst e;have n0:∀ {F':Nat→Prop} {w1:World},(∀ b,F' b→b<w1.heap.size)→Hp F' cj w1 []:=fun hf=>⟨(fun id hd h=>by cases h),hf,(fun id hd b h=>by cases h),(fun i j hi hj b h=>by cases h),(fun id hd b h=>by cases h),(fun id h=>by cases h)⟩;have hE:∀ {id:Nat} {hd:Hd},NK own id=some hd→hd.bs=[]∧id<h.length:=fun {id hd} h=>by
     unfold NK at h;cases ho:own id with
     |none=>rw[ho]at h;cases h
     |some x=>rw[ho]at h;cases h;exact⟨rfl,hH.dom id x ho⟩
    refine(hf.calls _ _ hc hp F w vs hH.foreign ⟨by simpa using hr.1,fun j s hj=>?_⟩).mono ?_
    ·obtain⟨x,hx,rfl⟩:=cn hj;exact uB hH 6 x _ (hr.2 j x hx)
    ·rintro e w' (⟨s',u,own',h1,h2,h3,h4⟩ | ⟨x,hx,_⟩)
     ·cases h1;obtain⟨own2,q1,q2,q3,q4⟩:=yT (n0 hH.foreign) (.inl fun b=>⟨fun h=>.inl h,fun h=>h.elim id fun⟨_,_,h,_⟩ =>by cases h⟩) h4 h3;have q5:=Gy (n0:=0) q1 _ _ q3;refine⟨(),NK own,trivial,⟨u,h2,?_⟩,?_,?_,by simp⟩
      ·refine q5.carry ⟨fun id hd h=>by simp[Cm]at h,fun b _ hb=>⟨Qk fun hf=>hb (.inl hf),rfl⟩⟩
      ·refine⟨fun id hd h=>by rw[List.length_map];exact(hE h).2,fun b hb=>Nat.lt_of_lt_of_le (hH.foreign b hb) h4.size,fun id hd b h hm=>?_,fun i j hi hj b h _ hm=>?_,fun id hd b h hm=>?_,fun id hd=>?_⟩
       ·rw[(hE h).1]at hm;cases hm
       ·rw[(hE h).1]at hm;cases hm
       ·rw[(hE h).1]at hm;cases hm
       ·rw[p_,List.getElem?_map]at hd;cases ho:h[id]? <;>rw[ho]at hd <;>simp[cK]at hd
      ·refine⟨fun id hd h=>?_,fun id hd b h hm=>?_,h4.os,h4.tape,h4.output,h4.size,fun k hk=>h4.block k hk.1⟩
       ·exact⟨{ hd with bs:=[]},by show(own id).map _=_;rw[show own id=some hd from h];rfl,rfl,rfl,rfl⟩
       ·rw[(hE h).1]at hm;cases hm
     ·cases hx
   |_=>cases e
end
end Go.Sx
end
section
namespace Go.Sx
open Go.Proofs
open IntKind (i64)
def mw:=([(eH 0 0 3 4),(eH 1 1 3 4),(eH 2 0 3 1),(eH 0 0 5 4)])
def pa:=([({ no:=0,hour:=0,kind:=1,farm:=0,other:=0,since:=0,to:=0,n:=1,of_:=0}:Judgement)])
def jS:=([({ no:=1,hour:=0,kind:=3,farm:=0,other:=2,since:=0,to:=7,n:=5,of_:=0}:Judgement)])
def my:=([(eH 0 0 3 3),(eH 0 2 3 1),(eH 1 1 3 4),(eH 2 2 3 4),(eH 0 2 5 4)])
def mz:=(aO cI pa)
def iE:=(aX cI ik jS)
def mA:=(iE.1)
def gh:=([({ no:=1,hour:=3,kind:=2,farm:=0,other:=0,since:=0,to:=4,n:=5,of_:=0}:Judgement),({ no:=2,hour:=4,kind:=4,farm:=1,other:=2,since:=0,to:=0,n:=9,of_:=0}:Judgement)])
def mB:=([({ no:=4,hour:=0,question:=1,plea:=({ facts:=[1],clauses:=[]}:Plea),facts:=[0,1]}:Suit),({ no:=5,hour:=0,question:=2,plea:=({ facts:=[],clauses:=[]}:Plea),facts:=[0]}:Suit)])
def iF:=(qg ([0,1]) mB)
def gR:=(aD cI gh 4)
def gi:=(gR.1)
def iG:=((iF.1).cases)
def iH:=(aX cI ik gh)
def mC:=(iH.1)
def d7:=(gi.length:Int)
def mD:=(gi.getD 2 (0:Int))
def kQ:=(gi.getD 1 (0:Int))
def jh:=(gi.getD 0 (0:Int))
def eQ:=(iG.length:Int)
def ji:=(iG.getD 1 (default:Case))
def fY:=(iG.getD 0 (default:Case))
def nJ:=(pF mA my)
def kR:=(fY.reason)
def jk:=(kR.length:Int)
def kS:=(kR.getD 0 (0:Int))
def nK:=(pF mC mw)
def p7:Bool:=(bif(((((iH.2 !=0) ||(iE.2 !=0)) ||(gR.2 !=0)) ||((aD cI ([]) 9).2 !=1)) ||(mz !=530))then false else(bif(!nK)then false else(bif(!nJ)then false else(bif((((d7 !=3) ||(jh !=0)) ||(kQ !=9)) ||(mD !=(-9)))then false else(bif(((iF.2 !=0) ||(eQ !=2)) ||(jk !=1))then false else((((fY.winner==0)&&(kS==0))&&(ji.winner==0))&&(ji.no==5)))))))
def pb:Prop:=((qd)∧((du cI ik gh)∧((du cI ik jS)∧((gU cI gh 4)∧((gU cI ([]) 9)∧((((((iH.2 !=0) ||(iE.2 !=0)) ||(gR.2 !=0)) ||((aD cI ([]) 9).2 !=1))=false→(gT cI pa))∧((((((iH.2 !=0) ||(iE.2 !=0)) ||(gR.2 !=0)) ||((aD cI ([]) 9).2 !=1)) ||(mz !=530))=false→((oT mC mw)∧((!nK)=false→((oT mA my)∧((!nJ)=false→(gi.length≤aQ→(((d7 !=3)=false→(0≤0∧0<d7))∧((((d7 !=3) ||(jh !=0))=false→(0≤1∧1<d7))∧(((((d7 !=3) ||(jh !=0)) ||(kQ !=9))=false→(0≤2∧2<d7))∧(((((d7 !=3) ||(jh !=0)) ||(kQ !=9)) ||(mD !=(-9)))=false→((iM ([0,1]) mB)∧((((iF.2 !=0) ||(eQ !=2))=false→(0≤0∧0<eQ))∧((((iF.2 !=0) ||(eQ !=2)) ||(jk !=1))=false→((0≤0∧0<eQ)∧(((fY.winner==0)=true→(0≤0∧0<eQ))∧(((fY.winner==0)=true→(0≤0∧0<jk))∧((((fY.winner==0)&&(kS==0))=true→(0≤1∧1<eQ))∧((((fY.winner==0)&&(kS==0))&&(ji.winner==0))=true→(0≤1∧1<eQ)))))))))))))))))))))))))
@[go_sem] def yC:List SV→Option Con:=(pE (.det (pb) (.v (.bool (p7)))))
theorem Cp:FnOk Tryz.prog 10 yC:=by
 have hG:ConsOk Tryz.prog (mkG [(12,fun l=>na (bA [.st .district,.sl .claim,.sl .judgement] l)),(14,fun l=>oV (bA [.st .district,.sl .judgement,.o] l)),(16,fun l=>lB (bA [.st .district,.sl .judgement] l)),(18,fun l=>yf (bA [.sl .claim,.sl .claim] l)),(38,w5),(39,w6),(40,th)] [(21,Gz (fun l=>u6 (bA [.o,.sl .suit] l)))]):=av (cgc (qw.norm [.st .district,.sl .claim,.sl .judgement]) (cgc (rZ.norm [.st .district,.sl .judgement,.o]) (cgc (n_.norm [.st .district,.sl .judgement]) (cgc (Cf.norm [.sl .claim,.sl .claim]) (cgc BA (cgc BB (cgc vZ cg0))))))) (cgc (FnOk.eat2 (zj.norm [.o,.sl .suit])) cg0);refine ay [.o] mixed ap hG (fn:=Tryz.f10) (c:=ae Tryz.f10) kr kr kr kr (ak (fun hp=>?_));dsimp only[ax]at hp;unfold pb at hp;try simp only[mw,pa,jS,my,mz,iE,mA,gh,mB,iF,gR,gi,iG,iH,mC,d7,mD,kQ,jh,eQ,ji,fY,nJ,kR,jk,kS,nK]at hp
 refine⟨nbl rfl,L0,ah _,?_⟩
 ·unfold ae Tryz.f10;try unfold p7
  simp (maxSteps:=1000000) only[go_sem,Nat.reduceBEq,Nat.reduceLeDiff,Nat.reduceLT,decide_true,Nat.reduceAdd,Nat.reduceSub,Nat.reduceMul,Int.reduceLE,Int.reduceLT,Int.reduceToNat,Int.reduceNeg,reduceCtorEq,mw,pa,jS,my,mz,iE,mA,gh,mB,iF,gR,gi,iG,iH,mC,d7,mD,kQ,jh,eQ,ji,fY,nJ,kR,jk,kS,nK];all_goals exact cl
instance decR {ρ σ:Type}{P:σ→Prop}[∀ s,Decidable (P s)]:(x:ρ⊕σ)→Decidable (∀ s,x=.inr s→P s)
 | .inl _=>.isTrue fun _ e=>nomatch e
 | .inr s=>match (inferInstance:Decidable (P s))with
  | .isTrue h=>.isTrue fun _ e=>by cases e;exact h
  | .isFalse h=>.isFalse fun g=>h (g s rfl)
instance decX {ρ σ:Type}{P:ρ→Prop}[∀ s,Decidable (P s)]:(x:ρ⊕σ)→Decidable (∀ s,x=.inl s→P s)
 | .inr _=>.isTrue fun _ e=>nomatch e
 | .inl s=>match (inferInstance:Decidable (P s))with
  | .isTrue h=>.isTrue fun _ e=>by cases e;exact h
  | .isFalse h=>.isFalse fun g=>h (g s rfl)
instance decN {ρ σ:Type}:(x:ρ⊕σ)→Decidable (∀ s,x≠ .inr s)
 | .inl _=>.isTrue fun _ e=>nomatch e
 | .inr s=>.isFalse fun g=>g s rfl
def XW {ρ σ:Type}(step:Nat→σ→ρ⊕σ)(p:Nat→σ→Prop)(D:∀ k s,Decidable (p k s)):(n i:Nat)→(s:σ)→Decidable (okI step p n i s)
 |0,_,_=>.isTrue trivial
 |n+1,i,s=>match D i s with
  | .isFalse h=>.isFalse fun g=>h g.1
  | .isTrue h=>match e:step i s with
   | .inl _=>.isTrue ⟨h,fun s' e'=>by rw[e]at e';cases e'⟩
   | .inr s'=>match XW step p D n (i+1) s' with
    | .isTrue g=>.isTrue ⟨h,fun s'' e'=>by rw[e]at e';cases e';exact g⟩
    | .isFalse g=>.isFalse fun q=>g (q.2 s' e)
def XX {ρ σ τ:Type}(step:τ→σ→ρ⊕σ)(p:τ→σ→Prop)(D:∀ k s,Decidable (p k s)):(l:List τ)→(s:σ)→Decidable (okL step p l s)
 | [],_=>.isTrue trivial
 |x::l,s=>match D x s with
  | .isFalse h=>.isFalse fun g=>h g.1
  | .isTrue h=>match e:step x s with
   | .inl _=>.isTrue ⟨h,fun s' e'=>by rw[e]at e';cases e'⟩
   | .inr s'=>match XX step p D l s' with
    | .isTrue g=>.isTrue ⟨h,fun s'' e'=>by rw[e]at e';cases e';exact g⟩
    | .isFalse g=>.isFalse fun q=>g (q.2 s' e)
instance decI' {ρ σ:Type}{step:Nat→σ→ρ⊕σ}{p:Nat→σ→Prop}[D:∀ k s,Decidable (p k s)]{n i:Nat}{s:σ}:Decidable (okI step p n i s):=XW step p D n i s
instance decL' {ρ σ τ:Type}{step:τ→σ→ρ⊕σ}{p:τ→σ→Prop}[D:∀ k s,Decidable (p k s)]{l:List τ}{s:σ}:Decidable (okL step p l s):=XX step p D l s
instance precedents_read_l0_p_d (a0:Cases)(k_0:Nat)(s_0:Int×Int):Decidable (gJ a0 k_0 s_0):=by unfold gJ;repeat (first|infer_instance|refine @instDecidableAnd _ _ ?_ ?_|refine @instDecidableForall _ _ ?_ ?_)
instance precedents_of_l0_p_d (l_:List Int)(many:Int)(k_0:Nat)(s_0:Int×Int):Decidable (ix l_ many k_0 s_0):=by unfold ix;repeat (first|infer_instance|refine @instDecidableAnd _ _ ?_ ?_|refine @instDecidableForall _ _ ?_ ?_)
instance precedents_of_p_d (l_:List Int)(many:Int):Decidable (g7 l_ many):=by unfold g7;repeat (first|infer_instance|refine @instDecidableAnd _ _ ?_ ?_|refine @instDecidableForall _ _ ?_ ?_)
instance precedents_read_l1_p_d (a0:Cases)(s_0:Int×Int)(k_1:Nat)(s_1:List PrecedentsDecided×Int×Int×Int):Decidable (gK a0 s_0 k_1 s_1):=by unfold gK;repeat (first|infer_instance|refine @instDecidableAnd _ _ ?_ ?_|refine @instDecidableForall _ _ ?_ ?_)
instance precedents_read_p_d (a0:Cases):Decidable (gW a0):=by unfold gW;repeat (first|infer_instance|refine @instDecidableAnd _ _ ?_ ?_|refine @instDecidableForall _ _ ?_ ?_)
instance precedents_Check_p_d (b:Cases):Decidable (fw b):=by unfold fw;repeat (first|infer_instance|refine @instDecidableAnd _ _ ?_ ?_|refine @instDecidableForall _ _ ?_ ?_)
instance pleas_rising_l0_p_d (l_:List Int)(k_0:Nat)(s_0:Unit):Decidable (iX l_ k_0 s_0):=by unfold iX;repeat (first|infer_instance|refine @instDecidableAnd _ _ ?_ ?_|refine @instDecidableForall _ _ ?_ ?_)
instance pleas_rising_p_d (l_:List Int):Decidable (jH l_):=by unfold jH;repeat (first|infer_instance|refine @instDecidableAnd _ _ ?_ ?_|refine @instDecidableForall _ _ ?_ ?_)
instance pleas_Check_l0_p_d (a0:Plea)(k_0:Nat)(s_0:Bool×Int):Decidable (jN a0 k_0 s_0):=by unfold jN;repeat (first|infer_instance|refine @instDecidableAnd _ _ ?_ ?_|refine @instDecidableForall _ _ ?_ ?_)
instance pleas_strict_p_d (p:Plea):Decidable (iC p):=by unfold iC;repeat (first|infer_instance|refine @instDecidableAnd _ _ ?_ ?_|refine @instDecidableForall _ _ ?_ ?_)
theorem GA {ρ σ:Type}{step:Nat→σ→ρ⊕σ}{p q:Nat→σ→Prop}(h:∀ k s,p k s→q k s):∀ (n i:Nat) (s:σ),okI step p n i s→okI step q n i s
 |0,_,_,_=>trivial
 |n+1,i,s,g=>⟨h i s g.1,fun s' e=>GA h n (i+1) s' (g.2 s' e)⟩
def Ts (k_0:Nat)(s_0:List Int×Int):Prop:=(decide (s_0.2≤32))=true→(s_0.2 !=0)=true→aP[s_0.1.length]? =some s_0.2
instance litq_d (k_0:Nat)(s_0:List Int×Int):Decidable (Ts k_0 s_0):=by unfold Ts;infer_instance
theorem XY:eM ((aP).map BX):=by
 refine⟨GA (p:=Ts) (fun k s h=>?_) 66 0 _ (of_decide_eq_true kr),of_decide_eq_true kr,fun x e=>?_⟩
 ·intro h1;refine⟨fun h2=>?_,fun h2=>h2⟩;rw[List.getElem?_map,h h1 h2];rfl
 ·rw[List.length_map];unfold aP;rw[e]
instance pleas_literals_1_p_d:Decidable (eM ((aP).map BX)):=.isTrue XY
instance pleas_Check_p_d (a0:Plea):Decidable (jg a0):=by unfold jg;repeat (first|infer_instance|refine @instDecidableAnd _ _ ?_ ?_|refine @instDecidableForall _ _ ?_ ?_)
instance pleas_court_derive_l1_p_d (facts:List Int)(clauses:List Clause)(strict_:List (Int×Bool))(s_0:List (Int×Int)×List Reason)(z_1:Int)(s_1:List Reason):Decidable (eF facts clauses strict_ s_0 z_1 s_1):=by unfold eF;repeat (first|infer_instance|refine @instDecidableAnd _ _ ?_ ?_|refine @instDecidableForall _ _ ?_ ?_)
instance pleas_court_derive_l0_p_d (facts:List Int)(clauses:List Clause)(strict_:List (Int×Bool))(k_0:Nat)(s_0:List (Int×Int)×List Reason):Decidable (fD facts clauses strict_ k_0 s_0):=by unfold fD;repeat (first|infer_instance|refine @instDecidableAnd _ _ ?_ ?_|refine @instDecidableForall _ _ ?_ ?_)
instance pleas_court_derive_p_d (facts:List Int)(clauses:List Clause)(strict_:List (Int×Bool))(known_:List (Int×Int)):Decidable (eN facts clauses strict_ known_):=by unfold eN;repeat (first|infer_instance|refine @instDecidableAnd _ _ ?_ ?_|refine @instDecidableForall _ _ ?_ ?_)
instance pleas_Answer_p_d (p:Plea)(q:Int):Decidable (jR p q):=by unfold jR;repeat (first|infer_instance|refine @instDecidableAnd _ _ ?_ ?_|refine @instDecidableForall _ _ ?_ ?_)
instance precedents_ask_p_d (b:Cases)(l_:List Int)(side:Int):Decidable (jG b l_ side):=by unfold jG;repeat (first|infer_instance|refine @instDecidableAnd _ _ ?_ ?_|refine @instDecidableForall _ _ ?_ ?_)
instance precedents_court_missing_p_d (c:PrecedentsCourt)(x:PrecedentsDecided)(facts:Int):Decidable (eJ c x facts):=by unfold eJ;repeat (first|infer_instance|refine @instDecidableAnd _ _ ?_ ?_|refine @instDecidableForall _ _ ?_ ?_)
instance precedents_Binds_1_p_d (x:PrecedentsDecided)(side_:Int)(facts_:Int)(c_:PrecedentsCourt):Decidable (gL x side_ facts_ c_):=by unfold gL;repeat (first|infer_instance|refine @instDecidableAnd _ _ ?_ ?_|refine @instDecidableForall _ _ ?_ ?_)
instance precedents_first_precedents_decided_b_l0_p_d (l_:List PrecedentsDecided)(side_:Int)(facts_:Int)(c_:PrecedentsCourt)(k_0:Nat)(s_0:Int):Decidable (br l_ side_ facts_ c_ k_0 s_0):=by unfold br;repeat (first|infer_instance|refine @instDecidableAnd _ _ ?_ ?_|refine @instDecidableForall _ _ ?_ ?_)
instance precedents_first_precedents_decided_b_p_d (l_:List PrecedentsDecided)(fr:Int)(side_:Int)(facts_:Int)(c_:PrecedentsCourt):Decidable (bK l_ fr side_ facts_ c_):=by unfold bK;repeat (first|infer_instance|refine @instDecidableAnd _ _ ?_ ?_|refine @instDecidableForall _ _ ?_ ?_)
instance precedents_Binds_p_d (b:Cases)(l_:List Int)(side:Int):Decidable (eL b l_ side):=by unfold eL;repeat (first|infer_instance|refine @instDecidableAnd _ _ ?_ ?_|refine @instDecidableForall _ _ ?_ ?_)
instance judgement_Decide_k_l0_p_d (sides:List Int)(a1:Suit)(k_0:Nat)(s_0:List Int):Decidable (fE sides a1 k_0 s_0):=by unfold fE;repeat (first|infer_instance|refine @instDecidableAnd _ _ ?_ ?_|refine @instDecidableForall _ _ ?_ ?_)
instance judgement_Decide_k_l1_p_d (sides:List Int)(a1:Suit)(k_1:Nat)(s_1:List Int):Decidable (fF sides a1 k_1 s_1):=by unfold fF;repeat (first|infer_instance|refine @instDecidableAnd _ _ ?_ ?_|refine @instDecidableForall _ _ ?_ ?_)
instance judgement_Decide_k_l2_p_d (sides:List Int)(a1:Suit)(k_2:Nat)(s_2:List Int):Decidable (fG sides a1 k_2 s_2):=by unfold fG;repeat (first|infer_instance|refine @instDecidableAnd _ _ ?_ ?_|refine @instDecidableForall _ _ ?_ ?_)
instance judgement_Decide_k_l3_p_d (sides:List Int)(a1:Suit)(k_3:Nat)(s_3:List Int):Decidable (fH sides a1 k_3 s_3):=by unfold fH;repeat (first|infer_instance|refine @instDecidableAnd _ _ ?_ ?_|refine @instDecidableForall _ _ ?_ ?_)
instance judgement_Decide_k_p_d (sides:List Int)(a1:Suit)(cs:List Case):Decidable (eO sides a1 cs):=by unfold eO;repeat (first|infer_instance|refine @instDecidableAnd _ _ ?_ ?_|refine @instDecidableForall _ _ ?_ ?_)
instance judgement_Sit_l0_p_d (sides:List Int)(l_:List Suit)(k_0:Nat)(s_0:List Case):Decidable (iD sides l_ k_0 s_0):=by unfold iD;repeat (first|infer_instance|refine @instDecidableAnd _ _ ?_ ?_|refine @instDecidableForall _ _ ?_ ?_)
instance judgement_Sit_p_d (sides:List Int)(l_:List Suit):Decidable (iM sides l_):=by unfold iM;repeat (first|infer_instance|refine @instDecidableAnd _ _ ?_ ?_|refine @instDecidableForall _ _ ?_ ?_)
theorem NL (a b:List Claim):oT a b:=fun _ _ h=>mL _ _ _ fun j _ _ hj _=>by
 have:(a.length:Int)=b.length:=by simpa using h
 omega
theorem GB {ρ:Type}{step:Nat→Unit→ρ⊕Unit}:∀ (n i:Nat),(∀ j,i≤j→j<i+n→step j ()=.inr ())→aw step n i ()=.inr ()
 |0,_,_=>rfl
 |n+1,i,h=>by
  rw[aw,h i (Nat.le_refl _) (by omega)];exact GB n (i+1) fun j h1 h2=>h j (by omega) (by omega)
theorem Dn (a:List Claim):pF a a=true:=by
 unfold pF;rw[show((a.length:Int) !=(a.length:Int))=false by simp,GB (ρ:=Unit) a.length 0 fun j _ _=>by unfold qc;simp];rfl
theorem BZ (d:District)(j:List Judgement):gT d j:=fun _ _ h _=>mL _ _ _ fun k s _ hk=>by
 rw[Eg]at h;have h:=of_decide_eq_true h;have key:((k:Int) ==0)=false→(0≤(i64.wrap ((k:Int) - 1))∧(i64.wrap ((k:Int) - 1)) < (j.length:Int)):=fun hk0=>by
  have:(k:Int)≠0:=by simpa using hk0
  rw[f6 (by omega) (by omega)];omega
 exact fun _=>⟨key,fun h1 _=>key h1⟩
theorem GC (d:District)(j:List Judgement):tj d j:=⟨C_ d,fun hc _ h=>mL _ _ _ fun k s _ hk=>by
 have h:=of_decide_eq_false h;have hf:d.farms.length≤600:=by
  have:fB d=0:=by simpa using hc
  rw[←tX]at this;exact((ow d).1 this).1.2.1
 have hw:i64.wrap ((d.farms.length:Int) - 1)=(d.farms.length:Int) - 1:=f6 (by omega) (by omega);intro _;refine⟨⟨by omega,by omega,by omega⟩,fun _=>?_⟩;have hl:((j.take k).drop 0).length=k:=by simp;omega
 have key:(decide ((((j.take k).drop 0).length:Int) > 0))=true→(0≤(i64.wrap ((((j.take k).drop 0).length:Int) - 1))∧(i64.wrap ((((j.take k).drop 0).length:Int) - 1)) < (((j.take k).drop 0).length:Int)):=fun h0=>by
  have h0:=of_decide_eq_true h0;rw[hl]at h0 ⊢;rw[f6 (by omega) (by omega)];omega
 refine⟨fun _=>key,fun _ h0 _=>key h0,fun _ _ _ h1 _ _ h2=>?_⟩;rw[hw]at h1 h2;simp only[Bool.or_eq_false_iff,Bool.not_eq_false',FZ,Bool.and_eq_true,decide_eq_true_eq]at h1 h2;exact⟨fun _=>by omega,fun _=>by omega⟩⟩
theorem EE (d:District)(j:List Judgement)(h:Int)(hj:JR j):gU d j h∧Ck d j h:=by
 have key:fC d j=0→d.farms.length≤600∧∀ k,k<j.length→(j.getD k default).kind=4→(0≤(j.getD k default).farm∧(j.getD k default).farm< (d.farms.length:Int))∧(0≤(j.getD k default).other∧(j.getD k default).other< (d.farms.length:Int)):=fun hc=>by
  have h1:=Td hc;obtain⟨h2,_,_⟩:=wy hc;rw[←tX]at h2;refine⟨((ow d).1 h2).1.2.1,fun k hk hkd=>?_⟩;have h3:=h1 k hk;have h4:(j.getD k default).of_=0:=Decidable.byContradiction fun e=>by have:=h3.end_ e;omega
  exact⟨h3.farm h4,(h3.other (by omega)).1,(h3.other (by omega)).2.1⟩
 refine⟨⟨BZ d j,fun hc _ _=>⟨⟨rfl,by omega,?_⟩,fun _ _=>?_⟩⟩,⟨GC d j,fun hc _ _=>⟨⟨rfl,by omega,?_⟩,fun _=>?_⟩⟩⟩
 ·have hc:aO d j=0:=by simpa using hc
  rw[uK d j hj]at hc;have:=(key hc).1;unfold dq;omega
 ·have hc:aO d j=0:=by simpa using hc
  rw[uK d j hj]at hc;refine D6 (fun _ s=>s.length=d.farms.length) _ _ _ (by simp) fun k s _ hk hs=>⟨fun hg=>?_,fun s' e=>?_⟩
  ·simp only[Bool.and_eq_true,beq_iff_eq]at hg;have:=(key hc).2 k (by omega) hg.1.1;rw[List.length_set,hs];exact⟨this.1,this.1,this.2,this.2⟩
  ·unfold dU at e;rw[Bool.cond_eq_ite]at e;split at e <;>simp only[Sum.inr.injEq]at e <;>subst e
   ·simp[hs]
   ·exact hs
 ·have hc:fC d j=0:=by simpa using hc
  have:=(key hc).1;unfold dq;omega
 ·have hc:fC d j=0:=by simpa using hc
  refine D6 (fun _ s=>s.length=d.farms.length) _ _ _ (by simp) fun k s _ hk hs=>⟨fun _ hg=>?_,fun s' e=>?_⟩
  ·simp only[Bool.and_eq_true,beq_iff_eq]at hg;have:=(key hc).2 k (by omega) hg.1.1;rw[List.length_set,hs];exact⟨this.1,this.1,this.2,this.2⟩
  ·unfold v7 at e;rw[Bool.cond_eq_ite]at e;split at e <;>simp only[Sum.inr.injEq]at e <;>subst e
   ·simp[hs]
   ·exact hs
def z6 (d:District)(c:List Claim)(j:List Judgement):List Claim×Int:=bif aO d j !=0 then([],aO d j)else bif bf d c !=0 then([],bf d c)else bif(decide (((exS j (c.length+1) c).length:Int) > 4096)) ||(exS j (c.length+1) c).any bL then([],2)else(exS j (c.length+1) c,0)
theorem Tt (x:List Claim):bw x=x.any bL:=by
 unfold bw cW;rcases yn (step:=dZ x) x default bL (fun k _=>rfl)with⟨e,h⟩ | ⟨K,y,T,h1,e,h2,h3⟩
 ·rw[e,List.any_eq_false.2 fun z hz=>by rw[h z hz];simp];rfl
 ·rw[e,List.any_eq_true.2 ⟨y,by rw[h1];simp,h2⟩];exact decide_eq_true (show(K.length:Int)≥0 by omega)
theorem XZ (x:List Claim):(match aw (mO x) x.length 0 ()with| .inl _=>(([],2):List Claim×Int) | .inr _=>(x,0))=bif x.any bL then([],2)else(x,0):=by
 have key:∀ (R A:List Claim) (k:Nat),x=A++R→A.length=k→aw (mO x) R.length k ()=bif R.any bL then .inl ()else .inr ():=fun R=>by
  induction R with
  |nil=>exact fun A k _ _=>rfl
  |cons y R ih=>
   intro A k hx hk;have g:x.getD k default=y:=by rw[hx];exact gV A y default R hk.symm
   simp only[List.length_cons,aw,mO,g,List.any_cons];cases hy:bL y with
   |true=>
    have:decide (y.litres > 1073741824)=true:=hy;rw[this];rfl
   |false=>
    have:decide (y.litres > 1073741824)=false:=hy;rw[this];exact ih (A++[y]) (k+1) (by rw[hx];simp) (by simp[hk])
 rw[key x [] 0 rfl rfl];cases x.any bL <;>rfl
theorem GD {d:District}{c:List Claim}{j:List Judgement}(h1:aO d j=0)(hj:JR j)(h2:bf d c=0)(hjl:j.length≤20)(hcl:c.length≤300):Given d j c:=by
 obtain⟨a1,_,a3,a4⟩:=xD h2;rw[uK d j hj]at h1;refine⟨fun x hx=>?_,hjl,a3,a4,hcl,((ow d).1 a1).1.2.2.2.1⟩;obtain⟨i,hi,rfl⟩:=List.getElem_of_mem hx;have:=Td h1 i hi
 rwa[List.getD_eq_getElem?_getD,List.getElem?_eq_getElem hi]at this
theorem GF {d:District}{c:List Claim}{j:List Judgement}(hj:JR j)(hjl:aO d j=0→j.length≤20)(hcl:bf d c=0→c.length≤300):
  (du d c j∧zW d c j)∧aX d c j=z6 d c j∧w7 d c j=z6 d c j:=by
 have run:aO d j=0→bf d c=0→(okI (bS c j) (f_ c j) (c.length+1) 0 (c,[])∧aw (bS c j) (c.length+1) 0 (c,[])=.inl ([]++exS j (c.length+1) c))∧
   okI (dx c j) (n9 c j) (c.length+1) 0 ([],0)∧aw (dx c j) (c.length+1) 0 ([],0)=.inl ([]++exS j (c.length+1) c):=fun h1 h2=>by
  have g:=GD h1 hj h2 (hjl h1) (hcl h2);have:=g.cl;exact⟨Gu c (c.length+1) 0 c [] (by omega) g (by simp only[List.length_nil];omega),Jo c g.cl (c.length+1) 0 c [] [] rfl (by omega) g (by simp only[List.length_nil];omega)⟩
 refine⟨⟨⟨BZ d j,fun h1=>⟨Gf d c,fun h2=>?_⟩⟩,⟨GC d j,fun h1=>⟨KH d c,fun h2=>?_⟩⟩⟩,?_,?_⟩
 ·obtain⟨⟨r1,r2⟩,_⟩:=run (by simpa using h1) (by simpa using h2);exact⟨r1,fun z e=>by rw[r2]at e;cases e⟩
 ·rw[←uK d j hj]at h1;rw[←Dg]at h2;obtain⟨_,r1,r2⟩:=run (by simpa using h1) (by simpa using h2);exact⟨r1,fun z e=>by rw[r2]at e;cases e⟩
 ·unfold aX z6;cases h1:aO d j !=0 with
  |true=>rfl
  |false=>
   simp only[cond_false];cases h2:bf d c !=0 with
   |true=>rfl
   |false=>
    simp only[cond_false];obtain⟨⟨_,r2⟩,_⟩:=run (by simpa using h1) (by simpa using h2);rw[r2,List.nil_append];simp only[Tt]
 ·unfold w7 z6;rw[←uK d j hj,←Dg];cases h1:aO d j !=0 with
  |true=>rfl
  |false=>
   simp only[cond_false];cases h2:bf d c !=0 with
   |true=>rfl
   |false=>
    simp only[cond_false];obtain⟨_,_,r2⟩:=run (by simpa using h1) (by simpa using h2);rw[r2,List.nil_append];cases hd:decide (((exS j (c.length+1) c).length:Int) > 4096)with
    |true=>simp only[hd,cond_true,Bool.true_or]
    |false=>
     simp only[hd,cond_false,Bool.false_or];exact XZ _
end Go.Sx
end
