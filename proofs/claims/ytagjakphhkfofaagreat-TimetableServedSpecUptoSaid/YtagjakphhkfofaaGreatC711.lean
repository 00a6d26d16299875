/- Part of the proof that the law TimetableServedSpec returns true and leaves its arguments as they were, for all arguments of bulk at most 1048576 (the Upto form). -/
import Derived.Test.YtagjakphhkfofaaGreatC708
import Derived.Test.YtagjakphhkfofaaGreatC710
import Derived.Test.YtagjakphhkfofaaGreatC709
import Derived.Test.YtagjakphhkfofaaGreatC707
import Derived.Test.YtagjakphhkfofaaGreatC706
set_option linter.all false
set_option maxHeartbeats 4000000
section
namespace Go.Sx
open Go.RowKit Go.Shelf Go.Lib Go.Sort Go.Proofs
set_option maxRecDepth 100000
noncomputable def iu:List SV→List Ob→Option HCon:=fun l h=>orC (eW .claim 36 [] bJ l h) (eW .claim 71 [] bD l h)
@[go_sem] theorem K9 {l0:List Claim}:iu [.os 0,.fn 36 [] []] [.row .claim l0]=some (tY (apart bJ l0) (.tup []) [.row .claim (srt bJ l0)]):=by
 unfold iu
 rw[lP];rfl
@[go_sem] theorem I4 {l0:List Claim}:iu [.os 0,.fn 71 [] []] [.row .claim l0]=some (tY (apart bD l0) (.tup []) [.row .claim (srt bD l0)]):=by
 unfold iu
 rw[lP]
 have:eW .claim 36 [] bJ [.os 0,.fn 71 [] []] [.row .claim l0]=none:=by simp[eW,wl]
 rw[this];rfl
theorem xc:zr .claim:=fun x s hs=>by
 simp only[cellsOf,List.mem_cons,List.not_mem_nil,or_false]at hs
 rcases hs with rfl|rfl|rfl|rfl|rfl
 all_goals exact⟨_,rfl,rfl⟩
theorem zT (x y:Claim):jJ (.agg (cellsOf .claim x):: .agg (cellsOf .claim y)::[])=some (.det True (.v (.int .i64 (bJ x y)))):=by
 simp only[go_sem,Nat.reduceBEq]
theorem xd (x y:Claim):kX (.agg (cellsOf .claim x):: .agg (cellsOf .claim y)::[])=some (.det True (.v (.int .i64 (bD x y)))):=by
 simp only[go_sem,Nat.reduceBEq]
theorem vI:FnOkO Tryz.prog 67 iu:=by
 refine FnOkO.or ?_ ?_
 ·exact oM (k:=.claim) Tryz.sortLc (fun w=>by kernel_rfl) (fun w=>by kernel_rfl) xc (by decide) (g:=36) (caps:=[]) mZ (cf:=bJ) zT ub (fun s hs=>by cases hs) ⟨default,default,zT _ _⟩
 ·exact oM (k:=.claim) Tryz.sortLc (fun w=>by kernel_rfl) (fun w=>by kernel_rfl) xc (by decide) (g:=71) (caps:=[]) qc (cf:=bD) xd mv (fun s hs=>by cases hs) ⟨default,default,xd _ _⟩
end Go.Sx
end
section
namespace Go.Sx
open Go.Proofs
set_option maxRecDepth 100000
set_option linter.unusedSimpArgs false
theorem K_ {p:Prop}(h:p:=by simp only[go_sem,Nat.reduceBEq,Nat.reduceLeDiff,Nat.reduceLT,decide_true,Nat.reduceAdd,Nat.reduceSub,Nat.reduceMul,Int.reduceLE,Int.reduceLT,Int.reduceToNat,Int.reduceNeg,reduceCtorEq,hc,hw];all_goals exact rV):p:=h
theorem La {p:Prop}(h:p:=by simp only[go_sem,Nat.reduceBEq,Nat.reduceLeDiff,Nat.reduceLT,decide_true,Nat.reduceAdd,Nat.reduceSub,Nat.reduceMul,Int.reduceLE,Int.reduceLT,Int.reduceToNat,Int.reduceNeg,reduceCtorEq,hc];all_goals exact rV):p:=h
@[go_sem] def zU (x:Claim):List SV:=[.agg (cellsOf .claim x)]
@[go_sem] def dC:List SV→Option Con:=(pR .claim fun s_=>(pE (.det True (.fn 68 [] [.ep [.rs .claim s_] 0]))))
theorem eY:FnOk Tryz.prog 35 dC:=by
 have hG:ConsOk Tryz.prog (mkG [] []):=aC cg0 cg0
 refine aI [.o] mixed ax hG (fn:=Tryz.f35) (c:=aa Tryz.f35) (by kernel_rfl) (by kernel_rfl) (by kernel_rfl) (by kernel_rfl) (cj fun s_=>(aB (fun hp=>?_)))
 refine⟨Nat.le_of_ble_eq_true rfl,L0,ak _,?_⟩
 unfold aa Tryz.f35
 simp only[go_sem,vh,vj,Nat.reduceBEq,Nat.reduceLeDiff,Nat.reduceAdd,Nat.reduceSub,Nat.reduceMul]
@[go_sem] def bN (s_:List Claim)(k_0:Nat)(s_0:List Claim):Empty⊕(List Claim):=.inr (s_0++[(s_.getD k_0 (default:Claim))])
def b8 (s_:List Claim)(items_:List (List SV))(k_0:Nat)(s_0:List Claim):Prop:=(items_[s_0.length]? =some (zU (s_.getD k_0 (default:Claim))))
def eT (s_:List Claim)(items_:List (List SV)):Prop:=(s_.length≤a7→(okI (bN s_) (b8 s_ items_) s_.length 0 ([]:List Claim)∧(∀ s_0,ap (bN s_) s_.length 0 ([]:List Claim)=.inr s_0→(items_.length=s_0.length))))
theorem iv (s_:List Claim)(items_:List (List SV))(hp:eT s_ items_):Aw Tryz.prog 68 (fun y=>[y,.ep [.rs .claim s_] 0]) [] items_:=by
 unfold eT at hp
 refine Gl mixed ax (fn:=Tryz.f68) (c:=aa Tryz.f68) (by kernel_rfl) (by kernel_rfl) (by kernel_rfl) (by kernel_rfl) rfl (n:=0) rfl (G:=fun r_=>xw [] [] (D7 items_ r_)) (fun r_ hy=>?_) (fun args w=>by kernel_rfl)
 have hG:ConsOk Tryz.prog (xw [] [] (D7 items_ r_)):=uT cg0 cg0 hy
 refine⟨hG,Nat.le_of_ble_eq_true rfl,(fun id st=>bif Nat.beq id 0 then some (LCY (ρ:=Empty) (σ:=(List Claim)) 1 [] [0] (fun k_0 s_0=>⟨[(0,.os 0),(5,.rs .claim s_),(6,.v (.int .i64 (s_.length:Int))),(7,.v (.int .i64 (k_0:Int)))],[.ab (r_.1 (s_0.length+1))]⟩) (bN s_) (b8 s_ items_) s_.length ([]:List Claim) (s_.length≤a7) ((·.elim)) ((·.elim)) ⟨[],[.ab (r_.1 0)]⟩ st)else none),?_,?_⟩
 ·unfold aa Tryz.f68
  simp only[ay,true_and,and_true]
  ·refine vg mixed ax hG (by kernel_rfl) (fun _=>rfl) (s_.length:Int) rfl g7 (fun hb0 k_0 s_0 hlt0 hq0 hw hc=>⟨L0,ak _,?_⟩) (fun hb0 s_0 hc=>?_)
   ·unfold b8 at hq0
    try simp only[hw,Int.toNat_natCast]at hq0
    exact K_
   ·exact La
 ·unfold aa Tryz.f68
  simp only[go_sem,Nat.reduceBEq,Nat.reduceLeDiff,Nat.reduceLT,decide_true,Nat.reduceAdd,Nat.reduceSub,Nat.reduceMul,Int.reduceLE,Int.reduceLT,Int.reduceToNat,Int.reduceNeg,reduceCtorEq]
  all_goals exact rV
end Go.Sx
end
section
namespace Go.Sx
open Go.Proofs
set_option maxRecDepth 100000
noncomputable def iZ:List SV→Option Con:=pQ (.v (.slice none 0 0)) (pFn 68 (pXR .claim fun c=>pE fun l=>(pE (.det (c.length*40≤dE) (.nw .claim c))) l))
def qm:List Claim→List Ob
 | [] =>[.cells [.v (.slice none 0 0)]]
 |x::l=>[.cells [.os 1],.row .claim (x::l)]
def xe (x:Claim)(l:List Claim):Empty⊕List Claim:=.inr (l++[x])
theorem zV:∀ (l m:List Claim),cI xe l m=.inr (m++l)
 | [],m=>by simp[cI]
 |x::l,m=>by simp only[cI,xe];rw[zV l];simp
theorem By {B:Nat}:∀ (l m:List Claim),m.length+l.length≤B→okL xe (fun _ s=>s.length+1≤B) l m
 | [],_,_=>trivial
 |x::l,m,h=>⟨by simp at h;omega,fun s' hs=>by
  simp only[xe,Sum.inr.injEq]at hs
  subst hs
  exact By l _ (by simp at h ⊢;omega)⟩
theorem IG (c:List Claim):Aw Tryz.prog 68 (fun y=>[y,.ep [.rs .claim c] 0]) [] (c.map zU):=by
 refine iv c _ fun _=>⟨?_,fun s hs=>?_⟩
 ·refine fZ (fun k (s:List Claim) =>s.length=k) _ _ _ rfl fun j s _ hj hs=>⟨?_,fun s' e=>?_⟩
  ·unfold b8
   rw[hs,List.getElem?_map,List.getElem?_eq_getElem (by omega),List.getD_eq_getElem?_getD,List.getElem?_eq_getElem (by omega)]
   rfl
  ·unfold bN at e
   cases e
   rw[List.length_append,hs];rfl
 ·have:=y9 (fun k (s:List Claim) =>s.length=k) c.length 0 [] (by rfl) (fun j s _ _ hs s' e=>by
   unfold bN at e
   cases e
   rw[List.length_append,hs];rfl) s hs
  rw[List.length_map,this,Nat.zero_add]
theorem sd:FnOk Tryz.prog 110 iZ:=by
 have hG:ConsOk Tryz.prog (mkG [] []):=aC cg0 cg0
 refine qf [(.tmp 4,.claim)] mixed ax hG (fn:=Tryz.f110) (c:=aa Tryz.f110) (by kernel_rfl) (by kernel_rfl) (by kernel_rfl) (by kernel_rfl) (QS (kf (uU fun c=>(aB (aB (fun hp=>?_))))))
 dsimp only[aD]at hp
 refine⟨Nat.le_of_ble_eq_true rfl,fun id st=>bif Nat.beq id 0 then some (LC (ρ:=Empty) (σ:=List Claim) (lk 2 st.t=.ptr 0 0∧lk 6 st.t=.fn 68 [] [.ep [.rs .claim c] 0]∧st.h=[.cells [.v (.slice none 0 0)]]) (cI xe c []) (·.elim) (·.elim) (fun s=>⟨[(2,.ptr 0 0)],qm s⟩))else none,?_,?_⟩
 ·unfold aa Tryz.f110
  simp only[ay,true_and,and_true]
  refine pj mixed ax hG (by decide) (by decide) (by kernel_rfl) (by kernel_rfl) fun st lc hC hp=>?_
  simp only[go_sem,Nat.reduceBEq,Option.some.injEq]at hC
  subst hC
  obtain⟨t,h⟩:=st
  dsimp only[LC]at hp
  obtain⟨e2,e6,rfl⟩:=hp
  refine⟨68,[.ep [.rs .claim c] 0],Claim,_,_,c,zU,xe,fun _ s=>s.length+1≤c.length,_,[],_,_,_,[(2,.ptr 0 0)],qm,(·.elim),[0],?_,rfl,By _ _ (by simp),Nat.le_of_ble_eq_true rfl,?_,?_,fun x s hq=>⟨rfl,L0,fun l=>ak _,fun l=>ak _,?_⟩,fun s=>?_,fun y=>y.elim⟩
  ·simp only[go_sem,e6]
  ·simp only[go_sem,qr,kc,List.flatMap_cons,List.flatMap_nil,List.nil_append,List.append_nil,List.map_nil,qm,e2,Nat.reduceBEq,Nat.reduceLeDiff,Nat.reduceAdd]
   all_goals (first|done|decide|(repeat' (first|refine And.intro ?_ ?_|rfl|decide)))
  ·exact IG c
  ·have hb:(s++[x]).length*40≤dE:=by simp;omega
   cases s with
   |nil=>
    simp only[go_sem,psT,zU,qm,xe,List.cons_append,List.nil_append,Nat.reduceBEq,Nat.reduceLeDiff,Nat.reduceAdd,Nat.reduceSub,Nat.reduceMul]
    exact⟨by simpa using hb,fun _=>fk [0,3]⟩
   |cons a m=>
    simp only[go_sem,psT,zU,qm,xe,List.cons_append,List.nil_append,Nat.reduceBEq,Nat.reduceLeDiff,Nat.reduceAdd,Nat.reduceSub,Nat.reduceMul]
    exact⟨by simpa using hb,fun _=>fk [0,4]⟩
  ·cases s with
   |nil=>simp only[qm];exact fk [0]
   |cons a m=>simp only[qm];exact fk [0,1]
 ·unfold aa Tryz.f110
  simp only[go_sem,Nat.reduceBEq,Nat.reduceLeDiff,Nat.reduceAdd,Nat.reduceSub,Nat.reduceMul,zV,List.nil_append]
  refine⟨fun y=>y.elim,fun s hs=>?_⟩
  cases hs
  cases c with
  |nil=>simp only[go_sem,qm,Nat.reduceLT,decide_true,Nat.reduceBEq,Nat.reduceLeDiff,Nat.reduceAdd,Nat.reduceSub,Nat.reduceMul]
  |cons x l=>simp only[go_sem,qm,Nat.reduceLT,decide_true,Nat.reduceBEq,Nat.reduceLeDiff,Nat.reduceAdd,Nat.reduceSub,Nat.reduceMul]
attribute [go_sem] iZ
end Go.Sx
end
section
namespace Go.Sx
open Go.Proofs
set_option maxRecDepth 100000
set_option linter.unusedSimpArgs false
def cV (c:List Claim):List Claim:=c
def cA (c:List Claim):Prop:=(c.length*40≤dE)
@[go_sem] noncomputable def fA:List SV→Option Con:=(pFn 68 (pXR .claim fun c=>(pE ((pE (.det (cA c) (.nw .claim (cV c))))))))
theorem hY:FnOk Tryz.prog 66 fA:=by
 have hG:ConsOk Tryz.prog (mkG [(110,iZ)] []):=aC (cgc sd cg0) cg0
 refine p7 true mixed ax hG (fn:=Tryz.f66) (c:=aa Tryz.f66) (by kernel_rfl) (by kernel_rfl) (by kernel_rfl) (by kernel_rfl) (kf (uU fun c=>(aB ((aB (fun hp=>?_))))))
 dsimp only[aD]at hp
 unfold cA at hp
 refine⟨Nat.le_of_ble_eq_true rfl,L0,ak _,?_⟩
 ·unfold aa Tryz.f66
  try unfold cV
  simp only[go_sem,Nat.reduceBEq,Nat.reduceLeDiff,Nat.reduceLT,decide_true,Nat.reduceAdd,Nat.reduceSub,Nat.reduceMul,Int.reduceLE,Int.reduceLT,Int.reduceToNat,Int.reduceNeg,reduceCtorEq]
  all_goals exact cl
end Go.Sx
end
section
namespace Go.Sx
open Go.Proofs
set_option maxRecDepth 100000
set_option linter.unusedSimpArgs false
def ag (c:List Claim):List Claim:=(srt bJ (cV c))
def eJ (c:List Claim):Prop:=((cA c)∧(apart bJ (cV c)))
@[go_sem] noncomputable def gw:List SV→Option Con:=(pFn 68 (pXR .claim fun c=>(pE ((pFn 36 (pE ((pE (.det (eJ c) (.nw .claim (ag c)))))))))))
theorem lA:FnOk Tryz.prog 34 gw:=by
 have hG:ConsOk Tryz.prog (mkG [(66,fA)] [(67,iu)]):=aC (cgc hY cg0) (cgc vI cg0)
 refine p7 true mixed ax hG (fn:=Tryz.f34) (c:=aa Tryz.f34) (by kernel_rfl) (by kernel_rfl) (by kernel_rfl) (by kernel_rfl) (kf (uU fun c=>(aB ((kf (aB ((aB (fun hp=>?_)))))))))
 dsimp only[aD]at hp
 unfold eJ at hp
 refine⟨Nat.le_of_ble_eq_true rfl,L0,ak _,?_⟩
 ·unfold aa Tryz.f34
  try unfold ag
  simp only[go_sem,Nat.reduceBEq,Nat.reduceLeDiff,Nat.reduceLT,decide_true,Nat.reduceAdd,Nat.reduceSub,Nat.reduceMul,Int.reduceLE,Int.reduceLT,Int.reduceToNat,Int.reduceNeg,reduceCtorEq]
  all_goals exact cl
def eK (c:List Claim):List Claim:=(srt bD (cV c))
def eo (c:List Claim):Prop:=((cA c)∧(apart bD (cV c)))
@[go_sem] noncomputable def fW:List SV→Option Con:=(pFn 68 (pXR .claim fun c=>(pE ((pFn 71 (pE ((pE (.det (eo c) (.nw .claim (eK c)))))))))))
theorem kJ:FnOk Tryz.prog 34 fW:=by
 have hG:ConsOk Tryz.prog (mkG [(66,fA)] [(67,iu)]):=aC (cgc hY cg0) (cgc vI cg0)
 refine p7 true mixed ax hG (fn:=Tryz.f34) (c:=aa Tryz.f34) (by kernel_rfl) (by kernel_rfl) (by kernel_rfl) (by kernel_rfl) (kf (uU fun c=>(aB ((kf (aB ((aB (fun hp=>?_)))))))))
 dsimp only[aD]at hp
 unfold eo at hp
 refine⟨Nat.le_of_ble_eq_true rfl,L0,ak _,?_⟩
 ·unfold aa Tryz.f34
  try unfold eK
  simp only[go_sem,Nat.reduceBEq,Nat.reduceLeDiff,Nat.reduceLT,decide_true,Nat.reduceAdd,Nat.reduceSub,Nat.reduceMul,Int.reduceLE,Int.reduceLT,Int.reduceToNat,Int.reduceNeg,reduceCtorEq]
  all_goals exact cl
noncomputable def cB:List SV→Option Con:=fun l=>orC (gw l) (fW l)
theorem fX:FnOk Tryz.prog 34 cB:=FnOk.or lA kJ
end Go.Sx
end
section
namespace Go.Sx
open Go.RowKit
def IH (n0 id:Nat):Ob→SV
 | .row k l=>bif Nat.ble n0 id then .rs k l else .any
 |_=>.any
def isV:SV→Bool
 | .v _=>true
 |_=>false
def wJ (n0:Nat)(h:List Ob):SV→SV
 | .v x=>.v x
 | .rs k l=>.rs k l
 | .agg l=>bif l.all isV then .agg l else .any
 | .os id=>IH n0 id (av h id)
 |_=>.any
def AI (n0:Nat)(h:List Ob):SV→SV
 | .tup l=>.tup (l.map (wJ n0 h))
 |s=>wJ n0 h s
def EC (n0:Nat)(own:Own):Own:=fun i=>if i<n0 then own i else none
section
variable {F:Nat→Prop}{own:Own}{w:World}{n0:Nat}{h:List Ob}
theorem vJ {b:Nat}(hb:¬bR F own b):¬bR F (EC n0 own) b:=by
 rintro (hf| ⟨id,hd,e,hm⟩)
 ·exact hb (.inl hf)
 ·unfold EC at e
  split at e
  ·exact hb (.inr ⟨id,hd,e,hm⟩)
  ·cases e
theorem ED (hp:Hp F own w h):∀ (s:SV) (v:Value),Rel F own w s v→Rel F (EC n0 own) w (wJ n0 h s) v:=by
 intro s v hr
 cases s with
 |v x=>exact hr.over (.v x) fun b hb=>vJ hb
 |rs k l=>exact hr.over .rs fun b hb=>vJ hb
 |agg l=>
  simp only[wJ]
  cases ha:l.all isV with
  |false=>exact .any _
  |true=>
   refine hr.over (.agg fun j s hj=>?_) fun b hb=>vJ hb
   have:=List.all_eq_true.1 ha s (List.mem_of_getElem? hj)
   cases s <;>first|exact .v _|cases this
 |os id=>
  obtain⟨hd,h1,rfl,h2⟩:=gz hr
  simp only[wJ]
  cases ho:av h id with
  |row k l=>
   simp only[IH]
   cases hn:Nat.ble n0 id with
   |false=>exact .any _
   |true=>
    have hn':=Nat.le_of_ble_eq_true hn
    obtain⟨hd',e0,e⟩:=hp.at ho rfl
    rw[h1]at e0;cases e0
    have hnb:∀ b∈hd.bs,¬bR F (EC n0 own) b:=by
     rintro b hb (hf| ⟨i,hi,e1,e2⟩)
     ·exact hp.apart id hd b h1 hb hf
     ·unfold EC at e1
      split at e1
      ·rename_i hlt
       have:=hp.inj id i hd hi b h1 e1 hb e2
       omega
      ·cases e1
    rcases e with⟨a,e1,rfl,_⟩ | ⟨b,o,cap,cs,ty,e1,e2,h3,h4,h5,h6,h7⟩
    ·rw[e1];exact .rs0
    ·rw[e1]
     refine .rs (fun i j=>cs.getD (o+i*ae k+j) undef) h5 h6 (fun i x hi j s hj=>?_) (fun i x hi j s hj=>?_)
     ·obtain⟨u,k1,k2⟩:=h7 i x hi j s hj
      refine⟨hnb b (by simp[e2]),?_⟩
      rw[dp h3,k1]
      simp[Array.getD_eq_getD_getElem?,k1]
     ·obtain⟨u,k1,k2⟩:=h7 i x hi j s hj
      have:cs.getD (o+i*ae k+j) undef=u:=by simp[Array.getD_eq_getD_getElem?,k1]
      rw[this]
      exact k2.over (nT hj) fun b hb=>vJ hb
  |_=>exact .any _
 |_=>exact .any _
theorem Lb (hp:Hp F own w h)(s:SV)(v:Value)(hr:Rel F own w s v):Rel F (EC n0 own) w (AI n0 h s) v:=by
 cases s with
 |tup l=>
  cases hr with
  |tup h0 h1=>
   refine .tup (by simpa using h0) fun j s hj=>?_
   obtain⟨x,hx,rfl⟩:=cb hj
   exact ED hp x _ (h1 j x hx)
 |_=>exact ED hp _ _ hr
theorem HH (s:SV):PF (wJ n0 h s):=by
 cases s with
 |agg l=>
  simp only[wJ]
  cases ha:l.all isV with
  |false=>exact .any
  |true=>
   refine .agg fun j s hj=>?_
   have:=List.all_eq_true.1 ha s (List.mem_of_getElem? hj)
   cases s <;>first|exact .v _|cases this
 |os id=>
  simp only[wJ]
  cases av h id with
  |row k l=>simp only[IH];cases Nat.ble n0 id <;>first|exact .any|exact .rs
  |_=>exact .any
 |v x=>exact .v x
 |rs k l=>exact .rs
 |_=>exact .any
theorem NX (s:SV):PF (AI n0 h s):=by
 cases s
 case tup l=>exact .tup fun j s hj=>by obtain⟨x,hx,rfl⟩:=cb hj;exact HH x
 all_goals (unfold AI;exact HH _)
@[go_sem] theorem U5 {l:List SV}:AI n0 h (.tup l)=.tup (l.map (wJ n0 h)):=(rfl)
@[go_sem] theorem WC {id:Nat}:AI n0 h (.os id)=IH n0 id (av h id):=(rfl)
@[go_sem] theorem Xm {x:Value}:AI n0 h (.v x)=.v x:=(rfl)
@[go_sem] theorem WD {k:Tag}{l:List k.T}:AI n0 h (.rs k l)=.rs k l:=(rfl)
@[go_sem] theorem U6 {l:List SV}:AI n0 h (.agg l)=bif l.all isV then .agg l else .any:=(rfl)
@[go_sem] theorem Xn {x:Value}:wJ n0 h (.v x)=.v x:=(rfl)
@[go_sem] theorem WE {k:Tag}{l:List k.T}:wJ n0 h (.rs k l)=.rs k l:=(rfl)
@[go_sem] theorem U7 {l:List SV}:wJ n0 h (.agg l)=bif l.all isV then .agg l else .any:=(rfl)
@[go_sem] theorem WF {id:Nat}:wJ n0 h (.os id)=IH n0 id (av h id):=(rfl)
@[go_sem] theorem U8 {k:Tag}{l:List k.T}{id:Nat}:IH n0 id (.row k l)=bif Nat.ble n0 id then .rs k l else .any:=(rfl)
@[go_sem] theorem isV_v {x:Value}:isV (.v x)=true:=(rfl)
end
def II (pks:List Pk)(n0:Nat)(S:SV)(H:List Ob)(h:List Ob):Option SV→Prop
 |some s=>S=sX pks (AI n0 h s)∧gA ⟨[],H⟩ n0 ⟨[],h⟩
 |none=>False
def Lc (pks:List Pk)(n0:Nat)(rs:List ResultVar)(ts:Tis)(S:SV)(H:List Ob):Ex→St→Prop
 | .exit _,_=>False
 | .normal,st=>II pks n0 S H st.h (kS (jF ts st rs))
 | .ret,st=>II pks n0 S H st.h (kS (jF ts st rs))
 | .pan _,_=>False
section
variable {P:Program}{ts:Tis}{G:Cons}{n0:Nat}{S s:SV}{H h:List Ob}{rs:List ResultVar}{st:St}{pks:List Pk}
@[go_sem] theorem Tl:II pks n0 S H h (some s)=(S=sX pks (AI n0 h s)∧gA ⟨[],H⟩ n0 ⟨[],h⟩):=(rfl)
@[go_sem] theorem NY:Lc pks n0 rs ts S H .normal st=II pks n0 S H st.h (kS (jF ts st rs)):=(rfl)
@[go_sem] theorem Tm:Lc pks n0 rs ts S H .ret st=II pks n0 S H st.h (kS (jF ts st rs)):=(rfl)
theorem Ld {js:List Nat}{own:Own}{F:Nat→Prop}{b:Nat}(hk:tN 0 js n0=true)(hl:H.length=n0)(hb:¬bR F (EC n0 own) b):¬bR F (eV js H own) b:=by
 rintro (hf| ⟨k,hd,e,hm⟩)
 ·exact hb (.inl hf)
 ·obtain⟨h1,j,hd0,e1,e2,_,e4⟩:=fc e
  obtain⟨_,rfl⟩:=e4 b hm
  have hj:=tW js 0 n0 hk k j e1 (by omega)
  have hjk:j=k:=by omega
  subst hjk
  refine hb (.inr ⟨j,hd,?_,hm⟩)
  unfold EC
  rw[if_pos (by omega)]
  exact e2
theorem se (pks:List Pk) (hm:P.follows .mixedOrders=true) (hts:ts.ok P) (hG:ConsOk P G) {f:FuncId} {fn:Func} {c:Code} (hf:P.funcs[f]? =some fn) (hb:fn.body=some c) (hname:(fn.name== "runtime.NumGoroutine")=false)
  (hc:ci fn.ntmps c=true) {C:List SV→List Ob→Option HCon}
  (h:∀ l o con,C l o=some con→∃ p S H,con=tY p S H∧H.length=o.length∧(p→l.length≤fn.ntmps∧∃ L,ay P none fn.ntmps L c∧exec ts G L c ⟨jT 0 l,o⟩ (Lc pks o.length fn.results.toList ts S H))):FnOkO P f C:=by
 refine⟨fun l o con _ args w=>?_,fun l o con hcon hpre F own w vs hp hvs=>?_⟩
 ·have hn:¬fn.name= "runtime.NumGoroutine":=by simpa using hname
  simp[callFunc,hf,hn,hb]
 ·obtain⟨p,S,H,rfl,hH,h2⟩:=h l o con hcon
  obtain⟨hlen,L,hl,hx⟩:=h2 hpre
  have hn0:∀ id hd,own id=some hd→id<o.length:=fun id hd e=>hp.dom id hd e
  refine k_ (n:=0) (callsIn_of_wp_marks hf hb trivial ?_)
  have hr:StRel F { w:=w,own:=own} fn.ntmps own ⟨jT 0 l,o⟩ { tmps:=vs++Array.replicate (fn.ntmps - vs.size) undef,defers:=[]} w:=
   ⟨by have:=hvs.1;simp;omega,Dfr.nil,hp,Fr.refl { w:=w,own:=own},fun t=>jX hvs _ t⟩
  refine wpIn_mono (lK hm hts hG c hc hl F _ _ hx own _ w hr) ?_
  intro e a' w' hq
  have key:∀ F1 own' st,(∀ b,F b→F1 b)→StRel F1 { w:=w,own:=own} fn.ntmps own' st a' w'→II pks o.length S H st.h (kS (jF ts st fn.results.toList))→LeavesInM (rd none) 0 P fn a'.tmps (fun e w'=>∃ r own',(tY p S H).post r∧FJ F w own o.length e own' w' ((tY p S H).res r)) a'.defers .returning w':=by
   intro F1 own' st hF1 hst hdone
   refine ig hst (by simp) fun w2 hst2=>?_
   have hst3:=hst2.less hF1 rfl
   cases hs:kS (jF ts st fn.results.toList)with
   |none=>rw[hs]at hdone;exact hdone.elim
   |some s=>
    rw[hs]at hdone
    obtain⟨hS,js,q3,q4⟩:=hdone
    obtain⟨u,e1,e2⟩:=sL (P:=P) hts hst3 hs
    obtain⟨k1,k2,_,_⟩:=y1 q4 hst3.hp hst3.fr hn0 q3
    refine⟨u,e1,(),eV js H own',trivial,⟨u,rfl,?_⟩,k1,k2,q3⟩
    subst hS
    exact y_ ((Lb hst3.hp s u e2).over (NX s) fun b hb=>Ld q4.1.2.1 hH hb)
  cases e with
  |normal=>obtain⟨F1,own',st,h0,h1,h2⟩:=hq;exact key F1 own' st h0 h1 h2
  |ret=>obtain⟨F1,own',st,h0,h1,h2⟩:=hq;exact key F1 own' st h0 h1 h2
  |exit id=>obtain⟨F1,own',st,h0,h1,h2⟩:=hq;exact h2.elim
  |panic ch=>obtain⟨x,F1,own',st,h0,h1,h2,rfl⟩:=hq;exact h2.elim
  |_=>exact hq.elim
end
end Go.Sx
end
section
namespace Go.Sx
open Go.Proofs
set_option maxRecDepth 100000
set_option linter.unusedSimpArgs false
@[go_sem] noncomputable def i7:List SV→List Ob→Option HCon:=fun l h=>wl .claim (fun c=>(pD .district fun d=>((pQ (.os 0) (pE (tY (d4 d c) (.tup [.rs .order ((aj d c).1),.v (.int .i64 ((aj d c).2))]) [.row .claim c]))))) l) h
theorem sf:FnOkO Tryz.prog 33 i7:=by
 have hG:ConsOk Tryz.prog (mkG [(24,fun l=>oa (cn [.st .district,.sl .claim] l)),(63,fun l=>iY (cn [.sl .claim] l)),(64,fun l=>cP (cn [.sl .order,.o] l))] []):=aC (cgc (qz.norm [.st .district,.sl .claim]) (cgc (my.norm [.sl .claim]) (cgc (dZ.norm [.sl .order,.o]) cg0))) cg0
 refine se [.sl .order,.o] mixed ax hG (fn:=Tryz.f33) (c:=aa Tryz.f33) (by kernel_rfl) (by kernel_rfl) (by kernel_rfl) (by kernel_rfl) fun l o con h=>?_
 unfold i7 at h
 obtain⟨c,rfl,h⟩:=pl h
 obtain⟨d,r0,rfl,h0⟩:=rt h
 obtain⟨r1,rfl,h1⟩:=wi h0
 obtain⟨rfl,rfl⟩:=p8 h1
 clear h h0 h1
 refine⟨_,_,_,rfl,rfl,fun hp=>?_⟩
 unfold d4 at hp
 refine⟨Nat.le_of_ble_eq_true rfl,L0,?_,?_⟩
 ·unfold aa Tryz.f33
  simp only[ay,and_self,true_and,and_true]
 ·unfold aa Tryz.f33
  try unfold aj
  simp only[go_sem,Nat.reduceBEq,Nat.reduceLeDiff,Nat.reduceLT,decide_true,Nat.reduceAdd,Nat.reduceSub,Nat.reduceMul,Int.reduceLE,Int.reduceLT,Int.reduceToNat,Int.reduceNeg,reduceCtorEq]
  all_goals exact ij
end Go.Sx
end
section
namespace Go.Sx
open Go.Proofs
set_option maxRecDepth 100000
set_option linter.unusedSimpArgs false
theorem zW {p:Prop}(h:p:=by(first|done|(repeat' (first|with_reducible refine And.intro ?_ ?_|((with_reducible show _≠_);first|assumption|omega|(simp_all [aX,bf];done) |grind) |with_reducible intro _)) <;>(first|done|exact Empty.elim ‹Empty› |assumption|rfl|omega|decide|exact fk [0,1,2,3,4] |exact czl|(simp only[*,cond_true,cond_false,Bool.not_true,Bool.not_false,go_sem,Nat.reduceBEq,Nat.reduceLeDiff,Nat.reduceLT,decide_true,Nat.reduceAdd,Nat.reduceSub,Nat.reduceMul,Int.reduceLE,Int.reduceLT,Int.reduceToNat,Int.reduceNeg,reduceCtorEq];(repeat' (first|with_reducible refine And.intro ?_ ?_|((with_reducible show _≠_);first|assumption|omega|(simp_all [aX,bf];done) |grind) |with_reducible intro _)) <;>(first|done|assumption|rfl|omega|decide|exact fk [0,1,2,3,4] |(simp_all [aX,bf];done))) |(simp_all [okI,aX,bf];done) |(simp_all [aX,bf];(first|done|exact fk2 [0,1,2,3,4])) |exact fk2 [0,1,2,3,4]))):p:=h
@[go_sem] noncomputable def i9:List SV→List Ob→Option HCon:=fun l h=>wl .claim (fun c=>(pD .district fun d=>((pQ (.os 0) (pE (tY (d5 d c) (.tup [.rs .order ((aw d c).1),.agg (cellsOf .fault ((aw d c).2.1)),.v (.int .i64 ((aw d c).2.2))]) [.row .claim c]))))) l) h
theorem sg:FnOkO Tryz.prog 31 i9:=by
 have hG:ConsOk Tryz.prog (mkG [(54,fun l=>oe (cn [.st .district,.sl .order] l)),(55,kB),(56,fun l=>ln (cn [.st .district,.sl .order] l)),(57,fun l=>jM (cn [.st .district,.sl .order] l))] [(33,i7)]):=aC (cgc (qA.norm [.st .district,.sl .order]) (cgc oi (cgc (oN.norm [.st .district,.sl .order]) (cgc (m_.norm [.st .district,.sl .order]) cg0)))) (cgc sf cg0)
 refine se [.sl .order,.st .fault,.o] mixed ax hG (fn:=Tryz.f31) (c:=aa Tryz.f31) (by kernel_rfl) (by kernel_rfl) (by kernel_rfl) (by kernel_rfl) fun l o con h=>?_
 unfold i9 at h
 obtain⟨c,rfl,h⟩:=pl h
 obtain⟨d,r0,rfl,h0⟩:=rt h
 obtain⟨r1,rfl,h1⟩:=wi h0
 obtain⟨rfl,rfl⟩:=p8 h1
 clear h h0 h1
 refine⟨_,_,_,rfl,rfl,fun hp=>?_⟩
 unfold d5 at hp
 refine⟨Nat.le_of_ble_eq_true rfl,(fun id st=>bif Nat.beq id 0 then some (LC (ρ:=Int×Int×Int×Int×Int) (σ:=Unit) (lk 4 st.t=.ptr 2 0∧lk 5 st.t=.ptr 3 0∧lk 6 st.t=.ptr 4 0∧lk 39 st.t=.fn 100 [] [.ep [.rs .order ((an d ((aj d c).1)).1)] 0,.ep (cellsOf .district d) 0]∧st.h=[.row .claim c,.cells (cellsOf .district d),.cells [.rs .order ((an d ((aj d c).1)).1)],.cells [.v (.int .i64 0),.v (.int .i64 0),.v (.int .i64 0),.v (.int .i64 0),.v (.int .i64 0)],.cells [.v (.int .i64 ((an d ((aj d c).1)).2.2))]]∧dO ((an d ((aj d c).1)).1) d ((bK ((an d ((aj d c).1)).1) d).map ei)) (cI (di d c) (bK ((an d ((aj d c).1)).1) d) ()) (fun _=>.ret) (fun x_0_0=>⟨[(4,.ptr 2 0),(5,.ptr 3 0),(6,.ptr 4 0)],[.row .claim c,.dead,.cells [.v (.slice none 0 0)],.cells [.v (.int .i64 x_0_0.1),.v (.int .i64 x_0_0.2.1),.v (.int .i64 x_0_0.2.2.1),.v (.int .i64 x_0_0.2.2.2.1),.v (.int .i64 x_0_0.2.2.2.2)],.cells [.v (.int .i64 0)]]⟩) (fun s_0=>⟨[(4,.ptr 2 0),(5,.ptr 3 0),(6,.ptr 4 0)],[.row .claim c,.dead,.cells [.rs .order ((an d ((aj d c).1)).1)],.cells [.v (.int .i64 0),.v (.int .i64 0),.v (.int .i64 0),.v (.int .i64 0),.v (.int .i64 0)],.cells [.v (.int .i64 ((an d ((aj d c).1)).2.2))]]⟩))else none),?_,?_⟩
 ·unfold aa Tryz.f31
  simp only[ay,true_and,and_true]
  ·refine pj mixed ax hG (by decide) (by decide) (by kernel_rfl) (by kernel_rfl) fun st lc hC hp=>?_
   simp only[go_sem,Nat.reduceBEq,Option.some.injEq]at hC
   subst hC
   obtain⟨t,h⟩:=st
   dsimp only[LC]at hp
   obtain⟨e0_0,e0_1,e0_2,e0_3,rfl,hb0⟩:=hp
   refine⟨100,[.ep [.rs .order ((an d ((aj d c).1)).1)] 0,.ep (cellsOf .district d) 0],Fault,_,_,(bK ((an d ((aj d c).1)).1) d),ei,(di d c),(mz d c),_,(),_,_,_,[(4,.ptr 2 0),(5,.ptr 3 0),(6,.ptr 4 0)],(fun s_0=>[.row .claim c,.dead,.cells [.rs .order ((an d ((aj d c).1)).1)],.cells [.v (.int .i64 0),.v (.int .i64 0),.v (.int .i64 0),.v (.int .i64 0),.v (.int .i64 0)],.cells [.v (.int .i64 ((an d ((aj d c).1)).2.2))]]),(fun x_0_0=>[.row .claim c,.dead,.cells [.v (.slice none 0 0)],.cells [.v (.int .i64 x_0_0.1),.v (.int .i64 x_0_0.2.1),.v (.int .i64 x_0_0.2.2.1),.v (.int .i64 x_0_0.2.2.2.1),.v (.int .i64 x_0_0.2.2.2.2)],.cells [.v (.int .i64 0)]]),[0,1,2,3,4],?_,rfl,xY _ _ fun _ _ _=>trivial,Nat.le_of_ble_eq_true rfl,?_,kZ ((an d ((aj d c).1)).1) d _ hb0,fun z_0 s_0 hq0=>⟨rfl,L0,fun l=>?_,fun l=>?_,?_⟩,fun s_0=>?_,fun y=>?_⟩
   ·simp only[go_sem,e0_0,e0_1,e0_2,e0_3]
   ·simp only[go_sem,Nat.reduceBEq,Nat.reduceLeDiff,Nat.reduceLT,decide_true,Nat.reduceAdd,Nat.reduceSub,Nat.reduceMul,Int.reduceLE,Int.reduceLT,Int.reduceToNat,Int.reduceNeg,reduceCtorEq,qr,kc,List.flatMap_cons,List.flatMap_nil,List.nil_append,List.append_nil,List.map_nil,e0_0,e0_1,e0_2,e0_3]
    all_goals (first|done|decide|(repeat' (first|refine And.intro ?_ ?_|rfl|decide)))
   ·simp only[ay,and_self,true_and,and_true]
   ·simp only[ay,and_self,true_and,and_true]
   ·skip
    simp only[go_sem,Nat.reduceBEq,Nat.reduceLeDiff,Nat.reduceLT,decide_true,Nat.reduceAdd,Nat.reduceSub,Nat.reduceMul,Int.reduceLE,Int.reduceLT,Int.reduceToNat,Int.reduceNeg,reduceCtorEq,di,psT,ei,List.cons_append,List.nil_append]
    all_goals exact zW
   ·simp only[go_sem,Nat.reduceBEq,Nat.reduceLeDiff,Nat.reduceLT,decide_true,Nat.reduceAdd,Nat.reduceSub,Nat.reduceMul,Int.reduceLE,Int.reduceLT,Int.reduceToNat,Int.reduceNeg,reduceCtorEq]
    all_goals exact zW
   ·simp only[go_sem,Nat.reduceBEq,Nat.reduceLeDiff,Nat.reduceLT,decide_true,Nat.reduceAdd,Nat.reduceSub,Nat.reduceMul,Int.reduceLE,Int.reduceLT,Int.reduceToNat,Int.reduceNeg,reduceCtorEq]
    all_goals exact zW
 ·unfold aa Tryz.f31
  try unfold aw
  simp only[go_sem,Nat.reduceBEq,Nat.reduceLeDiff,Nat.reduceLT,decide_true,Nat.reduceAdd,Nat.reduceSub,Nat.reduceMul,Int.reduceLE,Int.reduceLT,Int.reduceToNat,Int.reduceNeg,reduceCtorEq]
  all_goals exact ij
@[go_sem] noncomputable def gJ:List SV→List Ob→Option HCon:=fun l h=>wl .claim (fun c=>(pD .district fun d=>((pQ (.os 0) (pE (tY (dP d c) (.tup [.rs .order ((aL d c).1),.v (.bool ((aL d c).2.1)),.v (.int .i64 ((aL d c).2.2))]) [.row .claim c]))))) l) h
theorem na:FnOkO Tryz.prog 12 gJ:=by
 have hG:ConsOk Tryz.prog (mkG [] [(31,i9)]):=aC cg0 (cgc sg cg0)
 refine se [.sl .order,.o,.o] mixed ax hG (fn:=Tryz.f12) (c:=aa Tryz.f12) (by kernel_rfl) (by kernel_rfl) (by kernel_rfl) (by kernel_rfl) fun l o con h=>?_
 unfold gJ at h
 obtain⟨c,rfl,h⟩:=pl h
 obtain⟨d,r0,rfl,h0⟩:=rt h
 obtain⟨r1,rfl,h1⟩:=wi h0
 obtain⟨rfl,rfl⟩:=p8 h1
 clear h h0 h1
 refine⟨_,_,_,rfl,rfl,fun hp=>?_⟩
 unfold dP at hp
 refine⟨Nat.le_of_ble_eq_true rfl,L0,?_,?_⟩
 ·unfold aa Tryz.f12
  simp only[ay,and_self,true_and,and_true]
 ·unfold aa Tryz.f12
  try unfold aL
  simp only[go_sem,Nat.reduceBEq,Nat.reduceLeDiff,Nat.reduceLT,decide_true,Nat.reduceAdd,Nat.reduceSub,Nat.reduceMul,Int.reduceLE,Int.reduceLT,Int.reduceToNat,Int.reduceNeg,reduceCtorEq]
  all_goals exact ij
end Go.Sx
end
section
namespace Go.Sx
open Go.Proofs
set_option maxRecDepth 100000
@[go_sem] def mE:List SV→Option Con:=pR .claim fun l=>pE (.det (l.length*40≤dE) (.nw .claim l))
theorem qP:FnOk Tryz.prog 38 mE:=by
 have hG:ConsOk Tryz.prog (mkG [] []):=aC cg0 cg0
 refine qf [(.tmp 2,.claim)] mixed ax hG (fn:=Tryz.f38) (c:=aa Tryz.f38) (by kernel_rfl) (by kernel_rfl) (by kernel_rfl) (by kernel_rfl) (cj fun l=>aB fun hp=>?_)
 dsimp only[aD]at hp
 refine⟨Nat.le_of_ble_eq_true rfl,L0,ak _,?_⟩
 unfold aa Tryz.f38
 simp only[go_sem,Nat.reduceBEq,Nat.reduceLeDiff,Nat.reduceAdd,Nat.reduceSub,Nat.reduceMul,Int.reduceLE,Int.reduceLT,Int.reduceToNat,Int.reduceNeg,reduceCtorEq]
 intro b hb
 refine⟨fun h=>?_,fun _=>⟨hp,fun _=>rfl⟩⟩
 have hl:=hb h
 subst hl
 rfl
end Go.Sx
end
section
namespace Go.Sx
open Go.Proofs
set_option maxRecDepth 100000
set_option linter.unusedSimpArgs false
theorem EE {p:Prop}(h:p:=by(first|done|(repeat' (first|with_reducible refine And.intro ?_ ?_|((with_reducible show _≠_);first|assumption|omega|(simp_all [aX,bf];done) |grind) |with_reducible intro _)) <;>(first|done|exact Empty.elim ‹Empty› |assumption|rfl|omega|decide|exact fk [0,1,6] |exact fk [0,1,2] |exact czl|(simp only[*,cond_true,cond_false,Bool.not_true,Bool.not_false,go_sem,Nat.reduceBEq,Nat.reduceLeDiff,Nat.reduceLT,decide_true,Nat.reduceAdd,Nat.reduceSub,Nat.reduceMul,Int.reduceLE,Int.reduceLT,Int.reduceToNat,Int.reduceNeg,reduceCtorEq];(repeat' (first|with_reducible refine And.intro ?_ ?_|((with_reducible show _≠_);first|assumption|omega|(simp_all [aX,bf];done) |grind) |with_reducible intro _)) <;>(first|done|assumption|rfl|omega|decide|exact fk [0,1,6] |exact fk [0,1,2] |(simp_all [aX,bf];done))) |(simp_all [okI,aX,bf];done) |(simp_all [aX,bf];(first|done|exact fk2 [0,1,6] |exact fk2 [0,1,2])) |exact fk2 [0,1,6] |exact fk2 [0,1,2]))):p:=h
theorem Le {p:Prop}(h:p:=by simp only[go_sem,Nat.reduceBEq,Nat.reduceLeDiff,Nat.reduceLT,decide_true,Nat.reduceAdd,Nat.reduceSub,Nat.reduceMul,Int.reduceLE,Int.reduceLT,Int.reduceToNat,Int.reduceNeg,reduceCtorEq,hc,hw];all_goals exact EE):p:=h
theorem Lf {p:Prop}(h:p:=by simp only[go_sem,Nat.reduceBEq,Nat.reduceLeDiff,Nat.reduceLT,decide_true,Nat.reduceAdd,Nat.reduceSub,Nat.reduceMul,Int.reduceLE,Int.reduceLT,Int.reduceToNat,Int.reduceNeg,reduceCtorEq,hc];all_goals exact EE):p:=h
def aO (c:List Claim):List Claim:=(eK c)
def i_ (c:List Claim):Prop:=(eo c)
@[go_sem] def nb:List SV→Option Con:=(pR .claim fun c=>(pE (.det (i_ c) (.nw .claim (aO c)))))
theorem sh:FnOk Tryz.prog 37 nb:=by
 have hG:ConsOk Tryz.prog (mkG [(34,cB),(35,fun l=>dC (cn [.sl .claim] l))] []):=aC (cgc fX (cgc (eY.norm [.sl .claim]) cg0)) cg0
 refine p7 true mixed ax hG (fn:=Tryz.f37) (c:=aa Tryz.f37) (by kernel_rfl) (by kernel_rfl) (by kernel_rfl) (by kernel_rfl) (cj fun c=>(aB (fun hp=>?_)))
 dsimp only[aD]at hp
 unfold i_ at hp
 refine⟨Nat.le_of_ble_eq_true rfl,L0,ak _,?_⟩
 ·unfold aa Tryz.f37
  try unfold aO
  simp only[go_sem,Nat.reduceBEq,Nat.reduceLeDiff,Nat.reduceLT,decide_true,Nat.reduceAdd,Nat.reduceSub,Nat.reduceMul,Int.reduceLE,Int.reduceLT,Int.reduceToNat,Int.reduceNeg,reduceCtorEq,cB]
  all_goals exact cl
@[go_sem] def bM (d:District)(c:List Claim)(k_0:Nat)(s_0:List Claim):Empty⊕(List Claim):=(bif(((aL d (aO (s_0++([((ag c).getD k_0 (default:Claim))])))).2.2==0)&&(aL d (aO (s_0++([((ag c).getD k_0 (default:Claim))])))).2.1)then .inr (aO (s_0++([((ag c).getD k_0 (default:Claim))])))else .inr s_0)
def g8 (d:District)(c:List Claim)(k_0:Nat)(s_0:List Claim):Prop:=((s_0.length*40≤dE)∧(((s_0++([((ag c).getD k_0 (default:Claim))])).length*40≤dE)∧((s_0++([((ag c).getD k_0 (default:Claim))])).length≤a7→((i_ (s_0++([((ag c).getD k_0 (default:Claim))])))∧(dP d (aO (s_0++([((ag c).getD k_0 (default:Claim))]))))))))
def bW (d:District)(c:List Claim):List Claim×Int:=(bif((aj d c).2 !=0)then([],(aj d c).2)else(match ap (bM d c) ((ag c).length) 0 ([])with| .inl x=>x.elim| .inr s_0=>(s_0,0)))
def fB (d:District)(c:List Claim):Prop:=((d4 d c)∧(((aj d c).2 !=0)=false→((eJ c)∧((ag c).length≤a7→okI (bM d c) (g8 d c) ((ag c).length) 0 ([])))))
@[go_sem] def jQ:List SV→Option Con:=(pD .district fun d=>(pR .claim fun c=>(pE (.det (fB d c) (.tup [.nw .claim ((bW d c).1),.v (.int .i64 ((bW d c).2))])))))
theorem nc:FnOk Tryz.prog 17 jQ:=by
 have hG:ConsOk Tryz.prog (mkG [(33,fun l=>ky (cn [.st .district,.sl .claim] l)),(34,cB),(35,fun l=>dC (cn [.sl .claim] l)),(37,fun l=>nb (cn [.sl .claim] l)),(38,fun l=>mE (cn [.sl .claim] l))] [(12,gJ)]):=aC (cgc (oh.norm [.st .district,.sl .claim]) (cgc fX (cgc (eY.norm [.sl .claim]) (cgc (sh.norm [.sl .claim]) (cgc (qP.norm [.sl .claim]) cg0))))) (cgc na cg0)
 refine qf [(.tmp 4,.claim)] mixed ax hG (fn:=Tryz.f17) (c:=aa Tryz.f17) (by kernel_rfl) (by kernel_rfl) (by kernel_rfl) (by kernel_rfl) (aN fun d=>(cj fun c=>(aB (fun hp=>?_))))
 dsimp only[aD]at hp
 unfold fB at hp
 refine⟨Nat.le_of_ble_eq_true rfl,(fun id st=>bif Nat.beq id 0 then some (LCR (ρ:=Empty) (σ:=(List Claim)) 2 [.slot 4 (.row .claim ([]))] [0,1,2] (fun k_0 s_0=>⟨[(2,.ptr 0 0),(4,.os 2),(23,.os 1),(24,.v (.int .i64 ((ag c).length:Int))),(25,.v (.int .i64 (k_0:Int)))],[.cells (cellsOf .district d),.row .claim (ag c),.row .claim s_0]⟩) (bM d c) (g8 d c) ((ag c).length) ([]) ((ag c).length≤a7) ((·.elim)) ((·.elim)) st)else none),?_,?_⟩
 ·unfold aa Tryz.f17
  simp only[ay,true_and,and_true]
  ·refine dB mixed ax hG (by kernel_rfl) (fun _=>rfl) ((ag c).length:Int) rfl g7 (fun hb0 k_0 s_0 hlt0 hq0 hw hc=>⟨L0,ak _,?_⟩) (fun hb0 s_0 hc=>?_)
   ·unfold g8 at hq0
    try simp only[hw,Int.toNat_natCast]at hq0
    exact Le
   ·exact Lf
 ·unfold aa Tryz.f17
  try unfold bW
  simp only[go_sem,Nat.reduceBEq,Nat.reduceLeDiff,Nat.reduceLT,decide_true,Nat.reduceAdd,Nat.reduceSub,Nat.reduceMul,Int.reduceLE,Int.reduceLT,Int.reduceToNat,Int.reduceNeg,reduceCtorEq,cB]
  all_goals exact cl
end Go.Sx
end
section
namespace Go.Sx
open Go.Proofs
set_option maxRecDepth 100000
set_option linter.unusedSimpArgs false
def pz (a0:District)(a1:List Claim):Bool:=(bif((((((((decide ((a0.reaches.length:Int) > 8))&&(decide ((a0.reaches.length:Int)≤64))) ||(decide ((a0.reaches.length:Int) > 100))) ||((decide ((a0.farms.length:Int) > 8))&&(decide ((a0.farms.length:Int)≤600)))) ||(decide ((a0.farms.length:Int) > 700))) ||(decide ((a0.rights.length:Int) > 300))) ||(decide ((a0.duties.length:Int) > 300))) ||(decide ((a0.crops.length:Int) > 100)))then false else(((decide (a0.hours≤30)) ||(decide (a0.hours > 1024)))&&(decide ((a1.length:Int)≤60))))
@[go_sem] def xf:List SV→Option Con:=(pD .district fun a0=>(pR .claim fun a1=>(pE (.det True (.v (.bool (pz a0 a1)))))))
theorem CN:FnOk Tryz.prog 11 xf:=by
 have hG:ConsOk Tryz.prog (mkG [] []):=aC cg0 cg0
 refine aI [.o] mixed ax hG (fn:=Tryz.f11) (c:=aa Tryz.f11) (by kernel_rfl) (by kernel_rfl) (by kernel_rfl) (by kernel_rfl) (aN fun a0=>(cj fun a1=>(aB (fun hp=>?_))))
 dsimp only[aD]at hp
 refine⟨Nat.le_of_ble_eq_true rfl,L0,ak _,?_⟩
 ·unfold aa Tryz.f11
  try unfold pz
  simp only[go_sem,Nat.reduceBEq,Nat.reduceLeDiff,Nat.reduceLT,decide_true,Nat.reduceAdd,Nat.reduceSub,Nat.reduceMul,Int.reduceLE,Int.reduceLT,Int.reduceToNat,Int.reduceNeg,reduceCtorEq]
  all_goals exact cl
@[go_sem] def ja (a:List Order)(b:List Order)(k_0:Nat)(s_0:Unit):Unit⊕Unit:=(bif(!(((a.getD k_0 (default:Order)).hour==(b.getD k_0 (default:Order)).hour)&&(((a.getD k_0 (default:Order)).index==(b.getD k_0 (default:Order)).index)&&(((a.getD k_0 (default:Order)).litres==(b.getD k_0 (default:Order)).litres)&&((a.getD k_0 (default:Order)).outlet==(b.getD k_0 (default:Order)).outlet)))))then .inl ()else .inr ())
def g9 (a:List Order)(b:List Order)(k_0:Nat)(s_0:Unit):Prop:=(a.length≤a7→(0≤(k_0:Int)∧(k_0:Int) < (b.length:Int)))
def lB (a:List Order)(b:List Order):Bool:=(bif((a.length:Int) !=(b.length:Int))then false else(match ap (ja a b) a.length 0 ()with| .inl x_0_0=>false| .inr s_0=>true))
def gK (a:List Order)(b:List Order):Prop:=(a.length≤a7→(b.length≤a7→(((a.length:Int) !=(b.length:Int))=false→okI (ja a b) (g9 a b) a.length 0 ())))
@[go_sem] def ou:List SV→Option Con:=(pR .order fun a=>(pR .order fun b=>(pE (.det (gK a b) (.v (.bool (lB a b)))))))
theorem sZ:FnOk Tryz.prog 16 ou:=by
 have hG:ConsOk Tryz.prog (mkG [] []):=aC cg0 cg0
 refine aI [.o] mixed ax hG (fn:=Tryz.f16) (c:=aa Tryz.f16) (by kernel_rfl) (by kernel_rfl) (by kernel_rfl) (by kernel_rfl) (cj fun a=>(cj fun b=>(aB (fun hp=>?_))))
 dsimp only[aD]at hp
 unfold gK at hp
 refine⟨Nat.le_of_ble_eq_true rfl,(fun id st=>bif Nat.beq id 0 then some (LCR (ρ:=Unit) (σ:=Unit) 0 [] [] (fun k_0 s_0=>⟨[(0,.rs .order a),(1,.rs .order b),(5,.v (.int .i64 (k_0:Int)))],[]⟩) (ja a b) (g9 a b) a.length () (True) (fun _=>.ret) (fun x_0_0=>⟨[(4,.v (.bool false))],[]⟩) st)else none),?_,?_⟩
 ·unfold aa Tryz.f16
  simp only[ay,true_and,and_true]
  ·refine dL (a.length≤a7) mixed ax hG (by kernel_rfl) (fun _=>rfl) (a.length:Int) rfl g7 (fun hb0 k_0 s_0 hlt0 hq0 hw hc=>⟨L0,ak _,?_⟩) (fun hb0 s_0 hc=>?_) fun hb0 k_0 s_0=>?_
   ·unfold g9 at hq0
    try simp only[hw,Int.toNat_natCast]at hq0
    exact mt
   ·exact mu
   ·simp only[go_sem,Nat.reduceBEq,Nat.reduceLeDiff,Nat.reduceLT,decide_true,Nat.reduceAdd,Nat.reduceSub,Nat.reduceMul,Int.reduceLE,Int.reduceLT,Int.reduceToNat,Int.reduceNeg,reduceCtorEq,hb0]
 ·unfold aa Tryz.f16
  try unfold lB
  simp only[go_sem,Nat.reduceBEq,Nat.reduceLeDiff,Nat.reduceLT,decide_true,Nat.reduceAdd,Nat.reduceSub,Nat.reduceMul,Int.reduceLE,Int.reduceLT,Int.reduceToNat,Int.reduceNeg,reduceCtorEq]
  all_goals exact cl
@[go_sem] def f7 (a:List Claim)(b:List Claim)(k_0:Nat)(s_0:Unit):Unit⊕Unit:=(bif(!(((a.getD k_0 (default:Claim)).right==(b.getD k_0 (default:Claim)).right)&&(((a.getD k_0 (default:Claim)).farm==(b.getD k_0 (default:Claim)).farm)&&(((a.getD k_0 (default:Claim)).hour==(b.getD k_0 (default:Claim)).hour)&&(((a.getD k_0 (default:Claim)).litres==(b.getD k_0 (default:Claim)).litres)&&((a.getD k_0 (default:Claim)).rank==(b.getD k_0 (default:Claim)).rank))))))then .inl ()else .inr ())
def g_ (a:List Claim)(b:List Claim)(k_0:Nat)(s_0:Unit):Prop:=(a.length≤a7→(0≤(k_0:Int)∧(k_0:Int) < (b.length:Int)))
def ft (a:List Claim)(b:List Claim):Bool:=(bif((a.length:Int) !=(b.length:Int))then false else(match ap (f7 a b) a.length 0 ()with| .inl x_0_0=>false| .inr s_0=>true))
def fC (a:List Claim)(b:List Claim):Prop:=(a.length≤a7→(b.length≤a7→(((a.length:Int) !=(b.length:Int))=false→okI (f7 a b) (g_ a b) a.length 0 ())))
@[go_sem] def jR:List SV→Option Con:=(pR .claim fun a=>(pR .claim fun b=>(pE (.det (fC a b) (.v (.bool (ft a b)))))))
theorem nf:FnOk Tryz.prog 19 jR:=by
 have hG:ConsOk Tryz.prog (mkG [] []):=aC cg0 cg0
 refine aI [.o] mixed ax hG (fn:=Tryz.f19) (c:=aa Tryz.f19) (by kernel_rfl) (by kernel_rfl) (by kernel_rfl) (by kernel_rfl) (cj fun a=>(cj fun b=>(aB (fun hp=>?_))))
 dsimp only[aD]at hp
 unfold fC at hp
 refine⟨Nat.le_of_ble_eq_true rfl,(fun id st=>bif Nat.beq id 0 then some (LCR (ρ:=Unit) (σ:=Unit) 0 [] [] (fun k_0 s_0=>⟨[(0,.rs .claim a),(1,.rs .claim b),(5,.v (.int .i64 (k_0:Int)))],[]⟩) (f7 a b) (g_ a b) a.length () (True) (fun _=>.ret) (fun x_0_0=>⟨[(4,.v (.bool false))],[]⟩) st)else none),?_,?_⟩
 ·unfold aa Tryz.f19
  simp only[ay,true_and,and_true]
  ·refine dL (a.length≤a7) mixed ax hG (by kernel_rfl) (fun _=>rfl) (a.length:Int) rfl g7 (fun hb0 k_0 s_0 hlt0 hq0 hw hc=>⟨L0,ak _,?_⟩) (fun hb0 s_0 hc=>?_) fun hb0 k_0 s_0=>?_
   ·unfold g_ at hq0
    try simp only[hw,Int.toNat_natCast]at hq0
    exact mt
   ·exact mu
   ·simp only[go_sem,Nat.reduceBEq,Nat.reduceLeDiff,Nat.reduceLT,decide_true,Nat.reduceAdd,Nat.reduceSub,Nat.reduceMul,Int.reduceLE,Int.reduceLT,Int.reduceToNat,Int.reduceNeg,reduceCtorEq,hb0]
 ·unfold aa Tryz.f19
  try unfold ft
  simp only[go_sem,Nat.reduceBEq,Nat.reduceLeDiff,Nat.reduceLT,decide_true,Nat.reduceAdd,Nat.reduceSub,Nat.reduceMul,Int.reduceLE,Int.reduceLT,Int.reduceToNat,Int.reduceNeg,reduceCtorEq]
  all_goals exact cl
def aW:District:=({ name:=(ByteArray.mk #[]),hours:=8,tank:=({ cap:=60,start:=40}:Tank),reaches:=[({ name:=(ByteArray.mk #[]),up:=(-1),delay:=2,cap:=20,bank:=30,siphon:=5,evap:=({ lo:=0,hi:=3}:Range),seep:=(({ n:=0,d:=1}:Ratio),({ n:=0,d:=1}:Ratio))}:Reach)],farms:=[({ name:=(ByteArray.mk #[]),reach:=0,area:=0,crop:=(-1)}:Farm),({ name:=(ByteArray.mk #[]),reach:=0,area:=0,crop:=(-1)}:Farm)],crops:=[],rights:=[({ name:=(ByteArray.mk #[]),kind:=1,farm:=0,reach:=0,rank:=2,litres:=1,since:=0,to:=7,every:=1,length:=1}:Right),({ name:=(ByteArray.mk #[]),kind:=1,farm:=1,reach:=0,rank:=1,litres:=1,since:=0,to:=7,every:=1,length:=1}:Right)],duties:=[],wells:=[]}:District)
@[go_sem] def tF:List SV→Option Con:=(pE (.det True (.agg (cellsOf .district (aW)))))
theorem zX:FnOk Tryz.prog 30 tF:=by
 have hG:ConsOk Tryz.prog (mkG [] []):=aC cg0 cg0
 refine aI [.st .district] mixed ax hG (fn:=Tryz.f30) (c:=aa Tryz.f30) (by kernel_rfl) (by kernel_rfl) (by kernel_rfl) (by kernel_rfl) (aB (fun hp=>?_))
 dsimp only[aD]at hp
 refine⟨Nat.le_of_ble_eq_true rfl,L0,ak _,?_⟩
 ·unfold aa Tryz.f30
  try unfold aW
  simp only[go_sem,Nat.reduceBEq,Nat.reduceLeDiff,Nat.reduceLT,decide_true,Nat.reduceAdd,Nat.reduceSub,Nat.reduceMul,Int.reduceLE,Int.reduceLT,Int.reduceToNat,Int.reduceNeg,reduceCtorEq]
  all_goals exact cl
def gf:=([({ right:=1,farm:=1,hour:=1,litres:=9,rank:=1}:Claim)])
def d7:=(d_ aW gf)
def a_:=(d7.1)
def kK:=({ name:=(ByteArray.mk #[]),hours:=0,tank:=({ cap:=0,start:=0}:Tank),reaches:=[],farms:=[],crops:=[],rights:=[],duties:=[],wells:=[]}:District)
def iw:=(aL kK ([]))
def cS:=([({ right:=1,farm:=1,hour:=4,litres:=10,rank:=1}:Claim),({ right:=0,farm:=0,hour:=4,litres:=7,rank:=2}:Claim),({ right:=0,farm:=0,hour:=5,litres:=1,rank:=2}:Claim)])
def gh:=(cS.getD 1 (default:Claim))
def dl:=(aL aW cS)
def jl:=(dl.1)
def fU:=([({ hour:=2,index:=0,litres:=20,outlet:=false}:Order),({ hour:=3,index:=0,litres:=5,outlet:=false}:Order),({ hour:=4,index:=0,litres:=7,outlet:=true}:Order),({ hour:=4,index:=1,litres:=10,outlet:=true}:Order),({ hour:=5,index:=0,litres:=1,outlet:=true}:Order)])
def jm:=(lB jl fU)
def bB:=(cS.set 1 ({ right:=gh.right,farm:=gh.farm,hour:=gh.hour,litres:=8,rank:=gh.rank}:Claim))
def gZ:=(bB.length:Int)
def eB:=(d_ aW bB)
def g5:=(bW aW bB)
def bg:=(eB.1)
def jn:=(g5.1)
def l7:=([(bB.getD 0 (default:Claim)),(bB.getD 2 (default:Claim))])
def lC:Bool:=(bif(((dl.2.2 !=0) ||(!dl.2.1)) ||(!jm))then false else(bif((((((eB.2.2 !=0) ||(g5.2 !=0)) ||(d7.2.2 !=0)) ||(iw.2.2 !=191)) ||(!eB.2.1)) ||(!d7.2.1))then false else((((bg.kind==1)&&((bg.hour==2)&&((bg.index==0)&&((bg.litres==21)&&(bg.limit==20)))))&&((a_.kind==7)&&((a_.hour==1)&&((a_.index==0)&&((a_.litres==9)&&(a_.limit==0))))))&&(ft jn l7))))
def nA:Prop:=((dP aW cS)∧((((dl.2.2 !=0) ||(!dl.2.1))=false→(gK jl fU))∧((((dl.2.2 !=0) ||(!dl.2.1)) ||(!jm))=false→((0≤1∧1< (cS.length:Int))∧((fN aW bB)∧((fB aW bB)∧((fN aW gf)∧((dP kK ([]))∧(((((((eB.2.2 !=0) ||(g5.2 !=0)) ||(d7.2.2 !=0)) ||(iw.2.2 !=191)) ||(!eB.2.1)) ||(!d7.2.1))=false→(((((bg.kind==1)&&((bg.hour==2)&&((bg.index==0)&&((bg.litres==21)&&(bg.limit==20)))))&&((a_.kind==7)&&((a_.hour==1)&&((a_.index==0)&&((a_.litres==9)&&(a_.limit==0))))))=true→(0≤0∧0<gZ))∧(((((bg.kind==1)&&((bg.hour==2)&&((bg.index==0)&&((bg.litres==21)&&(bg.limit==20)))))&&((a_.kind==7)&&((a_.hour==1)&&((a_.index==0)&&((a_.litres==9)&&(a_.limit==0))))))=true→(0≤2∧2<gZ))∧((((bg.kind==1)&&((bg.hour==2)&&((bg.index==0)&&((bg.litres==21)&&(bg.limit==20)))))&&((a_.kind==7)&&((a_.hour==1)&&((a_.index==0)&&((a_.litres==9)&&(a_.limit==0))))))=true→(fC jn l7)))))))))))))
@[go_sem] def vK:List SV→Option Con:=(pE (.det (nA) (.v (.bool (lC)))))
theorem AJ:FnOk Tryz.prog 10 vK:=by
 have hG:ConsOk Tryz.prog (mkG [(12,fun l=>py (cn [.st .district,.sl .claim] l)),(14,fun l=>oO (cn [.st .district,.sl .claim] l)),(16,fun l=>ou (cn [.sl .order,.sl .order] l)),(17,fun l=>jQ (cn [.st .district,.sl .claim] l)),(19,fun l=>jR (cn [.sl .claim,.sl .claim] l)),(30,tF)] [(12,gJ)]):=aC (cgc (vt.norm [.st .district,.sl .claim]) (cgc (ue.norm [.st .district,.sl .claim]) (cgc (sZ.norm [.sl .order,.sl .order]) (cgc (nc.norm [.st .district,.sl .claim]) (cgc (nf.norm [.sl .claim,.sl .claim]) (cgc zX cg0)))))) (cgc na cg0)
 refine aI [.o] mixed ax hG (fn:=Tryz.f10) (c:=aa Tryz.f10) (by kernel_rfl) (by kernel_rfl) (by kernel_rfl) (by kernel_rfl) (aB (fun hp=>?_))
 dsimp only[aD]at hp
 unfold nA at hp
 try simp only[gf,d7,a_,kK,iw,cS,gh,dl,jl,fU,jm,bB,gZ,eB,g5,bg,jn,l7]at hp
 refine⟨Nat.le_of_ble_eq_true rfl,L0,ak _,?_⟩
 ·unfold aa Tryz.f10
  try unfold lC
  simp (maxSteps:=1000000) only[go_sem,Nat.reduceBEq,Nat.reduceLeDiff,Nat.reduceLT,decide_true,Nat.reduceAdd,Nat.reduceSub,Nat.reduceMul,Int.reduceLE,Int.reduceLT,Int.reduceToNat,Int.reduceNeg,reduceCtorEq,gf,d7,a_,kK,iw,cS,gh,dl,jl,fU,jm,bB,gZ,eB,g5,bg,jn,l7]
  all_goals exact cl
def dH (a:Claim)(b:Claim):Bool:=(bif(a.rank !=b.rank)then(decide (a.rank<b.rank))else(bif(a.right !=b.right)then(decide (a.right<b.right))else(bif(a.farm !=b.farm)then(decide (a.farm<b.farm))else(decide (a.hour<b.hour)))))
@[go_sem] def ov:List SV→Option Con:=(pD .claim fun a=>(pD .claim fun b=>(pE (.det True (.v (.bool (dH a b)))))))
theorem qH:FnOk Tryz.prog 40 ov:=by
 have hG:ConsOk Tryz.prog (mkG [] []):=aC cg0 cg0
 refine aI [.o] mixed ax hG (fn:=Tryz.f40) (c:=aa Tryz.f40) (by kernel_rfl) (by kernel_rfl) (by kernel_rfl) (by kernel_rfl) (aN fun a=>(aN fun b=>(aB (fun hp=>?_))))
 dsimp only[aD]at hp
 refine⟨Nat.le_of_ble_eq_true rfl,L0,ak _,?_⟩
 ·unfold aa Tryz.f40
  try unfold dH
  simp only[go_sem,Nat.reduceBEq,Nat.reduceLeDiff,Nat.reduceLT,decide_true,Nat.reduceAdd,Nat.reduceSub,Nat.reduceMul,Int.reduceLE,Int.reduceLT,Int.reduceToNat,Int.reduceNeg,reduceCtorEq]
  all_goals exact cl
def df (a:Claim)(b:Claim):Bool:=(bif(a.hour !=b.hour)then(decide (a.hour<b.hour))else(dH a b))
@[go_sem] def sj:List SV→Option Con:=(pD .claim fun a=>(pD .claim fun b=>(pE (.det True (.v (.bool (df a b)))))))
theorem xL:FnOk Tryz.prog 41 sj:=by
 have hG:ConsOk Tryz.prog (mkG [(40,ov)] []):=aC (cgc qH cg0) cg0
 refine aI [.o] mixed ax hG (fn:=Tryz.f41) (c:=aa Tryz.f41) (by kernel_rfl) (by kernel_rfl) (by kernel_rfl) (by kernel_rfl) (aN fun a=>(aN fun b=>(aB (fun hp=>?_))))
 dsimp only[aD]at hp
 refine⟨Nat.le_of_ble_eq_true rfl,L0,ak _,?_⟩
 ·unfold aa Tryz.f41
  try unfold df
  simp only[go_sem,Nat.reduceBEq,Nat.reduceLeDiff,Nat.reduceLT,decide_true,Nat.reduceAdd,Nat.reduceSub,Nat.reduceMul,Int.reduceLE,Int.reduceLT,Int.reduceToNat,Int.reduceNeg,reduceCtorEq]
  all_goals exact cl
@[go_sem] def fh (l_:List Claim)(x:Claim)(k_0:Nat)(s_0:Int):Int⊕Int:=(bif((decide (s_0< (l_.length:Int)))&&(df (l_.getD (Int.toNat s_0) (default:Claim)) x))then .inr (IntKind.i64.wrap (s_0+1))else .inl s_0)
def jB (l_:List Claim)(x:Claim)(k_0:Nat)(s_0:Int):Prop:=(l_.length≤a7→((decide (s_0< (l_.length:Int)))=true→(0≤s_0∧s_0< (l_.length:Int))))
def cd (l_:List Claim)(x:Claim):List Claim:=(match ap (fh l_ x) (l_.length+1) 0 0 with| .inl x_0_0=>(((([])++((l_.take (Int.toNat x_0_0)).drop 0))++([x]))++((l_.take (Int.toNat (l_.length:Int))).drop (Int.toNat x_0_0))) | .inr s_0=>default)
def nB (l_:List Claim)(x:Claim):Prop:=(okI (fh l_ x) (jB l_ x) (l_.length+1) 0 0∧(∀ z_,ap (fh l_ x) (l_.length+1) 0 0≠ .inr z_)∧(∀ x_0_0,ap (fh l_ x) (l_.length+1) 0 0=.inl x_0_0→((0≤0∧0≤x_0_0∧x_0_0≤(l_.length:Int))∧(((([])++((l_.take (Int.toNat x_0_0)).drop 0)).length*40≤dE)∧((([])++((l_.take (Int.toNat x_0_0)).drop 0)).length≤a7→((((([])++((l_.take (Int.toNat x_0_0)).drop 0))++([x])).length*40≤dE)∧(((([])++((l_.take (Int.toNat x_0_0)).drop 0))++([x])).length≤a7→((0≤x_0_0∧x_0_0≤(l_.length:Int)∧(l_.length:Int)≤(l_.length:Int))∧((((([])++((l_.take (Int.toNat x_0_0)).drop 0))++([x]))++((l_.take (Int.toNat (l_.length:Int))).drop (Int.toNat x_0_0))).length*40≤dE)))))))))
@[go_sem] def vL:List SV→Option Con:=(pR .claim fun l_=>(pD .claim fun x=>(pE (.det (nB l_ x) (.nw .claim (cd l_ x))))))
theorem AK:FnOk Tryz.prog 22 vL:=by
 have hG:ConsOk Tryz.prog (mkG [(41,sj)] []):=aC (cgc xL cg0) cg0
 refine p7 true mixed ax hG (fn:=Tryz.f22) (c:=aa Tryz.f22) (by kernel_rfl) (by kernel_rfl) (by kernel_rfl) (by kernel_rfl) (cj fun l_=>(aN fun x=>(aB (fun hp=>?_))))
 dsimp only[aD]at hp
 unfold nB at hp
 refine⟨Nat.le_of_ble_eq_true rfl,(fun id st=>bif Nat.beq id 0 then some (LCV (ρ:=Int) (σ:=Int) 1 [] [0] (fun k_0 s_0=>⟨[(0,.rs .claim l_),(3,.ptr 0 0),(5,.v (.int .i64 s_0))],[.cells (cellsOf .claim x)]⟩) (fh l_ x) (jB l_ x) (l_.length+1) 0 (fun _=>.normal) (fun x_0_0=>⟨[(0,.rs .claim l_),(3,.ptr 0 0),(5,.v (.int .i64 x_0_0))],[.cells (cellsOf .claim x)]⟩) st)else none),?_,?_⟩
 ·unfold aa Tryz.f22
  simp only[ay,true_and,and_true]
  ·refine ii mixed ax hG (by kernel_rfl) (fun _=>rfl) fun k_0 s_0 hq0=>⟨L0,ak _,?_⟩
   ·unfold jB at hq0
    exact vB
 ·unfold aa Tryz.f22
  try unfold cd
  simp only[go_sem,Nat.reduceBEq,Nat.reduceLeDiff,Nat.reduceLT,decide_true,Nat.reduceAdd,Nat.reduceSub,Nat.reduceMul,Int.reduceLE,Int.reduceLT,Int.reduceToNat,Int.reduceNeg,reduceCtorEq]
  all_goals exact cl
end Go.Sx
end
section
namespace Go.Sx
open Go.Proofs
set_option maxRecDepth 100000
set_option linter.unusedSimpArgs false
theorem EF {p:Prop}(h:p:=by(first|done|(repeat' (first|with_reducible refine And.intro ?_ ?_|((with_reducible show _≠_);first|assumption|omega|(simp_all [aX,bf];done) |grind) |with_reducible intro _)) <;>(first|done|exact Empty.elim ‹Empty› |assumption|rfl|omega|decide|exact fk [0,2] |exact fk [0,1] |exact czl|(simp only[*,cond_true,cond_false,Bool.not_true,Bool.not_false,go_sem,Nat.reduceBEq,Nat.reduceLeDiff,Nat.reduceLT,decide_true,Nat.reduceAdd,Nat.reduceSub,Nat.reduceMul,Int.reduceLE,Int.reduceLT,Int.reduceToNat,Int.reduceNeg,reduceCtorEq];(repeat' (first|with_reducible refine And.intro ?_ ?_|((with_reducible show _≠_);first|assumption|omega|(simp_all [aX,bf];done) |grind) |with_reducible intro _)) <;>(first|done|assumption|rfl|omega|decide|exact fk [0,2] |exact fk [0,1] |(simp_all [aX,bf];done))) |(simp_all [okI,aX,bf];done) |(simp_all [aX,bf];(first|done|exact fk2 [0,2] |exact fk2 [0,1])) |exact fk2 [0,2] |exact fk2 [0,1]))):p:=h
theorem Lg {p:Prop}(h:p:=by simp only[go_sem,Nat.reduceBEq,Nat.reduceLeDiff,Nat.reduceLT,decide_true,Nat.reduceAdd,Nat.reduceSub,Nat.reduceMul,Int.reduceLE,Int.reduceLT,Int.reduceToNat,Int.reduceNeg,reduceCtorEq,hc,hw];all_goals exact EF):p:=h
theorem Lh {p:Prop}(h:p:=by simp only[go_sem,Nat.reduceBEq,Nat.reduceLeDiff,Nat.reduceLT,decide_true,Nat.reduceAdd,Nat.reduceSub,Nat.reduceMul,Int.reduceLE,Int.reduceLT,Int.reduceToNat,Int.reduceNeg,reduceCtorEq,hc];all_goals exact EF):p:=h
theorem Li {p:Prop}(h:p:=by simp only[go_sem,Nat.reduceBEq,Nat.reduceLeDiff,Nat.reduceLT,decide_true,Nat.reduceAdd,Nat.reduceSub,Nat.reduceMul,Int.reduceLE,Int.reduceLT,Int.reduceToNat,Int.reduceNeg,reduceCtorEq,hc,hw];all_goals exact sb):p:=h
theorem Lj {p:Prop}(h:p:=by simp only[go_sem,Nat.reduceBEq,Nat.reduceLeDiff,Nat.reduceLT,decide_true,Nat.reduceAdd,Nat.reduceSub,Nat.reduceMul,Int.reduceLE,Int.reduceLT,Int.reduceToNat,Int.reduceNeg,reduceCtorEq,hc];all_goals exact sb):p:=h
def kL (a:Claim)(b:Claim):Bool:=(bif(a.hour !=b.hour)then(decide (a.hour<b.hour))else(bif(a.rank !=b.rank)then(decide (a.rank<b.rank))else(bif(a.right !=b.right)then(decide (a.right<b.right))else(decide (a.farm<b.farm)))))
@[go_sem] def sm:List SV→Option Con:=(pD .claim fun a=>(pD .claim fun b=>(pE (.det True (.v (.bool (kL a b)))))))
theorem xM:FnOk Tryz.prog 116 sm:=by
 have hG:ConsOk Tryz.prog (mkG [] []):=aC cg0 cg0
 refine aI [.o] mixed ax hG (fn:=Tryz.f116) (c:=aa Tryz.f116) (by kernel_rfl) (by kernel_rfl) (by kernel_rfl) (by kernel_rfl) (aN fun a=>(aN fun b=>(aB (fun hp=>?_))))
 dsimp only[aD]at hp
 refine⟨Nat.le_of_ble_eq_true rfl,L0,ak _,?_⟩
 ·unfold aa Tryz.f116
  try unfold kL
  simp only[go_sem,Nat.reduceBEq,Nat.reduceLeDiff,Nat.reduceLT,decide_true,Nat.reduceAdd,Nat.reduceSub,Nat.reduceMul,Int.reduceLE,Int.reduceLT,Int.reduceToNat,Int.reduceNeg,reduceCtorEq]
  all_goals exact cl
def j4 (a0:District)(a1:Claim):Bool:=(bif((((((((decide (a1.right<0)) ||(decide (a1.right≥(a0.rights.length:Int)))) ||(decide (a1.farm<0))) ||(decide (a1.farm≥(a0.farms.length:Int)))) ||(decide (a1.hour<0))) ||(decide (a1.hour≥a0.hours))) ||(decide (a1.litres<1))) ||(decide (a1.litres > 1073741824)))then false else(((a0.rights.getD (Int.toNat a1.right) (default:Right)).kind==1)&&((a0.rights.getD (Int.toNat a1.right) (default:Right)).rank==a1.rank)))
def oX (a0:District)(a1:Claim):Prop:=(((((((((decide (a1.right<0)) ||(decide (a1.right≥(a0.rights.length:Int)))) ||(decide (a1.farm<0))) ||(decide (a1.farm≥(a0.farms.length:Int)))) ||(decide (a1.hour<0))) ||(decide (a1.hour≥a0.hours))) ||(decide (a1.litres<1))) ||(decide (a1.litres > 1073741824)))=false→((0≤a1.right∧a1.right< (a0.rights.length:Int))∧(((a0.rights.getD (Int.toNat a1.right) (default:Right)).kind==1)=true→(0≤a1.right∧a1.right< (a0.rights.length:Int)))))
@[go_sem] def tG:List SV→Option Con:=(pD .district fun a0=>(pD .claim fun a1=>(pE (.det (oX a0 a1) (.v (.bool (j4 a0 a1)))))))
theorem zY:FnOk Tryz.prog 115 tG:=by
 have hG:ConsOk Tryz.prog (mkG [] []):=aC cg0 cg0
 refine aI [.o] mixed ax hG (fn:=Tryz.f115) (c:=aa Tryz.f115) (by kernel_rfl) (by kernel_rfl) (by kernel_rfl) (by kernel_rfl) (aN fun a0=>(aN fun a1=>(aB (fun hp=>?_))))
 dsimp only[aD]at hp
 unfold oX at hp
 refine⟨Nat.le_of_ble_eq_true rfl,L0,ak _,?_⟩
 ·unfold aa Tryz.f115
  try unfold j4
  simp only[go_sem,Nat.reduceBEq,Nat.reduceLeDiff,Nat.reduceLT,decide_true,Nat.reduceAdd,Nat.reduceSub,Nat.reduceMul,Int.reduceLE,Int.reduceLT,Int.reduceToNat,Int.reduceNeg,reduceCtorEq]
  all_goals exact cl
@[go_sem] def eL (d:District)(c:List Claim)(k_0:Nat)(s_0:Unit):Unit⊕Unit:=(bif((!(j4 d (c.getD k_0 (default:Claim)))) ||((decide ((k_0:Int) > 0))&&(!(kL (c.getD (Int.toNat (IntKind.i64.wrap ((k_0:Int) - 1))) (default:Claim)) (c.getD k_0 (default:Claim))))))then .inl ()else .inr ())
def lD (d:District)(c:List Claim)(k_0:Nat)(s_0:Unit):Prop:=(c.length≤a7→((oX d (c.getD k_0 (default:Claim)))∧((!(j4 d (c.getD k_0 (default:Claim))))=false→((decide ((k_0:Int) > 0))=true→(0≤(IntKind.i64.wrap ((k_0:Int) - 1))∧(IntKind.i64.wrap ((k_0:Int) - 1)) < (c.length:Int))))))
def gx (d:District)(c:List Claim):Int:=(bif((dQ d) !=0)then(dQ d)else(bif(decide ((c.length:Int) > 4096))then 2 else(match ap (eL d c) c.length 0 ()with| .inl x_0_0=>260| .inr s_0=>0)))
def l8 (d:District)(c:List Claim):Prop:=((jk d)∧(((dQ d) !=0)=false→(c.length≤a7→((decide ((c.length:Int) > 4096))=false→okI (eL d c) (lD d c) c.length 0 ()))))
@[go_sem] def tH:List SV→Option Con:=(pD .district fun d=>(pR .claim fun c=>(pE (.det (l8 d c) (.v (.int .i64 (gx d c)))))))
theorem zZ:FnOk Tryz.prog 72 tH:=by
 have hG:ConsOk Tryz.prog (mkG [(114,fun l=>oW (cn [.st .district] l)),(115,fun l=>tG (cn [.st .district,.st .claim] l)),(116,sm)] []):=aC (cgc (r7.norm [.st .district]) (cgc (zY.norm [.st .district,.st .claim]) (cgc xM cg0))) cg0
 refine aI [.o] mixed ax hG (fn:=Tryz.f72) (c:=aa Tryz.f72) (by kernel_rfl) (by kernel_rfl) (by kernel_rfl) (by kernel_rfl) (aN fun d=>(cj fun c=>(aB (fun hp=>?_))))
 dsimp only[aD]at hp
 unfold l8 at hp
 refine⟨Nat.le_of_ble_eq_true rfl,(fun id st=>bif Nat.beq id 0 then some (LCR (ρ:=Unit) (σ:=Unit) 1 [] [0] (fun k_0 s_0=>⟨[(1,.rs .claim c),(2,.ptr 0 0),(6,.v (.int .i64 (k_0:Int)))],[.cells (cellsOf .district d)]⟩) (eL d c) (lD d c) c.length () (True) (fun _=>.ret) (fun x_0_0=>⟨[(4,.v (.int .i64 260))],[.dead]⟩) st)else none),?_,?_⟩
 ·unfold aa Tryz.f72
  simp only[ay,true_and,and_true]
  ·refine dL (c.length≤a7) mixed ax hG (by kernel_rfl) (fun _=>rfl) (c.length:Int) rfl g7 (fun hb0 k_0 s_0 hlt0 hq0 hw hc=>⟨L0,ak _,?_⟩) (fun hb0 s_0 hc=>?_) fun hb0 k_0 s_0=>?_
   ·unfold lD at hq0
    try simp only[hw,Int.toNat_natCast]at hq0
    exact fv
   ·exact fw
   ·simp only[go_sem,Nat.reduceBEq,Nat.reduceLeDiff,Nat.reduceLT,decide_true,Nat.reduceAdd,Nat.reduceSub,Nat.reduceMul,Int.reduceLE,Int.reduceLT,Int.reduceToNat,Int.reduceNeg,reduceCtorEq,hb0]
 ·unfold aa Tryz.f72
  try unfold gx
  simp only[go_sem,Nat.reduceBEq,Nat.reduceLeDiff,Nat.reduceLT,decide_true,Nat.reduceAdd,Nat.reduceSub,Nat.reduceMul,Int.reduceLE,Int.reduceLT,Int.reduceToNat,Int.reduceNeg,reduceCtorEq]
  all_goals exact cl
@[go_sem] def iL (c:List Claim)(farm:Int)(hour:Int)(k_0:Nat)(s_0:Int):Empty⊕Int:=(bif(((c.getD k_0 (default:Claim)).farm==farm)&&((c.getD k_0 (default:Claim)).hour==hour))then .inr (IntKind.i64.wrap (s_0+(c.getD k_0 (default:Claim)).litres))else .inr s_0)
def fj (c:List Claim)(farm:Int)(hour:Int):Int:=(match ap (iL c farm hour) c.length 0 0 with| .inl x=>x.elim| .inr s_0=>s_0)
@[go_sem] def qI:List SV→Option Con:=(pR .claim fun c=>(pI fun farm=>(pI fun hour=>(pE (.det True (.v (.int .i64 (fj c farm hour))))))))
theorem wK:FnOk Tryz.prog 105 qI:=by
 have hG:ConsOk Tryz.prog (mkG [] []):=aC cg0 cg0
 refine aI [.o] mixed ax hG (fn:=Tryz.f105) (c:=aa Tryz.f105) (by kernel_rfl) (by kernel_rfl) (by kernel_rfl) (by kernel_rfl) (cj fun c=>(b_ fun farm=>(b_ fun hour=>(aB (fun hp=>?_)))))
 dsimp only[aD]at hp
 refine⟨Nat.le_of_ble_eq_true rfl,(fun id st=>bif Nat.beq id 0 then some (LCR (ρ:=Empty) (σ:=Int) 0 [] [] (fun k_0 s_0=>⟨[(0,.rs .claim c),(1,.v (.int .i64 farm)),(2,.v (.int .i64 hour)),(7,.v (.int .i64 s_0)),(8,.v (.int .i64 (k_0:Int)))],[]⟩) (iL c farm hour) pT c.length 0 (True) ((·.elim)) ((·.elim)) st)else none),?_,?_⟩
 ·unfold aa Tryz.f105
  simp only[ay,true_and,and_true]
  ·refine dL (c.length≤a7) mixed ax hG (by kernel_rfl) (fun _=>rfl) (c.length:Int) rfl g7 (fun hb0 k_0 s_0 hlt0 _ hw hc=>⟨L0,ak _,?_⟩) (fun hb0 s_0 hc=>?_) fun hb0 k_0 s_0=>?_
   ·exact mt
   ·exact mu
   ·simp only[go_sem,Nat.reduceBEq,Nat.reduceLeDiff,Nat.reduceLT,decide_true,Nat.reduceAdd,Nat.reduceSub,Nat.reduceMul,Int.reduceLE,Int.reduceLT,Int.reduceToNat,Int.reduceNeg,reduceCtorEq,hb0]
 ·unfold aa Tryz.f105
  try unfold fj
  simp only[go_sem,Nat.reduceBEq,Nat.reduceLeDiff,Nat.reduceLT,decide_true,Nat.reduceAdd,Nat.reduceSub,Nat.reduceMul,Int.reduceLE,Int.reduceLT,Int.reduceToNat,Int.reduceNeg,reduceCtorEq]
  all_goals exact cl
@[go_sem] def ez (d:District)(c:List Claim)(k_0:Nat)(k_1:Nat)(s_1:List Order):Empty⊕(List Order):=(bif(decide ((fj c (k_1:Int) (k_0:Int)) > 0))then .inr (s_1++([({ hour:=(k_0:Int),index:=(k_1:Int),litres:=(fj c (k_1:Int) (k_0:Int)),outlet:=true}:Order)]))else .inr s_1)
def gL (d:District)(c:List Claim)(k_0:Nat)(k_1:Nat)(s_1:List Order):Prop:=(d.farms.length≤a7→((decide ((fj c (k_1:Int) (k_0:Int)) > 0))=true→((s_1++([({ hour:=(k_0:Int),index:=(k_1:Int),litres:=(fj c (k_1:Int) (k_0:Int)),outlet:=true}:Order)])).length*32≤dE)))
@[go_sem] def fu (d:District)(c:List Claim)(k_0:Nat)(s_0:List Order):Empty⊕(List Order):=(match ap (ez d c k_0) d.farms.length 0 s_0 with| .inl x=>x.elim| .inr s_1=>.inr s_1)
def jS (d:District)(c:List Claim)(k_0:Nat)(s_0:List Order):Prop:=okI (ez d c k_0) (gL d c k_0) d.farms.length 0 s_0
def az (d:District)(c:List Claim):List Order:=(bif((c.length:Int) ==0)then []else(match ap (fu d c) (Int.toNat d.hours) 0 ([])with| .inl x=>x.elim| .inr s_0=>s_0))
def eX (d:District)(c:List Claim):Prop:=(c.length≤a7→(((c.length:Int) ==0)=false→((d.hours<9223372036854775808)∧okI (fu d c) (jS d c) (Int.toNat d.hours) 0 ([]))))
@[go_sem] def jC:List SV→Option Con:=(pD .district fun d=>(pR .claim fun c=>(pE (.det (eX d c) (.nw .order (az d c))))))
theorem lE:FnOk Tryz.prog 59 jC:=by
 have hG:ConsOk Tryz.prog (mkG [(105,fun l=>qI (cn [.sl .claim,.o,.o] l))] []):=aC (cgc (wK.norm [.sl .claim,.o,.o]) cg0) cg0
 refine qf [(.tmp 4,.order)] mixed ax hG (fn:=Tryz.f59) (c:=aa Tryz.f59) (by kernel_rfl) (by kernel_rfl) (by kernel_rfl) (by kernel_rfl) (aN fun d=>(cj fun c=>(aB (fun hp=>?_))))
 dsimp only[aD]at hp
 unfold eX at hp
 refine⟨Nat.le_of_ble_eq_true rfl,(fun id st=>bif Nat.beq id 0 then some (LCR (ρ:=Empty) (σ:=(List Order)) 1 [.slot 5 (.row .order ([]))] [0,1] (fun k_0 s_0=>⟨[(1,.rs .claim c),(2,.ptr 0 0),(5,.os 1),(6,.v (.int .i64 (k_0:Int)))],[.cells (cellsOf .district d),.row .order s_0]⟩) (fu d c) (jS d c) (Int.toNat d.hours) ([]) (d.hours<9223372036854775808) ((·.elim)) ((·.elim)) st)else none),?_,?_⟩
 ·unfold aa Tryz.f59
  simp only[ay,true_and,and_true]
  ·refine dB mixed ax hG (by kernel_rfl) (fun _=>rfl) d.hours rfl id (fun hb0 k_0 s_0 hlt0 hq0 hw hc=>⟨(fun id st=>bif Nat.beq id 2 then some (LCR (ρ:=Empty) (σ:=(List Order)) 2 [] [0,1,1] (fun k_1 s_1=>⟨[(1,.rs .claim c),(2,.ptr 0 0),(5,.os 2),(6,.v (.int .i64 (k_0:Int))),(7,.v (.int .i64 (k_1:Int)))],[.cells (cellsOf .district d),.dead,.row .order s_1]⟩) (ez d c k_0) (gL d c k_0) d.farms.length s_0 (True) ((·.elim)) ((·.elim)) st)else none),?_,?_⟩) (fun hb0 s_0 hc=>?_)
   ·simp only[ay,true_and,and_true]
    ·refine dL (d.farms.length≤a7) mixed ax hG (by kernel_rfl) (fun _=>rfl) (d.farms.length:Int) rfl g7 (fun hb1 k_1 s_1 hlt1 hq1 hw hc=>⟨L0,ak _,?_⟩) (fun hb1 s_1 hc=>?_) fun hb1 k_1 s_1=>?_
     ·unfold gL at hq1
      try simp only[hw,Int.toNat_natCast]at hq1
      exact Li
     ·exact Lj
     ·simp only[go_sem,Nat.reduceBEq,Nat.reduceLeDiff,Nat.reduceLT,decide_true,Nat.reduceAdd,Nat.reduceSub,Nat.reduceMul,Int.reduceLE,Int.reduceLT,Int.reduceToNat,Int.reduceNeg,reduceCtorEq,hb1]
   ·unfold jS at hq0
    try simp only[hw,Int.toNat_natCast]at hq0
    exact Lg
   ·exact Lh
 ·unfold aa Tryz.f59
  try unfold az
  simp only[go_sem,Nat.reduceBEq,Nat.reduceLeDiff,Nat.reduceLT,decide_true,Nat.reduceAdd,Nat.reduceSub,Nat.reduceMul,Int.reduceLE,Int.reduceLT,Int.reduceToNat,Int.reduceNeg,reduceCtorEq]
  all_goals exact cl
@[go_sem] def gi (d:District)(c:List Claim)(k_0:Nat)(s_0:Unit):Unit⊕Unit:=(bif(decide (((az d c).getD k_0 (default:Order)).litres > 1073741824))then .inl ()else .inr ())
def dR (d:District)(c:List Claim):Int:=(bif((gx d c) !=0)then(gx d c)else(bif(decide ((IntKind.i64.wrap ((d.reaches.length:Int)*d.hours)) > 1024))then 2 else(match ap (gi d c) ((az d c).length) 0 ()with| .inl x_0_0=>270| .inr s_0=>0)))
def jo (d:District)(c:List Claim):Prop:=((l8 d c)∧(((gx d c) !=0)=false→(d.reaches.length≤a7→((decide ((IntKind.i64.wrap ((d.reaches.length:Int)*d.hours)) > 1024))=false→(eX d c)))))
@[go_sem] def oY:List SV→Option Con:=(pD .district fun d=>(pR .claim fun c=>(pE (.det (jo d c) (.v (.int .i64 (dR d c)))))))
theorem sn:FnOk Tryz.prog 39 oY:=by
 have hG:ConsOk Tryz.prog (mkG [(59,fun l=>jC (cn [.st .district,.sl .claim] l)),(72,fun l=>tH (cn [.st .district,.sl .claim] l))] []):=aC (cgc (lE.norm [.st .district,.sl .claim]) (cgc (zZ.norm [.st .district,.sl .claim]) cg0)) cg0
 refine aI [.o] mixed ax hG (fn:=Tryz.f39) (c:=aa Tryz.f39) (by kernel_rfl) (by kernel_rfl) (by kernel_rfl) (by kernel_rfl) (aN fun d=>(cj fun c=>(aB (fun hp=>?_))))
 dsimp only[aD]at hp
 unfold jo at hp
 refine⟨Nat.le_of_ble_eq_true rfl,(fun id st=>bif Nat.beq id 0 then some (LCR (ρ:=Unit) (σ:=Unit) 2 [] [0,1] (fun k_0 s_0=>⟨[(6,.os 1),(7,.v (.int .i64 (k_0:Int)))],[.dead,.row .order (az d c)]⟩) (gi d c) pT ((az d c).length) () (True) (fun _=>.ret) (fun x_0_0=>⟨[(4,.v (.int .i64 270))],[.dead,.dead]⟩) st)else none),?_,?_⟩
 ·unfold aa Tryz.f39
  simp only[ay,true_and,and_true]
  ·refine dL ((az d c).length≤a7) mixed ax hG (by kernel_rfl) (fun _=>rfl) ((az d c).length:Int) rfl g7 (fun hb0 k_0 s_0 hlt0 _ hw hc=>⟨L0,ak _,?_⟩) (fun hb0 s_0 hc=>?_) fun hb0 k_0 s_0=>?_
   ·exact vE
   ·exact vF
   ·simp only[go_sem,Nat.reduceBEq,Nat.reduceLeDiff,Nat.reduceLT,decide_true,Nat.reduceAdd,Nat.reduceSub,Nat.reduceMul,Int.reduceLE,Int.reduceLT,Int.reduceToNat,Int.reduceNeg,reduceCtorEq,hb0]
 ·unfold aa Tryz.f39
  try unfold dR
  simp only[go_sem,Nat.reduceBEq,Nat.reduceLeDiff,Nat.reduceLT,decide_true,Nat.reduceAdd,Nat.reduceSub,Nat.reduceMul,Int.reduceLE,Int.reduceLT,Int.reduceToNat,Int.reduceNeg,reduceCtorEq]
  all_goals exact cl
def bG (r:Reach)(wanted:Int):Int×Bool:=(bif(decide (wanted > 1073741824))then(0,false)else((if(d6 r wanted).1<r.siphon then r.siphon else(d6 r wanted).1),(d6 r wanted).2.1))
def kM (r:Reach)(wanted:Int):Prop:=((decide (wanted > 1073741824))=false→(kG r wanted))
@[go_sem] def so:List SV→Option Con:=(pD .reach fun r=>(pI fun wanted=>(pE (.det (kM r wanted) (.tup [.v (.int .i64 ((bG r wanted).1)),.v (.bool ((bG r wanted).2))])))))
theorem xN:FnOk Tryz.prog 106 so:=by
 have hG:ConsOk Tryz.prog (mkG [(137,ql)] []):=aC (cgc tC cg0) cg0
 refine aI [.o,.o] mixed ax hG (fn:=Tryz.f106) (c:=aa Tryz.f106) (by kernel_rfl) (by kernel_rfl) (by kernel_rfl) (by kernel_rfl) (aN fun r=>(b_ fun wanted=>(aB (fun hp=>?_))))
 dsimp only[aD]at hp
 unfold kM at hp
 refine⟨Nat.le_of_ble_eq_true rfl,L0,ak _,?_⟩
 ·unfold aa Tryz.f106
  try unfold bG
  simp only[go_sem,Nat.reduceBEq,Nat.reduceLeDiff,Nat.reduceLT,decide_true,Nat.reduceAdd,Nat.reduceSub,Nat.reduceMul,Int.reduceLE,Int.reduceLT,Int.reduceToNat,Int.reduceNeg,reduceCtorEq]
  all_goals exact cl
end Go.Sx
end
section
namespace Go.Sx
open Go.Proofs
theorem z6 {a b c:Int}(h1:a≤b)(h2:b≤c):aH [a,b,c]=true:=by
 have e:ap (bI [a,b,c]) 2 0 ()=.inr ():=er.2 fun j hj=>by
  rcases(by omega:j=0∨j=1)with rfl|rfl
  ·simp[bI,IntKind.wrap,IntKind.bits,IntKind.signed,Bool.cond_eq_ite];omega
  ·simp[bI,IntKind.wrap,IntKind.bits,IntKind.signed,Bool.cond_eq_ite];omega
 unfold aH
 simp only[List.length_cons,List.length_nil,Nat.zero_add,Nat.reduceAdd,Nat.reduceSub,e]
theorem z7 {a b c d:Int}(h1:a≤b)(h2:b≤c)(h3:c≤d):aH [a,b,c,d]=true:=by
 have e:ap (bI [a,b,c,d]) 3 0 ()=.inr ():=er.2 fun j hj=>by
  rcases(by omega:j=0∨j=1∨j=2)with rfl|rfl|rfl
  ·simp[bI,IntKind.wrap,IntKind.bits,IntKind.signed,Bool.cond_eq_ite];omega
  ·simp[bI,IntKind.wrap,IntKind.bits,IntKind.signed,Bool.cond_eq_ite];omega
  ·simp[bI,IntKind.wrap,IntKind.bits,IntKind.signed,Bool.cond_eq_ite];omega
 unfold aH
 simp only[List.length_cons,List.length_nil,Nat.zero_add,Nat.reduceAdd,Nat.reduceSub,e]
theorem EG (d:District):bt d=0↔(d.reaches.length≤64∧d.farms.length≤600∧d.crops.length≤32∧d.rights.length≤256∧d.duties.length≤256)∧(1≤d.hours∧d.hours≤4096)∧(0≤d.tank.start∧d.tank.start≤d.tank.cap∧d.tank.cap≤1099511627776)∧0<d.reaches.length∧
  (∀ k,k<d.reaches.length→cC d 191 k ()=.inr ())∧(∀ k,k<d.crops.length→da d 191 k ()=.inr ())∧(∀ k,k<d.farms.length→cD d 191 k ()=.inr ())∧(∀ k,k<d.rights.length→dx d 191 k ()=.inr ())∧(∀ k,k<d.duties.length→dy d 191 k ()=.inr ()):=by
 have hx:db d 191=true↔(1≤d.hours∧d.hours≤4096)∧(0≤d.tank.start∧d.tank.start≤d.tank.cap∧d.tank.cap≤1099511627776)∧0<d.reaches.length∧
  (∀ k,k<d.reaches.length→cC d 191 k ()=.inr ())∧(∀ k,k<d.crops.length→da d 191 k ()=.inr ())∧(∀ k,k<d.farms.length→cD d 191 k ()=.inr ())∧(∀ k,k<d.rights.length→dx d 191 k ()=.inr ())∧(∀ k,k<d.duties.length→dy d 191 k ()=.inr ()):=by
  unfold db
  simp only[fK]
  cases h3:(aH [1,d.hours,4096]&&aH [0,d.tank.start,d.tank.cap,1099511627776]&&decide ((d.reaches.length:Int) > 0))with
  |false=>
   simp only[cond_false,Bool.false_eq_true,false_iff]
   rintro⟨⟨a1,a2⟩,⟨a3,a4,a5⟩,a6,_⟩
   rw[z6 a1 a2,z7 a3 a4 a5,decide_eq_true (by omega:(d.reaches.length:Int) > 0)]at h3
   cases h3
  |true=>
   simp only[Bool.and_eq_true,decide_eq_true_eq]at h3
   have b1:=u9 h3.1.1
   have b2:=oK h3.1.2
   have b3:=h3.2
   simp only[cond_true]
   rw[←er,←er,←er,←er,←er]
   repeat' split
   all_goals (rename_i e;first|simp_all;done|skip)
   all_goals simp_all
   all_goals omega
 unfold bt
 simp only[fK]
 rw[←hx]
 cases h1:(((((decide ((d.reaches.length:Int)≤64))&&(decide ((d.farms.length:Int)≤600)))&&(decide ((d.crops.length:Int)≤32)))&&(decide ((d.rights.length:Int)≤256)))&&(decide ((d.duties.length:Int)≤256)))with
 |false=>
  simp only[cond_false]
  simp only[Bool.and_eq_false_iff,decide_eq_false_iff_not]at h1
  omega
 |true=>
  simp only[Bool.and_eq_true,decide_eq_true_eq]at h1
  cases db d 191 <;>simp <;>omega
theorem EH:∀ (f n d:Nat),1≤d→d≤f→1≤n→∀ x,(wh f n d).getLastD x=Nat.gcd n d
 |0,n,d,h1,h2,_,x=>by omega
 |f+1,n,d,h1,h2,h3,x=>by
  unfold wh
  have hm:max d 1=d:=by omega
  rw[if_neg (by omega),hm]
  by_cases h0:n % d=0
  ·rw[if_pos h0]
   have:d ∣ n:=Nat.dvd_of_mod_eq_zero h0
   rw[Nat.gcd_eq_right this]
   rfl
  ·rw[if_neg h0]
   have hlt:n % d<d:=Nat.mod_lt _ (by omega)
   have ih:=EH f d (n % d) (by omega) (by omega) (by omega) n
   have e:Nat.gcd n d=Nat.gcd d (n % d):=by rw[Nat.gcd_comm n d,Nat.gcd_rec d n,Nat.gcd_comm]
   rw[e,←ih,List.getLastD_cons]
theorem Lk {n d:Nat}(h:1≤d):Ir n d=Nat.gcd n d:=by
 unfold Ir
 rw[if_neg (by omega)]
 by_cases h0:n=0
 ·subst h0
  cases d with
  |zero=>omega
  |succ d=>simp[wh]
 ·exact EH d n d h (Nat.le_refl _) (by omega) d
theorem CO (b0:Int):∀ (n i:Nat) (a b:Int),0≤a→0≤b→b.toNat<n→ap (fo b0) n i (a,b)=.inl ((Nat.gcd a.toNat b.toNat:Nat):Int)
 |0,_,_,_,_,_,h=>by omega
 |n+1,i,a,b,ha,hb,h=>by
  simp only[ap,fo]
  by_cases h0:b > 0
  ·rw[decide_eq_true h0]
   simp only[cond_true]
   have e1:=Int.tmod_eq_emod_of_nonneg (b:=b) ha
   have e2:=Int.emod_nonneg a (by omega:b≠0)
   have e3:=Int.emod_lt_of_pos a h0
   rw[e1,CO b0 n (i+1) b (a % b) hb e2 (by omega)]
   have e4:(a % b).toNat=a.toNat % b.toNat:=by
    obtain⟨x,rfl⟩:=Int.eq_ofNat_of_zero_le ha
    obtain⟨y,rfl⟩:=Int.eq_ofNat_of_zero_le hb
    simp only[←Int.natCast_emod,Int.toNat_natCast]
   rw[e4,Nat.gcd_comm a.toNat b.toNat,Nat.gcd_rec b.toNat a.toNat,Nat.gcd_comm]
  ·rw[decide_eq_false h0]
   have:b=0:=by omega
   subst this
   simp only[cond_false,Int.toNat_zero,Nat.gcd_zero_right]
   rw[Int.toNat_of_nonneg ha]
theorem xg {a b:Int}(ha:0≤a)(hb:0≤b):jh a b=((Nat.gcd a.toNat b.toNat:Nat):Int):=by
 unfold jh
 rw[CO b _ 0 a b ha hb (by omega)]
theorem IJ {a b:Int}(ha:0≤a)(hb:0≤b):jw a b:=by
 refine⟨jt _ _ _ fun j s _ _ h=>?_,fun z h=>?_⟩
 ·simp only[decide_eq_true_eq]at h;omega
 ·rw[CO b _ 0 a b ha hb (by omega)]at h;cases h
theorem O4 {n:Int}(h0:0≤n)(h1:n<18446744073709551616):IntKind.u64.wrap n=n:=by
 simp only[IntKind.wrap,IntKind.bits,IntKind.signed];simp;omega
theorem AL {n:Int}(h0: -1073741824≤n)(h1:n≤1073741824):d9 n=(n.natAbs:Int):=by
 unfold d9
 by_cases h:n<0
 ·rw[decide_eq_true h]
  simp only[cond_true,IntKind.wrap,IntKind.bits,IntKind.signed]
  simp
  omega
 ·rw[decide_eq_false h]
  simp only[cond_false]
  rw[O4 (by omega) (by omega)];omega
theorem z8 {n:Int}(h0: -1073741824≤n)(h1:n≤1073741824):lp n=(n.natAbs:Int):=by
 unfold lp
 by_cases h:n<0
 ·rw[decide_eq_true h]
  simp only[cond_true]
  rw[bv (by omega) (by omega)];omega
 ·rw[decide_eq_false h]
  simp only[cond_false]
  omega
structure RatioOk (a:Ratio):Prop where
 d1:1≤a.d
 d:a.d≤1073741824
 n0: -1073741824≤a.n
 n:a.n≤1073741824
 gcd:Nat.gcd a.n.natAbs a.d.toNat=1
theorem pA (a:Ratio):aY a=0↔RatioOk a:=by
 unfold aY
 cases h:((((decide (a.d<1)) ||(decide (a.d > 1073741824))) ||(decide (a.n< (-1073741824)))) ||(decide (a.n > 1073741824)))with
 |true=>
  simp only[Bool.true_or,cond_true]
  simp only[Bool.or_eq_true,decide_eq_true_eq]at h
  refine⟨fun e=>(by cases e),fun r=>?_⟩
  have:=r.d1;have:=r.d;have:=r.n0;have:=r.n
  omega
 |false=>
  simp only[Bool.or_eq_false_iff,decide_eq_false_iff_not]at h
  rw[AL (by omega) (by omega),O4 (by omega) (by omega),Int.toNat_natCast,Lk (by omega)]
  simp only[Bool.false_or]
  by_cases hg:Nat.gcd a.n.natAbs a.d.toNat=1
  ·rw[hg]
   exact⟨fun _=>⟨by omega,by omega,by omega,by omega,hg⟩,fun _=>rfl⟩
  ·have:((Nat.gcd a.n.natAbs a.d.toNat:Nat):Int)≠1:=by omega
   rw[bne_iff_ne.2 this]
   exact⟨fun e=>(by cases e),fun r=>absurd r.gcd hg⟩
theorem pC (a:Ratio):eb a=true↔RatioOk a:=by
 unfold eb
 constructor
 ·intro h
  simp only[Bool.and_eq_true,decide_eq_true_eq,beq_iff_eq]at h
  obtain⟨⟨⟨⟨h1,h2⟩,h3⟩,h4⟩,h5⟩:=h
  rw[z8 (by omega) (by omega),xg (by omega) (by omega),Int.toNat_natCast]at h5
  exact⟨h1,h2,h3,h4,by omega⟩
 ·intro r
  have:=r.d1;have:=r.d;have:=r.n0;have:=r.n
  simp only[Bool.and_eq_true,decide_eq_true_eq,beq_iff_eq]
  rw[z8 (by omega) (by omega),xg (by omega) (by omega),Int.toNat_natCast,r.gcd]
  exact⟨⟨⟨⟨by omega,by omega⟩,by omega⟩,by omega⟩,rfl⟩
theorem Ll (a:Ratio):aY a=0∨aY a=120:=by
 unfold aY;rw[Bool.cond_eq_ite];split <;>simp
theorem EI (a:Ratio):aY a=fO a:=by
 unfold fO
 cases h:eb a with
 |true=>exact(pA a).2 ((pC a).1 h)
 |false=>
  have:aY a≠0:=fun e=>by
   have:=(pC a).2 ((pA a).1 e)
   rw[h]at this;cases this
  have:=Ll a
  simp only[Bool.not_false,cond_true]
  omega
theorem pF (a:Ratio):eb a=(aY a==0):=by
 cases h:eb a with
 |true=>rw[(pA a).2 ((pC a).1 h)];rfl
 |false=>
  have:aY a≠0:=fun e=>by
   have:=(pC a).2 ((pA a).1 e)
   rw[h]at this;cases this
  simp[this]
theorem Lm (a b:Ratio):eP a b=jZ a b:=by
 unfold eP jZ lr gE
 rw[pF,pF,fJ]
 generalize IntKind.i64.wrap (a.n*b.d)=x
 generalize IntKind.i64.wrap (b.n*a.d)=y
 cases h1:(aY a==0) <;>cases h2:(aY b==0) <;>simp[bne,h1,h2,Bool.cond_eq_ite]
 split
 ·rfl
 ·split <;>rfl
theorem sT (a:Ratio):fR a:=fun h=>by
 simp only[Bool.and_eq_true,decide_eq_true_eq]at h
 rw[z8 (by omega) (by omega)]
 exact IJ (by omega) (by omega)
theorem QY (a b:Ratio):nv a b:=⟨sT a,fun _=>sT b⟩
theorem nK (a b c:Int):aH [a,b,c]=(decide (a≤b)&&decide (b≤c)):=by
 cases h:aH [a,b,c]with
 |true=>have:=u9 h;simp[this.1,this.2]
 |false=>
  by_cases h1:a≤b
  ·by_cases h2:b≤c
   ·rw[z6 h1 h2]at h;cases h
   ·simp[h2]
  ·simp[h1]
theorem pG (a b c d:Int):aH [a,b,c,d]=(decide (a≤b)&&decide (b≤c)&&decide (c≤d)):=by
 cases h:aH [a,b,c,d]with
 |true=>have:=oK h;simp[this.1,this.2.1,this.2.2]
 |false=>
  by_cases h1:a≤b
  ·by_cases h2:b≤c
   ·by_cases h3:c≤d
    ·rw[z7 h1 h2 h3]at h;cases h
    ·simp[h3]
   ·simp[h2]
  ·simp[h1]
theorem Ln (x:Ratio×Ratio):eZ x=eA x:=by
 unfold eZ eA
 rw[Lm,←EI,←EI]
 unfold jZ lr
 rw[pF,pF]
 cases h1:(aY x.1==0) <;>cases h2:(aY x.2==0) <;>simp[bne,h1,h2,Bool.cond_eq_ite]
 repeat' split
 all_goals simp
theorem Gt (i:Int)(x:Reach):aU i x=true↔((i > 0∧0≤x.up∧x.up<i)∨(¬i > 0∧x.up= -1))∧(1≤x.delay∧x.delay≤16)∧(0≤x.siphon∧x.siphon≤x.cap∧x.cap≤1073741824)∧(x.siphon≤x.bank∧x.bank≤1099511627776)∧(0≤x.evap.lo∧x.evap.lo≤x.evap.hi∧x.evap.hi≤1073741824)∧eA x.seep=true:=by
 unfold aU bZ
 rw[Ln,nK,pG,pG,pG]
 generalize eA x.seep=q
 by_cases h:i > 0
 ·rw[decide_eq_true h]
  simp only[cond_true,Bool.and_eq_true,decide_eq_true_eq]
  cases q <;>simp only[Bool.false_eq_true,and_false,and_true] <;>omega
 ·rw[decide_eq_false h]
  simp only[cond_false,Bool.and_eq_true,decide_eq_true_eq,beq_iff_eq]
  cases q <;>simp only[Bool.false_eq_true,and_false,and_true] <;>omega
theorem QZ (x:Reach):mA x=true↔(1≤x.delay∧x.delay≤16)∧(0≤x.siphon∧x.siphon≤x.cap∧x.cap≤1073741824)∧(x.siphon≤x.bank∧x.bank≤1099511627776)∧(0≤x.evap.lo∧x.evap.lo≤x.evap.hi∧x.evap.hi≤1073741824)∧eA x.seep=true:=by
 unfold mA aM
 generalize eA x.seep=q
 have hb:∀ (A B:Bool) (q:Bool),(bif A then false else bif B then false else q)=true↔A=false∧B=false∧q=true:=fun A B q=>by cases A <;>cases B <;>simp
 rw[hb]
 simp only[Bool.or_eq_false_iff,Bool.not_eq_false',Bool.and_eq_true,decide_eq_true_eq,decide_eq_false_iff_not]
 by_cases h:x.bank<x.cap
 ·rw[if_pos h];cases q <;>simp only[Bool.false_eq_true,and_false,and_true] <;>omega
 ·rw[if_neg h];cases q <;>simp only[Bool.false_eq_true,and_false,and_true] <;>omega
theorem Aa (l:List Reach)(k:Nat)(hk:k<4096):fq l k ()=.inr ()↔aU (k:Int) (l.getD k default)=true:=by
 unfold fq aM
 rw[Gt]
 have hb:∀ A B:Bool,((bif A then Sum.inl ()else bif B then Sum.inl ()else Sum.inr ()):Unit⊕Unit)=.inr ()↔A=false∧B=false:=fun A B=>by cases A <;>cases B <;>simp
 rw[hb,Bool.not_eq_false',QZ]
 generalize l.getD k default=x
 generalize eA x.seep=q
 by_cases h:0<k
 ·rw[li (by omega) h]
  simp only[Bool.or_eq_false_iff,Bool.and_eq_false_iff,Bool.not_eq_false',Bool.and_eq_true,decide_eq_true_eq,decide_eq_false_iff_not,beq_eq_false_iff_ne,bne_eq_false_iff_eq]
  cases q <;>simp only[Bool.false_eq_true,and_false,and_true] <;>omega
 ·have:k=0:=by omega
  subst this
  simp only[Bool.or_eq_false_iff,Bool.and_eq_false_iff,Bool.not_eq_false',Bool.and_eq_true,decide_eq_true_eq,decide_eq_false_iff_not,beq_eq_false_iff_ne,bne_eq_false_iff_eq]
  cases q <;>simp only[Bool.false_eq_true,and_false,and_true] <;>omega
theorem IK {n:Nat}(h:n≤4096):IntKind.i64.wrap ((n:Int) - 1)=(n:Int) - 1:=bv (by omega) (by omega)
theorem NZ (x:ByteArray):(x==x)=true:=by
 cases x with
 |mk d=>
  show(d==d)=true
  simp
theorem Lo (d:District)(x:Right)(h1:d.farms.length≤600)(h2:d.reaches.length≤64)(h3:1≤d.hours)(h4:d.hours≤4096):kh d x=mC d x:=by
 unfold kh mC bZ aM
 rw[pG,nK,nK,pG,IK (by omega),IK (by omega),bv (by omega: -9223372036854775808≤d.hours - 1) (by omega)]
 rw[NZ]
 refine KS ?_
 have hb:∀ (A q:Bool),(bif A then false else q)=true↔A=false∧q=true:=fun A q=>by cases A <;>simp
 rw[hb,hb]
 have hc:∀ (k1 k2 k3 a b c:Bool),(bif k1 then a else bif k2 then b else bif k3 then c else false)=true↔(k1=true∧a=true)∨(k1=false∧k2=true∧b=true)∨(k1=false∧k2=false∧k3=true∧c=true):=fun k1 k2 k3 a b c=>by cases k1 <;>cases k2 <;>cases k3 <;>simp
 rw[hc,hc]
 simp only[Bool.or_eq_false_iff,Bool.and_eq_true,Bool.not_eq_false',decide_eq_true_eq,decide_eq_false_iff_not,beq_iff_eq,beq_eq_false_iff_ne,and_true,true_and]
 omega
theorem ux (A:Bool):((bif A then Sum.inr ()else Sum.inl ()):Unit⊕Unit)=.inr ()↔A=true:=by cases A <;>simp
theorem uy (A:Bool):((bif A then Sum.inl ()else Sum.inr ()):Unit⊕Unit)=.inr ()↔A=false:=by cases A <;>simp
theorem Bz (d:District)(k:Nat):im d k ()=.inr ()↔da d 191 k ()=.inr ():=by
 unfold im da aM
 rw[fK,uy,ux,nK]
 simp only[Bool.not_eq_false',Bool.and_eq_true,decide_eq_true_eq,ge_iff_le]
theorem BA (d:District)(k:Nat)(h1:d.reaches.length≤64)(h2:d.crops.length≤32):io d k ()=.inr ()↔cD d 191 k ()=.inr ():=by
 unfold io cD aM bZ
 simp only[fK]
 rw[nK,IK (by omega),IK (by omega)]
 generalize d.farms.getD k default=x
 have hb:∀ A B:Bool,((bif A then Sum.inl ()else bif B then Sum.inl ()else Sum.inr ()):Unit⊕Unit)=.inr ()↔A=false∧B=false:=fun A B=>by cases A <;>cases B <;>simp
 rw[hb]
 by_cases h:x.area > 0
 ·rw[decide_eq_true h]
  simp only[Bool.true_and,Bool.false_and,Bool.or_false,cond_true,ux,Bool.or_eq_false_iff,Bool.and_eq_false_iff,Bool.not_eq_false',Bool.and_eq_true,decide_eq_true_eq,decide_eq_false_iff_not,beq_eq_false_iff_ne,bne_eq_false_iff_eq]
  omega
 ·rw[decide_eq_false h]
  simp only[Bool.true_and,Bool.false_and,Bool.or_false,cond_false,ux,Bool.or_eq_false_iff,Bool.and_eq_false_iff,Bool.not_eq_false',Bool.and_eq_true,decide_eq_true_eq,decide_eq_false_iff_not,beq_eq_false_iff_ne,bne_eq_false_iff_eq,beq_iff_eq]
  omega
theorem BB (d:District)(k:Nat)(h1:d.reaches.length≤64)(h2:d.farms.length≤600):iq d k ()=.inr ()↔dy d 191 k ()=.inr ():=by
 unfold iq dy aM bZ
 simp only[fK]
 rw[nK,IK (by omega),IK (by omega),ux,uy]
 simp only[Bool.or_eq_false_iff,Bool.not_eq_false',Bool.and_eq_true,decide_eq_true_eq]
 omega
theorem xj (d:District)(k:Nat)(h1:d.farms.length≤600)(h2:d.reaches.length≤64)(h3:1≤d.hours)(h4:d.hours≤4096):ip d k ()=.inr ()↔dx d 191 k ()=.inr ():=by
 unfold ip dx
 rw[fK,Lo d _ h1 h2 h3 h4,ux,uy,Bool.not_eq_false']
theorem m1 {r:Unit⊕Unit}{a b:Bool}:(match r with| .inl _=>a| .inr _=>b)=true↔(r=.inr ()∧b=true)∨((∃ y,r=.inl y)∧a=true):=by
 cases r with
 |inl y=>simp
 |inr y=>simp
theorem EJ (d:District)(h1:d.reaches.length≤64)(h2:d.farms.length≤600)(h3:d.crops.length≤32):j3 d=true↔(1≤d.hours∧d.hours≤4096)∧(0≤d.tank.start∧d.tank.start≤d.tank.cap∧d.tank.cap≤1099511627776)∧0<d.reaches.length∧
  (∀ k,k<d.reaches.length→cC d 191 k ()=.inr ())∧(∀ k,k<d.crops.length→da d 191 k ()=.inr ())∧(∀ k,k<d.farms.length→cD d 191 k ()=.inr ())∧(∀ k,k<d.rights.length→dx d 191 k ()=.inr ())∧(∀ k,k<d.duties.length→dy d 191 k ()=.inr ()):=by
 have hR:ji d.reaches=true↔(∀ k,k<d.reaches.length→cC d 191 k ()=.inr ())∧0<d.reaches.length:=by
  unfold ji
  refine Iff.trans (m1 (r:=ap (fq d.reaches) d.reaches.length 0 ()) (a:=false) (b:=decide ((d.reaches.length:Int) > 0))) ?_
  simp only[Bool.false_eq_true,and_false,or_false,decide_eq_true_eq]
  rw[er]
  refine and_congr ⟨fun h k hk=>?_,fun h k hk=>?_⟩ (by omega)
  ·unfold cC
   rw[fK,ux]
   exact(Aa _ k (by omega)).1 (h k hk)
  ·have:=h k hk
   unfold cC at this
   rw[fK,ux]at this
   exact(Aa _ k (by omega)).2 this
 have hF:mB d=true↔(∀ k,k<d.crops.length→da d 191 k ()=.inr ())∧(∀ k,k<d.farms.length→cD d 191 k ()=.inr ()):=by
  unfold mB
  refine Iff.trans (m1 (r:=ap (im d) d.crops.length 0 ()) (a:=false) (b:=match ap (io d) d.farms.length 0 ()with| .inl _=>false| .inr _=>true)) ?_
  simp only[Bool.false_eq_true,and_false,or_false]
  rw[er]
  refine Iff.trans (and_congr_right fun _=>m1) ?_
  simp only[Bool.false_eq_true,and_false,or_false,and_true]
  rw[er]
  exact and_congr ⟨fun h k hk=>(Bz d k).1 (h k hk),fun h k hk=>(Bz d k).2 (h k hk)⟩ ⟨fun h k hk=>(BA d k h1 h3).1 (h k hk),fun h k hk=>(BA d k h1 h3).2 (h k hk)⟩
 unfold j3
 have hb:∀ A B q:Bool,(bif A then false else bif B then false else q)=true↔A=false∧B=false∧q=true:=fun A B q=>by cases A <;>cases B <;>simp
 rw[hb]
 refine Iff.trans (and_congr_right fun _=>and_congr_right fun _=>Iff.trans (m1 (r:=ap (ip d) d.rights.length 0 ()) (a:=false) (b:=match ap (iq d) d.duties.length 0 ()with| .inl _=>false| .inr _=>true)) (or_congr_left (and_congr_right fun _=>m1))) ?_
 simp only[Bool.false_eq_true,and_false,or_false,and_true]
 rw[er,er]
 simp only[Bool.or_eq_false_iff,Bool.not_eq_false',hR,hF,aM,Bool.and_eq_true,decide_eq_true_eq,decide_eq_false_iff_not]
 constructor
 ·rintro⟨⟨⟨a1,a2⟩,a3⟩,⟨⟨b1,b2⟩,b3,b4⟩,b5,b6⟩
  refine⟨by omega,by omega,b2,b1,b3,b4,fun k hk=>(xj d k h2 h1 (by omega) (by omega)).1 (b5 k hk),fun k hk=>(BB d k h1 h2).1 (b6 k hk)⟩
 ·rintro⟨a1,a2,a3,b1,b2,b3,b4,b5⟩
  refine⟨⟨⟨by omega,by omega⟩,by omega⟩,⟨⟨b1,a3⟩,b2,b3⟩,fun k hk=>(xj d k h2 h1 (by omega) (by omega)).2 (b4 k hk),fun k hk=>(BB d k h1 h2).2 (b5 k hk)⟩
theorem Ab (d:District):bt d=dQ d:=by
 have hs:=EG d
 unfold dQ
 by_cases hl:d.reaches.length≤64∧d.farms.length≤600∧d.crops.length≤32∧d.rights.length≤256∧d.duties.length≤256
 ·have e1:(((((decide ((d.reaches.length:Int) > 64)) ||(decide ((d.farms.length:Int) > 600))) ||(decide ((d.crops.length:Int) > 32))) ||(decide ((d.rights.length:Int) > 256))) ||(decide ((d.duties.length:Int) > 256)))=false:=by
   simp only[Bool.or_eq_false_iff,decide_eq_false_iff_not];omega
  rw[e1]
  simp only[cond_false]
  have hv:=EJ d hl.1 hl.2.1 hl.2.2.1
  cases h:j3 d with
  |true=>exact hs.2 ⟨hl,hv.1 h⟩
  |false=>
   have h0:bt d≠0:=fun e=>by
    have:=hv.2 (hs.1 e).2
    rw[h]at this;cases this
   unfold bt at h0 ⊢
   simp only[fK]at h0 ⊢
   have e2:(((((decide ((d.reaches.length:Int)≤64))&&(decide ((d.farms.length:Int)≤600)))&&(decide ((d.crops.length:Int)≤32)))&&(decide ((d.rights.length:Int)≤256)))&&(decide ((d.duties.length:Int)≤256)))=true:=by
    simp only[Bool.and_eq_true,decide_eq_true_eq];omega
   rw[e2]at h0 ⊢
   simp only[cond_true]at h0 ⊢
   cases hx:db d 191 with
   |true=>rw[hx]at h0;simp at h0
   |false=>rfl
 ·have e1:(((((decide ((d.reaches.length:Int) > 64)) ||(decide ((d.farms.length:Int) > 600))) ||(decide ((d.crops.length:Int) > 32))) ||(decide ((d.rights.length:Int) > 256))) ||(decide ((d.duties.length:Int) > 256)))=true:=by
   simp only[Bool.or_eq_true,decide_eq_true_eq];omega
  rw[e1]
  unfold bt
  simp only[fK]
  have e2:(((((decide ((d.reaches.length:Int)≤64))&&(decide ((d.farms.length:Int)≤600)))&&(decide ((d.crops.length:Int)≤32)))&&(decide ((d.rights.length:Int)≤256)))&&(decide ((d.duties.length:Int)≤256)))=false:=by
   simp only[Bool.and_eq_false_iff,decide_eq_false_iff_not];omega
  rw[e2]
  rfl
theorem Lp (x:Ratio×Ratio):kE x:=⟨sT _,fun _=>sT _,fun _=>QY _ _⟩
theorem N0 (x:Reach):lU x:=fun _ _=>Lp _
theorem IL (d:District):lV d:=fun _=>jt _ _ _ fun _ _ _ _ _ _=>N0 _
theorem BC (d:District):jk d:=fun _ _=>IL d
theorem ug (a b:Order):cN a b=true↔olt a b:=by
 unfold cN olt oy
 have hb:∀ (A B x y z:Bool),(bif A then x else bif B then y else z)=true↔(A=true∧x=true)∨(A=false∧B=true∧y=true)∨(A=false∧B=false∧z=true):=fun A B x y z=>by cases A <;>cases B <;>simp
 rw[hb]
 cases a.outlet <;>cases b.outlet <;>simp only[bne_iff_ne,bne_eq_false_iff_eq,decide_eq_true_eq,cond_true,cond_false,ne_eq,bne_self_eq_false,Bool.false_eq_true,Bool.true_eq_false,and_false,false_and,or_false,false_or,and_true,true_and,Bool.bne_true,Bool.bne_false,Bool.not_true,Bool.not_false] <;>omega
theorem Ac (d:District)(l:List Order)(k:Nat)(hk:k<4096):cr d l k ()=.inr ()↔eI d l k ()=.inr ():=by
 unfold cr eI mD
 rw[uy]
 have hb:∀ c A B:Bool,((bif c then(bif A then Sum.inl ()else Sum.inr ())else(bif B then Sum.inl ()else Sum.inr ())):Unit⊕Unit)=.inr ()↔(c=true∧A=false)∨(c=false∧B=false):=fun c A B=>by cases c <;>cases A <;>cases B <;>simp
 have hc:∀ A q Z:Bool,((!(bif A then false else q)) ||Z)=false↔A=false∧q=true∧Z=false:=fun A q Z=>by cases A <;>cases q <;>simp
 have hd:∀ c x y:Bool,(bif c then x else y)=true↔(c=true∧x=true)∨(c=false∧y=true):=fun c x y=>by cases c <;>simp
 rw[hb,hc,hd]
 have hw:(decide ((k:Int) > 0)&&decide (aG (l.getD (IntKind.i64.wrap ((k:Int) - 1)).toNat default) (l.getD k default)≥0))=false↔(decide ((k:Int) > 0)&& !cN (l.getD (IntKind.i64.wrap ((k:Int) - 1)).toNat default) (l.getD k default))=false:=by
  have h1:=Bk (l.getD (IntKind.i64.wrap ((k:Int) - 1)).toNat default) (l.getD k default)
  have h2:=ug (l.getD (IntKind.i64.wrap ((k:Int) - 1)).toNat default) (l.getD k default)
  rw[Bool.and_eq_false_iff,Bool.and_eq_false_iff,Bool.not_eq_false',h2,←h1,decide_eq_false_iff_not,decide_eq_false_iff_not]
  omega
 simp only[Bool.or_eq_false_iff (y:=(decide ((k:Int) > 0)&&_)),hw]
 generalize (decide ((k:Int) > 0)&& !cN (l.getD (IntKind.i64.wrap ((k:Int) - 1)).toNat default) (l.getD k default))=q
 generalize l.getD k default=x
 simp only[Bool.or_eq_false_iff,decide_eq_false_iff_not,decide_eq_true_eq]
 cases q <;>cases x.outlet <;>simp only[Bool.false_eq_true,Bool.true_eq_false,and_false,false_and,or_false,false_or,and_true,true_and] <;>omega
theorem Lq (d:District)(l:List Order):bA d l=0↔ff d l=0:=by
 rw[oT,Ab]
 unfold ff
 cases h1:(dQ d !=0)with
 |true=>simp at h1;simp[h1]
 |false=>
  simp at h1
  simp only[cond_false,h1,true_and]
  cases h2:decide ((l.length:Int) > 4096)with
  |true=>simp at h2;simp;omega
  |false=>
   simp at h2
   have e:(∀ k,k<l.length→cr d l k ()=.inr ())↔∀ k,k<l.length→eI d l k ()=.inr ():=
    ⟨fun h k hk=>(Ac d l k (by omega)).1 (h k hk),fun h k hk=>(Ac d l k (by omega)).2 (h k hk)⟩
   rw[e,←er]
   cases h3:ap (eI d l) l.length 0 ()with
   |inl y=>simp
   |inr y=>simp;omega
theorem pH (d:District)(l:List Order):lZ d l:=⟨BC d,fun _ _ h2=>jt _ _ _ fun j s h3 h4=>fun _ _ h5=>by
 simp only[decide_eq_true_eq,decide_eq_false_iff_not]at h2 h5
 rw[bv (by omega) (by omega)];omega⟩
theorem IM {a d p:Int}(hd:0<d)(h1:d*p≤a)(h2:a<d*p+d):a / d=p:=by
 have h3:=Int.mul_ediv_add_emod a d
 have h4:=Int.emod_nonneg a (by omega:d≠0)
 have h5:=Int.emod_lt_of_pos a hd
 rcases Int.lt_trichotomy (a / d) p with h|h|h
 ·have:=Int.mul_le_mul_of_nonneg_left (by omega:a / d+1≤p) (by omega:0≤d)
  rw[Int.mul_add,Int.mul_one]at this
  omega
 ·exact h
 ·have:=Int.mul_le_mul_of_nonneg_left (by omega:p+1≤a / d) (by omega:0≤d)
  rw[Int.mul_add,Int.mul_one]at this
  omega
theorem U9 {a b:Int}(hb:1≤b)(hb2:b≤1073741824)(h1:0≤a)(h2:a≤1152921504606846976):oq a b= -((-a) / b):=by
 unfold oq
 rw[bv (by omega: -9223372036854775808≤a+b) (by omega),bv (by omega: -9223372036854775808≤a+b - 1) (by omega),Int.tdiv_eq_ediv_of_nonneg (by omega)]
 have h3:=Int.mul_ediv_add_emod (-a) b
 have h4:=Int.emod_nonneg (-a) (by omega:b≠0)
 have h5:=Int.emod_lt_of_pos (-a) (by omega:0<b)
 have e:(a+b - 1) / b= -((-a) / b):=IM (by omega) (by rw[Int.mul_neg];omega) (by rw[Int.mul_neg];omega)
 rw[e]
 have c1: -((-a) / b)≤1152921504606846976:=by
  have: -1152921504606846976≤(-a) / b:=by
   rw[Int.le_ediv_iff_mul_le (by omega)]
   have:=Int.mul_le_mul_of_nonneg_left (by omega:1≤b) (by omega:(0:Int)≤1152921504606846976)
   omega
  omega
 have c2:(-a) / b≤0:=by
  have:=Int.ediv_le_ediv (by omega:0<b) (by omega: -a≤0)
  simpa using this
 exact bv (by omega) (by omega)
theorem Gu (x:Ratio×Ratio):fQ x=gG x:=by
 unfold fQ gG gq iE lg
 rw[Lm]
 unfold jZ lr
 rw[pF,pF]
 cases h1:(aY x.1==0) <;>cases h2:(aY x.2==0) <;>simp[h1,h2]
 cases h3:gE x.1 x.2 <;>cases h4:gE x.2 x.1 <;>simp
 all_goals (try (by_cases q1:0≤x.1.n <;>by_cases q2:x.1.n≤x.1.d <;>by_cases q3:0≤x.2.n <;>by_cases q4:x.2.n≤x.2.d <;>simp[q1,q2,q3,q4]))
 all_goals (unfold gE at h3 h4;simp only[decide_eq_true_eq]at h3 h4;omega)
structure Share (a:Ratio):Prop where
 ok:RatioOk a
 n0:0≤a.n
 nd:a.n≤a.d
theorem wL (a:Ratio):gq a=true↔Share a:=by
 unfold gq
 simp only[Bool.and_eq_true,decide_eq_true_eq,pC]
 exact⟨fun h=>⟨h.1.1,h.1.2,h.2⟩,fun h=>⟨⟨h.ok,h.n0⟩,h.nd⟩⟩
theorem IN {a b:Int}(h0:0≤a)(h1:a≤1073741824)(h2:0≤b)(h3:b≤1073741824):0≤a*b∧a*b≤1152921504606846976:=by
 refine⟨Int.mul_nonneg h0 h2,?_⟩
 have:=Int.mul_le_mul h1 h3 h2 (by omega:(0:Int)≤1073741824)
 omega
theorem Lr {a:Ratio}(h:Share a){v:Int}(h0:0≤v)(h1:v≤1073741824):(dM a v).2.1=oq (IntKind.i64.wrap (v*a.n)) a.d:=by
 have r:=h.ok
 have hr:=(pA a).2 r
 have:=r.d1;have:=r.d;have:=r.n;have:=h.n0;have:=h.nd
 have hm:=IN h.n0 r.n h0 h1
 unfold dM
 have e1:(decide (v< (-1073741824)) ||decide (v > 1073741824))=false:=by simp only[Bool.or_eq_false_iff,decide_eq_false_iff_not];omega
 rw[hr,e1]
 simp only[bne_self_eq_false,cond_false]
 rw[bv (by omega: -9223372036854775808≤0 - a.n) (by omega)]
 have e2:(0 - a.n)*v= -(a.n*v):=by rw[Int.sub_mul];omega
 rw[e2,bv (by omega: -9223372036854775808≤ -(a.n*v)) (by omega),Int.mul_comm v a.n,bv (by omega: -9223372036854775808≤a.n*v) (by omega)]
 rw[Cr r.d1 r.d (by omega) (by omega),U9 r.d1 r.d hm.1 hm.2]
 have c1: -1152921504606846976≤ -(a.n*v) / a.d:=by
  rw[Int.le_ediv_iff_mul_le (by omega)]
  have:=Int.mul_le_mul_of_nonneg_left (by omega:1≤a.d) (by omega:(0:Int)≤1152921504606846976)
  omega
 have c2: -(a.n*v) / a.d≤0:=by
  have:=Int.ediv_le_ediv (by omega:0<a.d) (by omega: -(a.n*v)≤0)
  simpa using this
 rw[bv (by omega) (by omega)];omega
theorem Gv (d:District)(l:List Order):bA d l=ff d l:=by
 have h:=Lq d l
 by_cases h0:bA d l=0
 ·rw[h0,h.1 h0]
 ·have h1:ff d l≠0:=fun e=>h0 (h.2 e)
  unfold bA at h0 ⊢
  unfold ff at h1 ⊢
  rw[Ab]at h0 ⊢
  cases q1:(dQ d !=0)with
  |true=>rfl
  |false=>
   rw[q1]at h0 h1
   simp only[cond_false]at h0 h1 ⊢
   cases q2:decide ((l.length:Int) > 4096)with
   |true=>rfl
   |false=>
    rw[q2]at h0 h1
    simp only[cond_false]at h0 h1 ⊢
    cases q3:ap (cr d l) l.length 0 ()with
    |inr y=>rw[q3]at h0;exact absurd rfl h0
    |inl y=>
     cases q4:ap (eI d l) l.length 0 ()with
     |inr z=>rw[q4]at h1;exact absurd rfl h1
     |inl z=>rfl
variable {i:Int}{x:Reach}in
theorem CP (h:aU i x=true):gu x=true:=by
 obtain⟨h1,h2,h3,h4⟩:=qa h
 unfold gu kF
 rw[←Gu,Bn (xZ h1),Bool.and_true]
 simp only[Bool.and_eq_true,decide_eq_true_eq]
 omega
theorem IP (r:Reach):lX r:=fun _=>⟨sT _,fun _=>sT _⟩
variable {i:Int}{x:Reach}in
theorem EK (h:aU i x=true)(u:Int):ny x u:=fun _=>by
 have h1:=CP h
 unfold gu gG at h1
 simp only[Bool.and_eq_true]at h1
 have a:=((wL _).1 h1.2.1.1).ok.d1
 have b:=((wL _).1 h1.2.1.2).ok.d1
 exact⟨by omega,by unfold qj;omega⟩
variable {i:Int}{x:Reach}in
theorem nL (h:aU i x=true){u:Int}(u0:0≤u)(u1:u≤1073741824):cU x u false=wst x u:=by
 have h1:=CP h
 unfold gu gG at h1
 simp only[Bool.and_eq_true]at h1
 obtain⟨_,q0,q1,q2⟩:=va h u0 u1
 have e:(lu x u).hi=(dN x u).hi:=by
  unfold dN lu
  cases h4:(u==0)with
  |true=>rfl
  |false=>
   simp only[cond_false]
   rw[Lr ((wL _).1 h1.2.1.2) u0 u1]
 unfold cU wst
 rw[cond_false,e,bv (by omega) (by omega)]
variable {i:Int}{x:Reach}in
def swp:Int⊕(Int×Int)→Int⊕(Int×Int)
 | .inl y=>.inl y
 | .inr s=>.inr (s.2,s.1)
variable {i:Int}{x:Reach}in
theorem BD {ρ σ τ:Type}{f:Nat→σ→ρ⊕σ}{g:Nat→τ→ρ⊕τ}(c:σ→τ)(h:∀ k s,g k (c s)=match f k s with| .inl y=>.inl y| .inr s'=>.inr (c s')):∀ (n i:Nat) (s:σ),ap g n i (c s)=match ap f n i s with| .inl y=>.inl y| .inr s'=>.inr (c s')
 |0,_,_=>rfl
 |n+1,i,s=>by
  simp only[ap,h]
  cases f i s with
  |inl y=>rfl
  |inr s'=>exact BD c h n (i+1) s'
variable {i:Int}{x:Reach}in
theorem mid {i j:Int}(h0:0≤i)(h1:i≤j)(h2:j≤1073741824):IntKind.i64.wrap (Int.tdiv (IntKind.i64.wrap (i+j)) 2)=(i+j) / 2:=by
 have e0:IntKind.i64.wrap (i+j)=i+j:=bv (by omega) (by omega)
 rw[e0,Int.tdiv_eq_ediv_of_nonneg (by omega),bv (by omega) (by omega)]
variable {i:Int}{x:Reach}in
theorem xk (w:Int):∃ v,ap (ct x w false) 64 0 (1073741824,0)=.inl v∧0≤v∧v≤1073741824∧
  ((∀ a b,0≤a→a≤b→b<1073741824→decide (cU x a false≥w)=true→decide (cU x b false≥w)=true)→(∀ u,0≤u→u<v→decide (cU x u false≥w)=false)∧(v<1073741824→decide (cU x v false≥w)=true)):=by
 let st:Nat→Int×Int→Int⊕(Int×Int):=fun k s=>swp (ct x w false k (s.2,s.1))
 obtain⟨v,e1,e2,e3,e4⟩:=zo (f:=fun u=>decide (cU x u false≥w)) (N:=1073741824) (step:=st) (by omega) (fun k i j h0 h1 h2=>by
  show swp (ct x w false k (j,i))=_
  unfold ct
  simp only
  rw[decide_eq_true h1,mid h0 (by omega) (by omega)]
  have hm:IntKind.i64.wrap ((i+j) / 2+1)=(i+j) / 2+1:=bv (by omega) (by omega)
  rw[hm]
  cases decide (cU x ((i+j) / 2) false≥w) <;>rfl) (fun k i j h=>by
  show swp (ct x w false k (j,i))=_
  unfold ct
  simp only
  rw[decide_eq_false h];rfl) 63 0 0 1073741824 (by omega) (by omega) (by omega) (by decide)
 refine⟨v,?_,e2,e3,e4⟩
 have:=BD (f:=st) (g:=ct x w false) (fun s=>(s.2,s.1)) (fun k s=>by
  have hh:st k s=swp (ct x w false k (s.2,s.1)):=rfl
  rw[hh]
  cases ct x w false k (s.2,s.1) <;>rfl) 64 0 (0,1073741824)
 rw[e1]at this
 exact this
variable {i:Int}{x:Reach}in
theorem IQ (h:aU i x=true)(w:Int):lY x w false:=⟨EK h _,fun _=>⟨jt _ _ _ fun _ _ _ _ _=>EK h _,fun z hz=>by
 obtain⟨v,e,_⟩:=xk (x:=x) w
 rw[e]at hz;cases hz⟩⟩
variable {i:Int}{x:Reach}in
theorem EL (h:aU i x=true)(w:Int):kG x w:=⟨IP _,fun _ _=>IQ h w⟩
variable {i:Int}{x:Reach}in
theorem BE (h:aU i x=true){w:Int}(hw:1≤w)(hw2:w≤1073741824):(∃ v,d6 x w=(v,true,0)∧bw x w=(v,true,0))∨(d6 x w=(0,false,0)∧bw x w=(0,false,0)):=by
 obtain⟨l1,l2,l3,l4⟩:=DZ h hw hw2
 have hval:dX x w=0:=(va h (v:=w) (by omega) hw2).1
 have hfind:d6 x w=bif decide (fe x w false<0)then(0,false,0)else(fe x w false,true,0):=by
  unfold d6 ir
  have e:(decide (w<0) ||decide (w > 1073741824))=false:=by rw[Bool.or_eq_false_iff,decide_eq_false_iff_not,decide_eq_false_iff_not];omega
  rw[CP h,e]
  simp only[Bool.not_true,cond_false]
 have hneed:bw x w=bif decide (bP (w - 1) x > 1073741824)then(0,false,0)else(bP (w - 1) x,true,0):=by
  unfold bw
  rw[hval,bv (by omega) (by omega)]
  rfl
 by_cases hm:wst x 1073741824<w
 ·right
  have hL:fe x w false= -1:=by
   unfold fe
   rw[nL h (by omega) (Int.le_refl _),decide_eq_true hm];rfl
  have hl:bP (w - 1) x > 1073741824:=by
   by_cases q:bP (w - 1) x≤1073741824
   ·have h1:=l4 q
    have h2:=vb h l1 q (Int.le_refl _)
    omega
   ·omega
  rw[hfind,hL,hneed,decide_eq_true hl]
  exact⟨rfl,rfl⟩
 ·left
  obtain⟨v,e1,e2,e3,e4⟩:=xk (x:=x) w
  have hL:fe x w false=v:=by
   unfold fe
   rw[nL h (by omega) (Int.le_refl _),decide_eq_false hm,e1];rfl
  obtain⟨f1,f2⟩:=e4 fun a b a0 hab hb ha=>by
   rw[decide_eq_true_eq]at ha ⊢
   rw[nL h a0 (by omega)]at ha
   rw[nL h (by omega) (by omega)]
   have:=vb h a0 hab (by omega)
   omega
  have g1:w≤wst x v:=by
   by_cases q:v<1073741824
   ·have:=f2 q
    rw[decide_eq_true_eq,nL h e2 (by omega)]at this
    exact this
   ·have:v=1073741824:=by omega
    rw[this];omega
  have g2:∀ u,0≤u→u<v→wst x u<w:=fun u u0 u1=>by
   have:=f1 u u0 u1
   rw[decide_eq_false_iff_not,nL h u0 (by omega)]at this
   omega
  have hle:bP (w - 1) x=v:=by
   rcases Int.lt_trichotomy (bP (w - 1) x) v with q|q|q
   ·have:=g2 _ l1 q
    have:=l4 (by omega)
    omega
   ·exact q
   ·have:=l3 v e2 q
    omega
  refine⟨v,?_,?_⟩
  ·rw[hfind,hL,decide_eq_false (by omega)];rfl
  ·rw[hneed,hle,decide_eq_false (by omega)];rfl
variable {i:Int}{x:Reach}in
theorem EM (h:aU i x=true){w:Int}(hw:0≤w):b7 x w=am x w:=by
 unfold b7 am
 by_cases h0:w=0
 ·subst h0;rfl
 ·have e0:(w==0)=false:=by rw[beq_eq_false_iff_ne];exact h0
  rw[e0]
  simp only[cond_false,Bool.false_or]
  by_cases h1:w > 1073741824
  ·rw[decide_eq_true h1];rfl
  ·rw[decide_eq_false h1]
   simp only[cond_false]
   rcases BE h (w:=w) (by omega) (by omega)with⟨v,e1,e2⟩ | ⟨e1,e2⟩
   ·rw[e1,e2]
   ·rw[e1,e2]
theorem N1 (d:District)(a:Claim):j4 d a=okC d a:=by
 unfold j4 okC
 generalize d.rights.getD a.right.toNat default=r
 refine KS ?_
 have hb:∀ (A q:Bool),(bif A then false else q)=true↔A=false∧q=true:=fun A q=>by cases A <;>simp
 rw[hb]
 simp only[Bool.or_eq_false_iff,Bool.and_eq_true,decide_eq_true_eq,decide_eq_false_iff_not,beq_iff_eq]
 omega
theorem Ls (a b:Claim):kL a b=true↔fY a b:=by
 unfold kL fY
 have hb:∀ (A B C x y z u:Bool),(bif A then x else bif B then y else bif C then z else u)=true↔(A=true∧x=true)∨(A=false∧B=true∧y=true)∨(A=false∧B=false∧C=true∧z=true)∨(A=false∧B=false∧C=false∧u=true):=fun A B C x y z u=>by cases A <;>cases B <;>cases C <;>simp
 rw[hb]
 simp only[bne_iff_ne,bne_eq_false_iff_eq,decide_eq_true_eq,ne_eq]
 omega
theorem wM (d:District)(c:List Claim):bu d c=gx d c:=by
 unfold bu gx
 rw[Ab]
 cases h1:(dQ d !=0)with
 |true=>rfl
 |false=>
  simp only[cond_false]
  cases h2:decide ((c.length:Int) > 4096)with
  |true=>rfl
  |false=>
   simp only[cond_false]
   simp only[decide_eq_false_iff_not]at h2
   have hs:∀ k,k<c.length→(dn d c k ()=.inr ()↔eL d c k ()=.inr ()):=fun k hk=>by
    rw[rU (by omega)]
    unfold eL
    rw[uy,N1,Bool.or_eq_false_iff,Bool.not_eq_false']
    refine and_congr_right fun _=>?_
    by_cases h0:0<k
    ·rw[li (by omega) h0,Int.toNat_natCast,decide_eq_true (by omega:(k:Int) > 0),Bool.true_and,Bool.not_eq_false',Ls]
     exact⟨fun h=>h h0,fun h _=>h⟩
    ·rw[decide_eq_false (by omega)]
     simp[h0]
   have e:ap (dn d c) c.length 0 ()=.inr ()↔ap (eL d c) c.length 0 ()=.inr ():=by
    rw[er,er]
    exact⟨fun h k hk=>(hs k hk).1 (h k hk),fun h k hk=>(hs k hk).2 (h k hk)⟩
   cases q1:ap (dn d c) c.length 0 ()with
   |inl y=>
    cases q2:ap (eL d c) c.length 0 ()with
    |inl z=>rfl
    |inr z=>have:=e.2 q2;rw[q1]at this;cases this
   |inr y=>
    cases q2:ap (eL d c) c.length 0 ()with
    |inl z=>have:=e.1 q1;rw[q2]at this;cases this
    |inr z=>rfl
theorem BF (d:District)(c:List Claim):l8 d c:=⟨BC d,fun _ _ h2=>jt _ _ _ fun j s h3 h4 _=>by
 simp only[decide_eq_false_iff_not]at h2
 refine⟨fun h5=>?_,fun _ h5=>?_⟩
 ·simp only[Bool.or_eq_false_iff,decide_eq_false_iff_not]at h5
  exact⟨by omega,fun _=>by omega⟩
 ·simp only[decide_eq_true_eq]at h5
  rw[bv (by omega) (by omega)];omega⟩
end Go.Sx
end
section
namespace Go.Sx
open Go.Proofs Go.Shelf Go.Sort Go.Lib
set_option maxRecDepth 100000
section
variable {α:Type}
def ins (q:α→Bool)(x:α):List α→List α
 | [] =>[x]
 |a::l=>bif q a then a::ins q x l else x::a::l
theorem pJ (q:α→Bool)(x:α):∀ l,(ins q x l).Perm (x::l)
 | [] =>.refl _
 |a::l=>by
  unfold ins
  cases q a with
  |true=>exact((pJ q x l).cons a).trans (.swap x a l)
  |false=>exact .refl _
theorem HI (q:α→Bool)(x:α)(l:List α):(ins q x l).length=l.length+1:=(pJ q x l).length_eq
theorem x9 (q:α→Bool)(x:α):∀ l,ins q x l=l.take (l.takeWhile q).length++x::l.drop (l.takeWhile q).length
 | [] =>rfl
 |a::l=>by
  unfold ins
  cases h:q a with
  |true=>simp only[cond_true,List.takeWhile_cons,h,if_true,List.length_cons,List.take_succ_cons,List.drop_succ_cons,List.cons_append];rw[x9 q x l]
  |false=>simp[List.takeWhile_cons,h]
theorem vM {R:α→α→Prop}(tr:∀ a b c,R a b→R b c→R a c){q:α→Bool}{x:α}:∀ {l:List α},(∀ y∈l,(q y=true→R y x)∧(q y=false→R x y))→l.Pairwise R→(ins q x l).Pairwise R
 | [],_,_=>List.pairwise_singleton _ _
 |a::l,h,hp=>by
  unfold ins
  obtain⟨h1,h2⟩:=List.pairwise_cons.1 hp
  cases hq:q a with
  |true=>
   refine List.pairwise_cons.2 ⟨fun b hb=>?_,vM tr (fun y hy=>h y (List.mem_cons_of_mem _ hy)) h2⟩
   rcases List.mem_cons.1 ((pJ q x l).mem_iff.1 hb)with rfl|hb
   ·exact(h a List.mem_cons_self).1 hq
   ·exact h1 b hb
  |false=>
   have hx:=(h a List.mem_cons_self).2 hq
   refine List.pairwise_cons.2 ⟨fun b hb=>?_,hp⟩
   rcases List.mem_cons.1 hb with rfl|hb
   ·exact hx
   ·exact tr _ _ _ hx (h1 b hb)
variable [Inhabited α]
theorem sU {step:Nat→Int→Int⊕Int}{l:List α}{q:α→Bool}(hs:∀ j s,step j s=bif((decide (s< (l.length:Int)))&&q (l.getD (Int.toNat s) (default:α)))then .inr (IntKind.i64.wrap (s+1))else .inl s)(hl:l.length≤100000):
  ∀ (n i k:Nat),k≤l.length→l.length - k<n→ap step n i (k:Int)=.inl ((k+((l.drop k).takeWhile q).length:Nat):Int)
 |0,_,_,_,h=>absurd h (Nat.not_lt_zero _)
 |n+1,i,k,hk,hn=>by
  rcases Nat.lt_or_eq_of_le hk with hk'|rfl
  ·have e:l.drop k=l[k]::l.drop (k+1):=List.drop_eq_getElem_cons hk'
   have e2:l.getD k (default:α)=l[k]:=cm l default hk'
   unfold ap
   rw[hs,Int.toNat_natCast,e2,decide_eq_true (p:=(k:Int) < (l.length:Int)) (by omega),Bool.true_and]
   cases h:q l[k]with
   |true=>
    rw[cond_true]
    rw[bv (by omega) (by omega),show(k:Int)+1=((k+1:Nat):Int) by omega]
    show ap step n (i+1) ((k+1:Nat):Int)=_
    rw[sU hs hl n (i+1) (k+1) hk' (by omega),e,List.takeWhile_cons,h,if_pos rfl,List.length_cons]
    congr 2;omega
   |false=>
    rw[cond_false,e,List.takeWhile_cons,h];simp
  ·unfold ap
   rw[hs,decide_eq_false (p:=(l.length:Int) < (l.length:Int)) (by omega),Bool.false_and,cond_false]
   simp
theorem Ad {step:Nat→Int→Int⊕Int}{p:Nat→Int→Prop}{l:List α}{q:α→Bool}(hs:∀ j s,step j s=bif((decide (s< (l.length:Int)))&&q (l.getD (Int.toNat s) (default:α)))then .inr (IntKind.i64.wrap (s+1))else .inl s)(hl:l.length≤100000)
  (hp:∀ j s,p j s=(l.length≤a7→((decide (s< (l.length:Int)))=true→(0≤s∧s< (l.length:Int))))) (n:Nat):okI step p n 0 0:=by
 refine fZ (fun _ s=>0≤s) n 0 0 (Int.le_refl _) fun j s _ _ h=>⟨?_,fun s' e=>?_⟩
 ·rw[hp];intro _ q;simp only[decide_eq_true_eq]at q;omega
 ·rw[hs]at e
  cases hq:((decide (s< (l.length:Int)))&&q (l.getD (Int.toNat s) (default:α)))with
  |true=>
   rw[hq]at e
   simp only[cond_true,Sum.inr.injEq]at e
   simp only[Bool.and_eq_true,decide_eq_true_eq]at hq
   rw[bv (by omega) (by omega)]at e
   omega
  |false=>rw[hq]at e;cases e
theorem Lt (q:α→Bool)(l:List α):(l.takeWhile q).length≤l.length:=(List.takeWhile_sublist q).length_le
end
end Go.Sx
end
