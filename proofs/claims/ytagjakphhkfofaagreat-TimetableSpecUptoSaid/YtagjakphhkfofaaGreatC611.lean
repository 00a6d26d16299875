/- Part of the proof that the law TimetableSpec returns true and leaves its arguments as they were, for all arguments of bulk at most 1048576 (the Upto form). -/
import Derived.Test.YtagjakphhkfofaaGreatC608
import Derived.Test.YtagjakphhkfofaaGreatC610
import Derived.Test.YtagjakphhkfofaaGreatC609
import Derived.Test.YtagjakphhkfofaaGreatC607
import Derived.Test.YtagjakphhkfofaaGreatC606
set_option linter.all false
set_option maxHeartbeats 4000000
section
namespace Go.Sx
open Go.RowKit Go.Shelf Go.Lib Go.Sort Go.Proofs
set_option maxRecDepth 100000
noncomputable def h_:List SV→List Ob→Option HCon:=fun l h=>orC (eO .claim 36 [] bJ l h) (eO .claim 71 [] bC l h)
@[go_sem] theorem Kq {l0:List Claim}:h_ [.os 0,.fn 36 [] []] [.row .claim l0]=some (vF (apart bJ l0) (.tup []) [.row .claim (srt bJ l0)]):=by
 unfold h_
 rw[lv];rfl
@[go_sem] theorem Ij {l0:List Claim}:h_ [.os 0,.fn 71 [] []] [.row .claim l0]=some (vF (apart bC l0) (.tup []) [.row .claim (srt bC l0)]):=by
 unfold h_
 rw[lv]
 have:eO .claim 36 [] bJ [.os 0,.fn 71 [] []] [.row .claim l0]=none:=by simp[eO,yB]
 rw[this];rfl
theorem wA:yQ .claim:=fun x s hs=>by
 simp only[cellsOf,List.mem_cons,List.not_mem_nil,or_false]at hs
 rcases hs with rfl|rfl|rfl|rfl|rfl
 all_goals exact⟨_,rfl,rfl⟩
theorem zk (x y:Claim):jr (.agg (cellsOf .claim x):: .agg (cellsOf .claim y)::[])=some (.det True (.v (.int .i64 (bJ x y)))):=by
 simp only[go_sem,Nat.reduceBEq]
theorem wB (x y:Claim):kC (.agg (cellsOf .claim x):: .agg (cellsOf .claim y)::[])=some (.det True (.v (.int .i64 (bC x y)))):=by
 simp only[go_sem,Nat.reduceBEq]
theorem uV:FnOkO Tryz.prog 67 h_:=by
 refine FnOkO.or ?_ ?_
 ·exact ol (k:=.claim) Tryz.sortLc (fun w=>by kernel_rfl) (fun w=>by kernel_rfl) wA (by decide) (g:=36) (caps:=[]) mF (cf:=bJ) zk yS (fun s hs=>by cases hs) ⟨default,default,zk _ _⟩
 ·exact ol (k:=.claim) Tryz.sortLc (fun w=>by kernel_rfl) (fun w=>by kernel_rfl) wA (by decide) (g:=71) (caps:=[]) py (cf:=bC) wB oo (fun s hs=>by cases hs) ⟨default,default,wB _ _⟩
end Go.Sx
end
section
namespace Go.Sx
open Go.Proofs
set_option maxRecDepth 100000
set_option linter.unusedSimpArgs false
theorem Kr {p:Prop}(h:p:=by simp only[go_sem,Nat.reduceBEq,Nat.reduceLeDiff,Nat.reduceLT,decide_true,Nat.reduceAdd,Nat.reduceSub,Nat.reduceMul,Int.reduceLE,Int.reduceLT,Int.reduceToNat,Int.reduceNeg,reduceCtorEq,hc,hw];all_goals exact rl):p:=h
theorem Ks {p:Prop}(h:p:=by simp only[go_sem,Nat.reduceBEq,Nat.reduceLeDiff,Nat.reduceLT,decide_true,Nat.reduceAdd,Nat.reduceSub,Nat.reduceMul,Int.reduceLE,Int.reduceLT,Int.reduceToNat,Int.reduceNeg,reduceCtorEq,hc];all_goals exact rl):p:=h
@[go_sem] def zl (x:Claim):List SV:=[.agg (cellsOf .claim x)]
@[go_sem] def dz:List SV→Option Con:=(pR .claim fun s_=>(pE (.det True (.fn 68 [] [.ep [.rs .claim s_] 0]))))
theorem eQ:FnOk Tryz.prog 35 dz:=by
 have hG:ConsOk Tryz.prog (mkG [] []):=aC cg0 cg0
 refine aI [.o] mixed ax hG (fn:=Tryz.f35) (c:=ae Tryz.f35) (by kernel_rfl) (by kernel_rfl) (by kernel_rfl) (by kernel_rfl) (cg fun s_=>(aB (fun hp=>?_)))
 refine⟨Nat.le_of_ble_eq_true rfl,L0,aj _,?_⟩
 unfold ae Tryz.f35
 simp only[go_sem,uE,uG,Nat.reduceBEq,Nat.reduceLeDiff,Nat.reduceAdd,Nat.reduceSub,Nat.reduceMul]
@[go_sem] def bM (s_:List Claim)(k_0:Nat)(s_0:List Claim):Empty⊕(List Claim):=.inr (s_0++[(s_.getD k_0 (default:Claim))])
def bZ (s_:List Claim)(items_:List (List SV))(k_0:Nat)(s_0:List Claim):Prop:=(items_[s_0.length]? =some (zl (s_.getD k_0 (default:Claim))))
def eL (s_:List Claim)(items_:List (List SV)):Prop:=(s_.length≤ba→(okI (bM s_) (bZ s_ items_) s_.length 0 ([]:List Claim)∧(∀ s_0,aw (bM s_) s_.length 0 ([]:List Claim)=.inr s_0→(items_.length=s_0.length))))
theorem ia (s_:List Claim)(items_:List (List SV))(hp:eL s_ items_):zQ Tryz.prog 68 (fun y=>[y,.ep [.rs .claim s_] 0]) [] items_:=by
 unfold eL at hp
 refine Fz mixed ax (fn:=Tryz.f68) (c:=ae Tryz.f68) (by kernel_rfl) (by kernel_rfl) (by kernel_rfl) (by kernel_rfl) rfl (n:=0) rfl (G:=fun r_=>wP [] [] (Dt items_ r_)) (fun r_ hy=>?_) (fun args w=>by kernel_rfl)
 have hG:ConsOk Tryz.prog (wP [] [] (Dt items_ r_)):=uh cg0 cg0 hy
 refine⟨hG,Nat.le_of_ble_eq_true rfl,(fun id st=>bif Nat.beq id 0 then some (LCY (ρ:=Empty) (σ:=(List Claim)) 1 [] [0] (fun k_0 s_0=>⟨[(0,.os 0),(5,.rs .claim s_),(6,.v (.int .i64 (s_.length:Int))),(7,.v (.int .i64 (k_0:Int)))],[.ab (r_.1 (s_0.length+1))]⟩) (bM s_) (bZ s_ items_) s_.length ([]:List Claim) (s_.length≤ba) ((·.elim)) ((·.elim)) ⟨[],[.ab (r_.1 0)]⟩ st)else none),?_,?_⟩
 ·unfold ae Tryz.f68
  simp only[az,true_and,and_true]
  ·refine uD mixed ax hG (by kernel_rfl) (fun _=>rfl) (s_.length:Int) rfl g6 (fun hb0 k_0 s_0 hlt0 hq0 hw hc=>⟨L0,aj _,?_⟩) (fun hb0 s_0 hc=>?_)
   ·unfold bZ at hq0
    try simp only[hw,Int.toNat_natCast]at hq0
    exact Kr
   ·exact Ks
 ·unfold ae Tryz.f68
  simp only[go_sem,Nat.reduceBEq,Nat.reduceLeDiff,Nat.reduceLT,decide_true,Nat.reduceAdd,Nat.reduceSub,Nat.reduceMul,Int.reduceLE,Int.reduceLT,Int.reduceToNat,Int.reduceNeg,reduceCtorEq]
  all_goals exact rl
end Go.Sx
end
section
namespace Go.Sx
open Go.Proofs
set_option maxRecDepth 100000
noncomputable def iK:List SV→Option Con:=pQ (.v (.slice none 0 0)) (pFn 68 (pXR .claim fun c=>pE fun l=>(pE (.det (c.length*40≤eD) (.nw .claim c))) l))
def pL:List Claim→List Ob
 | [] =>[.cells [.v (.slice none 0 0)]]
 |x::l=>[.cells [.os 1],.row .claim (x::l)]
def wC (x:Claim)(l:List Claim):Empty⊕List Claim:=.inr (l++[x])
theorem zm:∀ (l m:List Claim),cF wC l m=.inr (m++l)
 | [],m=>by simp[cF]
 |x::l,m=>by simp only[cF,wC];rw[zm l];simp
theorem AZ {B:Nat}:∀ (l m:List Claim),m.length+l.length≤B→okL wC (fun _ s=>s.length+1≤B) l m
 | [],_,_=>trivial
 |x::l,m,h=>⟨by simp at h;omega,fun s' hs=>by
  simp only[wC,Sum.inr.injEq]at hs
  subst hs
  exact AZ l _ (by simp at h ⊢;omega)⟩
theorem H0 (c:List Claim):zQ Tryz.prog 68 (fun y=>[y,.ep [.rs .claim c] 0]) [] (c.map zl):=by
 refine ia c _ fun _=>⟨?_,fun s hs=>?_⟩
 ·refine gT (fun k (s:List Claim) =>s.length=k) _ _ _ rfl fun j s _ hj hs=>⟨?_,fun s' e=>?_⟩
  ·unfold bZ
   rw[hs,List.getElem?_map,List.getElem?_eq_getElem (by omega),List.getD_eq_getElem?_getD,List.getElem?_eq_getElem (by omega)]
   rfl
  ·unfold bM at e
   cases e
   rw[List.length_append,hs];rfl
 ·have:=yx (fun k (s:List Claim) =>s.length=k) c.length 0 [] (by rfl) (fun j s _ _ hs s' e=>by
   unfold bM at e
   cases e
   rw[List.length_append,hs];rfl) s hs
  rw[List.length_map,this,Nat.zero_add]
theorem rF:FnOk Tryz.prog 110 iK:=by
 have hG:ConsOk Tryz.prog (mkG [] []):=aC cg0 cg0
 refine tz [(.tmp 4,.claim)] mixed ax hG (fn:=Tryz.f110) (c:=ae Tryz.f110) (by kernel_rfl) (by kernel_rfl) (by kernel_rfl) (by kernel_rfl) (P3 (jS (ui fun c=>(aB (aB (fun hp=>?_))))))
 dsimp only[aD]at hp
 refine⟨Nat.le_of_ble_eq_true rfl,fun id st=>bif Nat.beq id 0 then some (LC (ρ:=Empty) (σ:=List Claim) (lk 2 st.t=.ptr 0 0∧lk 6 st.t=.fn 68 [] [.ep [.rs .claim c] 0]∧st.h=[.cells [.v (.slice none 0 0)]]) (cF wC c []) (·.elim) (·.elim) (fun s=>⟨[(2,.ptr 0 0)],pL s⟩))else none,?_,?_⟩
 ·unfold ae Tryz.f110
  simp only[az,true_and,and_true]
  refine oV mixed ax hG (by decide) (by decide) (by kernel_rfl) (by kernel_rfl) fun st lc hC hp=>?_
  simp only[go_sem,Nat.reduceBEq,Option.some.injEq]at hC
  subst hC
  obtain⟨t,h⟩:=st
  dsimp only[LC]at hp
  obtain⟨e2,e6,rfl⟩:=hp
  refine⟨68,[.ep [.rs .claim c] 0],Claim,_,_,c,zl,wC,fun _ s=>s.length+1≤c.length,_,[],_,_,_,[(2,.ptr 0 0)],pL,(·.elim),[0],?_,rfl,AZ _ _ (by simp),Nat.le_of_ble_eq_true rfl,?_,?_,fun x s hq=>⟨rfl,L0,fun l=>aj _,fun l=>aj _,?_⟩,fun s=>?_,fun y=>y.elim⟩
  ·simp only[go_sem,e6]
  ·simp only[go_sem,pW,jP,List.flatMap_cons,List.flatMap_nil,List.nil_append,List.append_nil,List.map_nil,pL,e2,Nat.reduceBEq,Nat.reduceLeDiff,Nat.reduceAdd]
   all_goals (first|done|decide|(repeat' (first|refine And.intro ?_ ?_|rfl|decide)))
  ·exact H0 c
  ·have hb:(s++[x]).length*40≤eD:=by simp;omega
   cases s with
   |nil=>
    simp only[go_sem,psT,zl,pL,wC,List.cons_append,List.nil_append,Nat.reduceBEq,Nat.reduceLeDiff,Nat.reduceAdd,Nat.reduceSub,Nat.reduceMul]
    exact⟨by simpa using hb,fun _=>fk [0,3]⟩
   |cons a m=>
    simp only[go_sem,psT,zl,pL,wC,List.cons_append,List.nil_append,Nat.reduceBEq,Nat.reduceLeDiff,Nat.reduceAdd,Nat.reduceSub,Nat.reduceMul]
    exact⟨by simpa using hb,fun _=>fk [0,4]⟩
  ·cases s with
   |nil=>simp only[pL];exact fk [0]
   |cons a m=>simp only[pL];exact fk [0,1]
 ·unfold ae Tryz.f110
  simp only[go_sem,Nat.reduceBEq,Nat.reduceLeDiff,Nat.reduceAdd,Nat.reduceSub,Nat.reduceMul,zm,List.nil_append]
  refine⟨fun y=>y.elim,fun s hs=>?_⟩
  cases hs
  cases c with
  |nil=>simp only[go_sem,pL,Nat.reduceLT,decide_true,Nat.reduceBEq,Nat.reduceLeDiff,Nat.reduceAdd,Nat.reduceSub,Nat.reduceMul]
  |cons x l=>simp only[go_sem,pL,Nat.reduceLT,decide_true,Nat.reduceBEq,Nat.reduceLeDiff,Nat.reduceAdd,Nat.reduceSub,Nat.reduceMul]
attribute [go_sem] iK
end Go.Sx
end
section
namespace Go.Sx
open Go.Proofs
set_option maxRecDepth 100000
set_option linter.unusedSimpArgs false
def cS (c:List Claim):List Claim:=c
def ct (c:List Claim):Prop:=(c.length*40≤eD)
@[go_sem] noncomputable def fj:List SV→Option Con:=(pFn 68 (pXR .claim fun c=>(pE ((pE (.det (ct c) (.nw .claim (cS c))))))))
theorem gV:FnOk Tryz.prog 66 fj:=by
 have hG:ConsOk Tryz.prog (mkG [(110,iK)] []):=aC (cgc rF cg0) cg0
 refine qL true mixed ax hG (fn:=Tryz.f66) (c:=ae Tryz.f66) (by kernel_rfl) (by kernel_rfl) (by kernel_rfl) (by kernel_rfl) (jS (ui fun c=>(aB ((aB (fun hp=>?_))))))
 dsimp only[aD]at hp
 unfold ct at hp
 refine⟨Nat.le_of_ble_eq_true rfl,L0,aj _,?_⟩
 ·unfold ae Tryz.f66
  try unfold cS
  simp only[go_sem,Nat.reduceBEq,Nat.reduceLeDiff,Nat.reduceLT,decide_true,Nat.reduceAdd,Nat.reduceSub,Nat.reduceMul,Int.reduceLE,Int.reduceLT,Int.reduceToNat,Int.reduceNeg,reduceCtorEq]
  all_goals exact cl
end Go.Sx
end
section
namespace Go.Sx
open Go.Proofs
set_option maxRecDepth 100000
set_option linter.unusedSimpArgs false
def an (c:List Claim):List Claim:=(srt bJ (cS c))
def ez (c:List Claim):Prop:=((ct c)∧(apart bJ (cS c)))
@[go_sem] noncomputable def f9:List SV→Option Con:=(pFn 68 (pXR .claim fun c=>(pE ((pFn 36 (pE ((pE (.det (ez c) (.nw .claim (an c)))))))))))
theorem k9:FnOk Tryz.prog 34 f9:=by
 have hG:ConsOk Tryz.prog (mkG [(66,fj)] [(67,h_)]):=aC (cgc gV cg0) (cgc uV cg0)
 refine qL true mixed ax hG (fn:=Tryz.f34) (c:=ae Tryz.f34) (by kernel_rfl) (by kernel_rfl) (by kernel_rfl) (by kernel_rfl) (jS (ui fun c=>(aB ((jS (aB ((aB (fun hp=>?_)))))))))
 dsimp only[aD]at hp
 unfold ez at hp
 refine⟨Nat.le_of_ble_eq_true rfl,L0,aj _,?_⟩
 ·unfold ae Tryz.f34
  try unfold an
  simp only[go_sem,Nat.reduceBEq,Nat.reduceLeDiff,Nat.reduceLT,decide_true,Nat.reduceAdd,Nat.reduceSub,Nat.reduceMul,Int.reduceLE,Int.reduceLT,Int.reduceToNat,Int.reduceNeg,reduceCtorEq]
  all_goals exact cl
def eA (c:List Claim):List Claim:=(srt bC (cS c))
def d5 (c:List Claim):Prop:=((ct c)∧(apart bC (cS c)))
@[go_sem] noncomputable def fM:List SV→Option Con:=(pFn 68 (pXR .claim fun c=>(pE ((pFn 71 (pE ((pE (.det (d5 c) (.nw .claim (eA c)))))))))))
theorem kl:FnOk Tryz.prog 34 fM:=by
 have hG:ConsOk Tryz.prog (mkG [(66,fj)] [(67,h_)]):=aC (cgc gV cg0) (cgc uV cg0)
 refine qL true mixed ax hG (fn:=Tryz.f34) (c:=ae Tryz.f34) (by kernel_rfl) (by kernel_rfl) (by kernel_rfl) (by kernel_rfl) (jS (ui fun c=>(aB ((jS (aB ((aB (fun hp=>?_)))))))))
 dsimp only[aD]at hp
 unfold d5 at hp
 refine⟨Nat.le_of_ble_eq_true rfl,L0,aj _,?_⟩
 ·unfold ae Tryz.f34
  try unfold eA
  simp only[go_sem,Nat.reduceBEq,Nat.reduceLeDiff,Nat.reduceLT,decide_true,Nat.reduceAdd,Nat.reduceSub,Nat.reduceMul,Int.reduceLE,Int.reduceLT,Int.reduceToNat,Int.reduceNeg,reduceCtorEq]
  all_goals exact cl
noncomputable def cw:List SV→Option Con:=fun l=>orC (f9 l) (fM l)
theorem fN:FnOk Tryz.prog 34 cw:=FnOk.or k9 kl
end Go.Sx
end
section
namespace Go.Sx
open Go.RowKit
def H1 (n0 id:Nat):Ob→SV
 | .row k l=>bif Nat.ble n0 id then .rs k l else .any
 |_=>.any
def isV:SV→Bool
 | .v _=>true
 |_=>false
def v7 (n0:Nat)(h:List Ob):SV→SV
 | .v x=>.v x
 | .rs k l=>.rs k l
 | .agg l=>bif l.all isV then .agg l else .any
 | .os id=>H1 n0 id (ar h id)
 |_=>.any
def z8 (n0:Nat)(h:List Ob):SV→SV
 | .tup l=>.tup (l.map (v7 n0 h))
 |s=>v7 n0 h s
def DW (n0:Nat)(own:Own):Own:=fun i=>if i<n0 then own i else none
section
variable {F:Nat→Prop}{own:Own}{w:World}{n0:Nat}{h:List Ob}
theorem uW {b:Nat}(hb:¬bQ F own b):¬bQ F (DW n0 own) b:=by
 rintro (hf| ⟨id,hd,e,hm⟩)
 ·exact hb (.inl hf)
 ·unfold DW at e
  split at e
  ·exact hb (.inr ⟨id,hd,e,hm⟩)
  ·cases e
theorem DX (hp:Hp F own w h):∀ (s:SV) (v:Value),Rel F own w s v→Rel F (DW n0 own) w (v7 n0 h s) v:=by
 intro s v hr
 cases s with
 |v x=>exact hr.over (.v x) fun b hb=>uW hb
 |rs k l=>exact hr.over .rs fun b hb=>uW hb
 |agg l=>
  simp only[v7]
  cases ha:l.all isV with
  |false=>exact .any _
  |true=>
   refine hr.over (.agg fun j s hj=>?_) fun b hb=>uW hb
   have:=List.all_eq_true.1 ha s (List.mem_of_getElem? hj)
   cases s <;>first|exact .v _|cases this
 |os id=>
  obtain⟨hd,h1,rfl,h2⟩:=gb hr
  simp only[v7]
  cases ho:ar h id with
  |row k l=>
   simp only[H1]
   cases hn:Nat.ble n0 id with
   |false=>exact .any _
   |true=>
    have hn':=Nat.le_of_ble_eq_true hn
    obtain⟨hd',e0,e⟩:=hp.at ho rfl
    rw[h1]at e0;cases e0
    have hnb:∀ b∈hd.bs,¬bQ F (DW n0 own) b:=by
     rintro b hb (hf| ⟨i,hi,e1,e2⟩)
     ·exact hp.apart id hd b h1 hb hf
     ·unfold DW at e1
      split at e1
      ·rename_i hlt
       have:=hp.inj id i hd hi b h1 e1 hb e2
       omega
      ·cases e1
    rcases e with⟨a,e1,rfl,_⟩ | ⟨b,o,cap,cs,ty,e1,e2,h3,h4,h5,h6,h7⟩
    ·rw[e1];exact .rs0
    ·rw[e1]
     refine .rs (fun i j=>cs.getD (o+i*aa k+j) undef) h5 h6 (fun i x hi j s hj=>?_) (fun i x hi j s hj=>?_)
     ·obtain⟨u,k1,k2⟩:=h7 i x hi j s hj
      refine⟨hnb b (by simp[e2]),?_⟩
      rw[di h3,k1]
      simp[Array.getD_eq_getD_getElem?,k1]
     ·obtain⟨u,k1,k2⟩:=h7 i x hi j s hj
      have:cs.getD (o+i*aa k+j) undef=u:=by simp[Array.getD_eq_getD_getElem?,k1]
      rw[this]
      exact k2.over (nu hj) fun b hb=>uW hb
  |_=>exact .any _
 |_=>exact .any _
theorem Kt (hp:Hp F own w h)(s:SV)(v:Value)(hr:Rel F own w s v):Rel F (DW n0 own) w (z8 n0 h s) v:=by
 cases s with
 |tup l=>
  cases hr with
  |tup h0 h1=>
   refine .tup (by simpa using h0) fun j s hj=>?_
   obtain⟨x,hx,rfl⟩:=ca hj
   exact DX hp x _ (h1 j x hx)
 |_=>exact DX hp _ _ hr
theorem GW (s:SV):PF (v7 n0 h s):=by
 cases s with
 |agg l=>
  simp only[v7]
  cases ha:l.all isV with
  |false=>exact .any
  |true=>
   refine .agg fun j s hj=>?_
   have:=List.all_eq_true.1 ha s (List.mem_of_getElem? hj)
   cases s <;>first|exact .v _|cases this
 |os id=>
  simp only[v7]
  cases ar h id with
  |row k l=>simp only[H1];cases Nat.ble n0 id <;>first|exact .any|exact .rs
  |_=>exact .any
 |v x=>exact .v x
 |rs k l=>exact .rs
 |_=>exact .any
theorem M_ (s:SV):PF (z8 n0 h s):=by
 cases s
 case tup l=>exact .tup fun j s hj=>by obtain⟨x,hx,rfl⟩:=ca hj;exact GW x
 all_goals (unfold z8;exact GW _)
@[go_sem] theorem Ua {l:List SV}:z8 n0 h (.tup l)=.tup (l.map (v7 n0 h)):=(rfl)
@[go_sem] theorem VL {id:Nat}:z8 n0 h (.os id)=H1 n0 id (ar h id):=(rfl)
@[go_sem] theorem Wr {x:Value}:z8 n0 h (.v x)=.v x:=(rfl)
@[go_sem] theorem VM {k:Tag}{l:List k.T}:z8 n0 h (.rs k l)=.rs k l:=(rfl)
@[go_sem] theorem Ub {l:List SV}:z8 n0 h (.agg l)=bif l.all isV then .agg l else .any:=(rfl)
@[go_sem] theorem Ws {x:Value}:v7 n0 h (.v x)=.v x:=(rfl)
@[go_sem] theorem VN {k:Tag}{l:List k.T}:v7 n0 h (.rs k l)=.rs k l:=(rfl)
@[go_sem] theorem Uc {l:List SV}:v7 n0 h (.agg l)=bif l.all isV then .agg l else .any:=(rfl)
@[go_sem] theorem VO {id:Nat}:v7 n0 h (.os id)=H1 n0 id (ar h id):=(rfl)
@[go_sem] theorem Ud {k:Tag}{l:List k.T}{id:Nat}:H1 n0 id (.row k l)=bif Nat.ble n0 id then .rs k l else .any:=(rfl)
@[go_sem] theorem isV_v {x:Value}:isV (.v x)=true:=(rfl)
end
def H2 (pks:List Pk)(n0:Nat)(S:SV)(H:List Ob)(h:List Ob):Option SV→Prop
 |some s=>S=sg pks (z8 n0 h s)∧gc ⟨[],H⟩ n0 ⟨[],h⟩
 |none=>False
def Ku (pks:List Pk)(n0:Nat)(rs:List ResultVar)(ts:Tis)(S:SV)(H:List Ob):Ex→St→Prop
 | .exit _,_=>False
 | .normal,st=>H2 pks n0 S H st.h (kx (jn ts st rs))
 | .ret,st=>H2 pks n0 S H st.h (kx (jn ts st rs))
 | .pan _,_=>False
section
variable {P:Program}{ts:Tis}{G:Cons}{n0:Nat}{S s:SV}{H h:List Ob}{rs:List ResultVar}{st:St}{pks:List Pk}
@[go_sem] theorem Sq:H2 pks n0 S H h (some s)=(S=sg pks (z8 n0 h s)∧gc ⟨[],H⟩ n0 ⟨[],h⟩):=(rfl)
@[go_sem] theorem Na:Ku pks n0 rs ts S H .normal st=H2 pks n0 S H st.h (kx (jn ts st rs)):=(rfl)
@[go_sem] theorem Sr:Ku pks n0 rs ts S H .ret st=H2 pks n0 S H st.h (kx (jn ts st rs)):=(rfl)
theorem Kv {js:List Nat}{own:Own}{F:Nat→Prop}{b:Nat}(hk:s7 0 js n0=true)(hl:H.length=n0)(hb:¬bQ F (DW n0 own) b):¬bQ F (eN js H own) b:=by
 rintro (hf| ⟨k,hd,e,hm⟩)
 ·exact hb (.inl hf)
 ·obtain⟨h1,j,hd0,e1,e2,_,e4⟩:=eT e
  obtain⟨_,rfl⟩:=e4 b hm
  have hj:=tn js 0 n0 hk k j e1 (by omega)
  have hjk:j=k:=by omega
  subst hjk
  refine hb (.inr ⟨j,hd,?_,hm⟩)
  unfold DW
  rw[if_pos (by omega)]
  exact e2
theorem zn (pks:List Pk) (hm:P.follows .mixedOrders=true) (hts:ts.ok P) (hG:ConsOk P G) {f:FuncId} {fn:Func} {c:Code} (hf:P.funcs[f]? =some fn) (hb:fn.body=some c) (hname:(fn.name== "runtime.NumGoroutine")=false)
  (hc:ce fn.ntmps c=true) {C:List SV→List Ob→Option HCon}
  (h:∀ l o con,C l o=some con→∃ p S H,con=vF p S H∧H.length=o.length∧(p→l.length≤fn.ntmps∧∃ L,az P none fn.ntmps L c∧exec ts G L c ⟨jA 0 l,o⟩ (Ku pks o.length fn.results.toList ts S H))):FnOkO P f C:=by
 refine⟨fun l o con _ args w=>?_,fun l o con hcon hpre F own w vs hp hvs=>?_⟩
 ·have hn:¬fn.name= "runtime.NumGoroutine":=by simpa using hname
  simp[callFunc,hf,hn,hb]
 ·obtain⟨p,S,H,rfl,hH,h2⟩:=h l o con hcon
  obtain⟨hlen,L,hl,hx⟩:=h2 hpre
  have hn0:∀ id hd,own id=some hd→id<o.length:=fun id hd e=>hp.dom id hd e
  refine kI (n:=0) (callsIn_of_wp_marks hf hb trivial ?_)
  have hr:StRel F { w:=w,own:=own} fn.ntmps own ⟨jA 0 l,o⟩ { tmps:=vs++Array.replicate (fn.ntmps - vs.size) undef,defers:=[]} w:=
   ⟨by have:=hvs.1;simp;omega,Dfr.nil,hp,Fr.refl { w:=w,own:=own},fun t=>jE hvs _ t⟩
  refine wpIn_mono (lm hm hts hG c hc hl F _ _ hx own _ w hr) ?_
  intro e a' w' hq
  have key:∀ F1 own' st,(∀ b,F b→F1 b)→StRel F1 { w:=w,own:=own} fn.ntmps own' st a' w'→H2 pks o.length S H st.h (kx (jn ts st fn.results.toList))→LeavesInM (rd none) 0 P fn a'.tmps (fun e w'=>∃ r own',(vF p S H).post r∧ES F w own o.length e own' w' ((vF p S H).res r)) a'.defers .returning w':=by
   intro F1 own' st hF1 hst hdone
   refine g5 hst (by simp) fun w2 hst2=>?_
   have hst3:=hst2.less hF1 rfl
   cases hs:kx (jn ts st fn.results.toList)with
   |none=>rw[hs]at hdone;exact hdone.elim
   |some s=>
    rw[hs]at hdone
    obtain⟨hS,js,q3,q4⟩:=hdone
    obtain⟨u,e1,e2⟩:=rZ (P:=P) hts hst3 hs
    obtain⟨k1,k2,_,_⟩:=yn q4 hst3.hp hst3.fr hn0 q3
    refine⟨u,e1,(),eN js H own',trivial,⟨u,rfl,?_⟩,k1,k2,q3⟩
    subst hS
    exact yy ((Kt hst3.hp s u e2).over (M_ s) fun b hb=>Kv q4.1.2.1 hH hb)
  cases e with
  |normal=>obtain⟨F1,own',st,h0,h1,h2⟩:=hq;exact key F1 own' st h0 h1 h2
  |ret=>obtain⟨F1,own',st,h0,h1,h2⟩:=hq;exact key F1 own' st h0 h1 h2
  |exit id=>obtain⟨F1,own',st,h0,h1,h2⟩:=hq;exact h2.elim
  |panic ch=>obtain⟨x,F1,own',st,h0,h1,h2,rfl⟩:=hq;exact h2.elim
  |_=>exact hq.elim
end
end Go.Sx
end
section
namespace Go.Sx
open Go.Proofs
set_option maxRecDepth 100000
set_option linter.unusedSimpArgs false
@[go_sem] noncomputable def iL:List SV→List Ob→Option HCon:=fun l h=>yB .claim (fun c=>(pD .district fun d=>((pQ (.os 0) (pE (vF (dR d c) (.tup [.rs .order ((ag d c).1),.v (.int .i64 ((ag d c).2))]) [.row .claim c]))))) l) h
theorem rG:FnOkO Tryz.prog 33 iL:=by
 have hG:ConsOk Tryz.prog (mkG [(24,fun l=>nG (ci [.st .district,.sl .claim] l)),(63,fun l=>iJ (ci [.sl .claim] l)),(64,fun l=>cL (ci [.sl .order,.o] l))] []):=aC (cgc (p_.norm [.st .district,.sl .claim]) (cgc (ma.norm [.sl .claim]) (cgc (dQ.norm [.sl .order,.o]) cg0))) cg0
 refine zn [.sl .order,.o] mixed ax hG (fn:=Tryz.f33) (c:=ae Tryz.f33) (by kernel_rfl) (by kernel_rfl) (by kernel_rfl) (by kernel_rfl) fun l o con h=>?_
 unfold iL at h
 obtain⟨c,rfl,h⟩:=uj h
 obtain⟨d,r0,rfl,h0⟩:=vB h
 obtain⟨r1,rfl,h1⟩:=BS h0
 obtain⟨rfl,rfl⟩:=tp h1
 clear h h0 h1
 refine⟨_,_,_,rfl,rfl,fun hp=>?_⟩
 unfold dR at hp
 refine⟨Nat.le_of_ble_eq_true rfl,L0,?_,?_⟩
 ·unfold ae Tryz.f33
  simp only[az,and_self,true_and,and_true]
 ·unfold ae Tryz.f33
  try unfold ag
  simp only[go_sem,Nat.reduceBEq,Nat.reduceLeDiff,Nat.reduceLT,decide_true,Nat.reduceAdd,Nat.reduceSub,Nat.reduceMul,Int.reduceLE,Int.reduceLT,Int.reduceToNat,Int.reduceNeg,reduceCtorEq]
  all_goals exact jT
end Go.Sx
end
section
namespace Go.Sx
open Go.Proofs
set_option maxRecDepth 100000
set_option linter.unusedSimpArgs false
theorem zo {p:Prop}(h:p:=by(first|done|(repeat' (first|with_reducible refine And.intro ?_ ?_|((with_reducible show _≠_);first|assumption|omega|(simp_all [aZ,bg];done) |grind) |with_reducible intro _)) <;>(first|done|exact Empty.elim ‹Empty› |assumption|rfl|omega|decide|exact fk [0,1,2,3,4] |exact czl|(simp only[*,cond_true,cond_false,Bool.not_true,Bool.not_false,go_sem,Nat.reduceBEq,Nat.reduceLeDiff,Nat.reduceLT,decide_true,Nat.reduceAdd,Nat.reduceSub,Nat.reduceMul,Int.reduceLE,Int.reduceLT,Int.reduceToNat,Int.reduceNeg,reduceCtorEq];(repeat' (first|with_reducible refine And.intro ?_ ?_|((with_reducible show _≠_);first|assumption|omega|(simp_all [aZ,bg];done) |grind) |with_reducible intro _)) <;>(first|done|assumption|rfl|omega|decide|exact fk [0,1,2,3,4] |(simp_all [aZ,bg];done))) |(simp_all [okI,aZ,bg];done) |(simp_all [aZ,bg];(first|done|exact fk2 [0,1,2,3,4])) |exact fk2 [0,1,2,3,4]))):p:=h
@[go_sem] noncomputable def iM:List SV→List Ob→Option HCon:=fun l h=>yB .claim (fun c=>(pD .district fun d=>((pQ (.os 0) (pE (vF (dS d c) (.tup [.rs .order ((av d c).1),.agg (cellsOf .fault ((av d c).2.1)),.v (.int .i64 ((av d c).2.2))]) [.row .claim c]))))) l) h
theorem rH:FnOkO Tryz.prog 31 iM:=by
 have hG:ConsOk Tryz.prog (mkG [(54,fun l=>nJ (ci [.st .district,.sl .order] l)),(55,j9),(56,fun l=>kT (ci [.st .district,.sl .order] l)),(57,fun l=>ju (ci [.st .district,.sl .order] l))] [(33,iL)]):=aC (cgc (qa.norm [.st .district,.sl .order]) (cgc nN (cgc (oq.norm [.st .district,.sl .order]) (cgc (mG.norm [.st .district,.sl .order]) cg0)))) (cgc rG cg0)
 refine zn [.sl .order,.st .fault,.o] mixed ax hG (fn:=Tryz.f31) (c:=ae Tryz.f31) (by kernel_rfl) (by kernel_rfl) (by kernel_rfl) (by kernel_rfl) fun l o con h=>?_
 unfold iM at h
 obtain⟨c,rfl,h⟩:=uj h
 obtain⟨d,r0,rfl,h0⟩:=vB h
 obtain⟨r1,rfl,h1⟩:=BS h0
 obtain⟨rfl,rfl⟩:=tp h1
 clear h h0 h1
 refine⟨_,_,_,rfl,rfl,fun hp=>?_⟩
 unfold dS at hp
 refine⟨Nat.le_of_ble_eq_true rfl,(fun id st=>bif Nat.beq id 0 then some (LC (ρ:=Int×Int×Int×Int×Int) (σ:=Unit) (lk 4 st.t=.ptr 2 0∧lk 5 st.t=.ptr 3 0∧lk 6 st.t=.ptr 4 0∧lk 39 st.t=.fn 100 [] [.ep [.rs .order ((am d ((ag d c).1)).1)] 0,.ep (cellsOf .district d) 0]∧st.h=[.row .claim c,.cells (cellsOf .district d),.cells [.rs .order ((am d ((ag d c).1)).1)],.cells [.v (.int .i64 0),.v (.int .i64 0),.v (.int .i64 0),.v (.int .i64 0),.v (.int .i64 0)],.cells [.v (.int .i64 ((am d ((ag d c).1)).2.2))]]∧dI ((am d ((ag d c).1)).1) d ((bK ((am d ((ag d c).1)).1) d).map d4)) (cF (dc d c) (bK ((am d ((ag d c).1)).1) d) ()) (fun _=>.ret) (fun x_0_0=>⟨[(4,.ptr 2 0),(5,.ptr 3 0),(6,.ptr 4 0)],[.row .claim c,.dead,.cells [.v (.slice none 0 0)],.cells [.v (.int .i64 x_0_0.1),.v (.int .i64 x_0_0.2.1),.v (.int .i64 x_0_0.2.2.1),.v (.int .i64 x_0_0.2.2.2.1),.v (.int .i64 x_0_0.2.2.2.2)],.cells [.v (.int .i64 0)]]⟩) (fun s_0=>⟨[(4,.ptr 2 0),(5,.ptr 3 0),(6,.ptr 4 0)],[.row .claim c,.dead,.cells [.rs .order ((am d ((ag d c).1)).1)],.cells [.v (.int .i64 0),.v (.int .i64 0),.v (.int .i64 0),.v (.int .i64 0),.v (.int .i64 0)],.cells [.v (.int .i64 ((am d ((ag d c).1)).2.2))]]⟩))else none),?_,?_⟩
 ·unfold ae Tryz.f31
  simp only[az,true_and,and_true]
  ·refine oV mixed ax hG (by decide) (by decide) (by kernel_rfl) (by kernel_rfl) fun st lc hC hp=>?_
   simp only[go_sem,Nat.reduceBEq,Option.some.injEq]at hC
   subst hC
   obtain⟨t,h⟩:=st
   dsimp only[LC]at hp
   obtain⟨e0_0,e0_1,e0_2,e0_3,rfl,hb0⟩:=hp
   refine⟨100,[.ep [.rs .order ((am d ((ag d c).1)).1)] 0,.ep (cellsOf .district d) 0],Fault,_,_,(bK ((am d ((ag d c).1)).1) d),d4,(dc d c),(mb d c),_,(),_,_,_,[(4,.ptr 2 0),(5,.ptr 3 0),(6,.ptr 4 0)],(fun s_0=>[.row .claim c,.dead,.cells [.rs .order ((am d ((ag d c).1)).1)],.cells [.v (.int .i64 0),.v (.int .i64 0),.v (.int .i64 0),.v (.int .i64 0),.v (.int .i64 0)],.cells [.v (.int .i64 ((am d ((ag d c).1)).2.2))]]),(fun x_0_0=>[.row .claim c,.dead,.cells [.v (.slice none 0 0)],.cells [.v (.int .i64 x_0_0.1),.v (.int .i64 x_0_0.2.1),.v (.int .i64 x_0_0.2.2.1),.v (.int .i64 x_0_0.2.2.2.1),.v (.int .i64 x_0_0.2.2.2.2)],.cells [.v (.int .i64 0)]]),[0,1,2,3,4],?_,rfl,xk _ _ fun _ _ _=>trivial,Nat.le_of_ble_eq_true rfl,?_,kF ((am d ((ag d c).1)).1) d _ hb0,fun z_0 s_0 hq0=>⟨rfl,L0,fun l=>?_,fun l=>?_,?_⟩,fun s_0=>?_,fun y=>?_⟩
   ·simp only[go_sem,e0_0,e0_1,e0_2,e0_3]
   ·simp only[go_sem,Nat.reduceBEq,Nat.reduceLeDiff,Nat.reduceLT,decide_true,Nat.reduceAdd,Nat.reduceSub,Nat.reduceMul,Int.reduceLE,Int.reduceLT,Int.reduceToNat,Int.reduceNeg,reduceCtorEq,pW,jP,List.flatMap_cons,List.flatMap_nil,List.nil_append,List.append_nil,List.map_nil,e0_0,e0_1,e0_2,e0_3]
    all_goals (first|done|decide|(repeat' (first|refine And.intro ?_ ?_|rfl|decide)))
   ·simp only[az,and_self,true_and,and_true]
   ·simp only[az,and_self,true_and,and_true]
   ·skip
    simp only[go_sem,Nat.reduceBEq,Nat.reduceLeDiff,Nat.reduceLT,decide_true,Nat.reduceAdd,Nat.reduceSub,Nat.reduceMul,Int.reduceLE,Int.reduceLT,Int.reduceToNat,Int.reduceNeg,reduceCtorEq,dc,psT,d4,List.cons_append,List.nil_append]
    all_goals exact zo
   ·simp only[go_sem,Nat.reduceBEq,Nat.reduceLeDiff,Nat.reduceLT,decide_true,Nat.reduceAdd,Nat.reduceSub,Nat.reduceMul,Int.reduceLE,Int.reduceLT,Int.reduceToNat,Int.reduceNeg,reduceCtorEq]
    all_goals exact zo
   ·simp only[go_sem,Nat.reduceBEq,Nat.reduceLeDiff,Nat.reduceLT,decide_true,Nat.reduceAdd,Nat.reduceSub,Nat.reduceMul,Int.reduceLE,Int.reduceLT,Int.reduceToNat,Int.reduceNeg,reduceCtorEq]
    all_goals exact zo
 ·unfold ae Tryz.f31
  try unfold av
  simp only[go_sem,Nat.reduceBEq,Nat.reduceLeDiff,Nat.reduceLT,decide_true,Nat.reduceAdd,Nat.reduceSub,Nat.reduceMul,Int.reduceLE,Int.reduceLT,Int.reduceToNat,Int.reduceNeg,reduceCtorEq]
  all_goals exact jT
@[go_sem] noncomputable def gq:List SV→List Ob→Option HCon:=fun l h=>yB .claim (fun c=>(pD .district fun d=>((pQ (.os 0) (pE (vF (dl d c) (.tup [.rs .order ((aM d c).1),.v (.bool ((aM d c).2.1)),.v (.int .i64 ((aM d c).2.2))]) [.row .claim c]))))) l) h
theorem mH:FnOkO Tryz.prog 12 gq:=by
 have hG:ConsOk Tryz.prog (mkG [] [(31,iM)]):=aC cg0 (cgc rH cg0)
 refine zn [.sl .order,.o,.o] mixed ax hG (fn:=Tryz.f12) (c:=ae Tryz.f12) (by kernel_rfl) (by kernel_rfl) (by kernel_rfl) (by kernel_rfl) fun l o con h=>?_
 unfold gq at h
 obtain⟨c,rfl,h⟩:=uj h
 obtain⟨d,r0,rfl,h0⟩:=vB h
 obtain⟨r1,rfl,h1⟩:=BS h0
 obtain⟨rfl,rfl⟩:=tp h1
 clear h h0 h1
 refine⟨_,_,_,rfl,rfl,fun hp=>?_⟩
 unfold dl at hp
 refine⟨Nat.le_of_ble_eq_true rfl,L0,?_,?_⟩
 ·unfold ae Tryz.f12
  simp only[az,and_self,true_and,and_true]
 ·unfold ae Tryz.f12
  try unfold aM
  simp only[go_sem,Nat.reduceBEq,Nat.reduceLeDiff,Nat.reduceLT,decide_true,Nat.reduceAdd,Nat.reduceSub,Nat.reduceMul,Int.reduceLE,Int.reduceLT,Int.reduceToNat,Int.reduceNeg,reduceCtorEq]
  all_goals exact jT
end Go.Sx
end
section
namespace Go.Sx
open Go.Proofs
set_option maxRecDepth 100000
@[go_sem] def mj:List SV→Option Con:=pR .claim fun l=>pE (.det (l.length*40≤eD) (.nw .claim l))
theorem qo:FnOk Tryz.prog 38 mj:=by
 have hG:ConsOk Tryz.prog (mkG [] []):=aC cg0 cg0
 refine tz [(.tmp 2,.claim)] mixed ax hG (fn:=Tryz.f38) (c:=ae Tryz.f38) (by kernel_rfl) (by kernel_rfl) (by kernel_rfl) (by kernel_rfl) (cg fun l=>aB fun hp=>?_)
 dsimp only[aD]at hp
 refine⟨Nat.le_of_ble_eq_true rfl,L0,aj _,?_⟩
 unfold ae Tryz.f38
 simp only[go_sem,Nat.reduceBEq,Nat.reduceLeDiff,Nat.reduceAdd,Nat.reduceSub,Nat.reduceMul,Int.reduceLE,Int.reduceLT,Int.reduceToNat,Int.reduceNeg,reduceCtorEq]
 intro b hb
 refine⟨fun h=>?_,fun _=>⟨hp,fun _=>rfl⟩⟩
 have hl:=hb h
 subst hl
 rfl
end Go.Sx
end
section
namespace Go.Sx
open Go.Proofs
set_option maxRecDepth 100000
set_option linter.unusedSimpArgs false
theorem DY {p:Prop}(h:p:=by(first|done|(repeat' (first|with_reducible refine And.intro ?_ ?_|((with_reducible show _≠_);first|assumption|omega|(simp_all [aZ,bg];done) |grind) |with_reducible intro _)) <;>(first|done|exact Empty.elim ‹Empty› |assumption|rfl|omega|decide|exact fk [0,1,6] |exact fk [0,1,2] |exact czl|(simp only[*,cond_true,cond_false,Bool.not_true,Bool.not_false,go_sem,Nat.reduceBEq,Nat.reduceLeDiff,Nat.reduceLT,decide_true,Nat.reduceAdd,Nat.reduceSub,Nat.reduceMul,Int.reduceLE,Int.reduceLT,Int.reduceToNat,Int.reduceNeg,reduceCtorEq];(repeat' (first|with_reducible refine And.intro ?_ ?_|((with_reducible show _≠_);first|assumption|omega|(simp_all [aZ,bg];done) |grind) |with_reducible intro _)) <;>(first|done|assumption|rfl|omega|decide|exact fk [0,1,6] |exact fk [0,1,2] |(simp_all [aZ,bg];done))) |(simp_all [okI,aZ,bg];done) |(simp_all [aZ,bg];(first|done|exact fk2 [0,1,6] |exact fk2 [0,1,2])) |exact fk2 [0,1,6] |exact fk2 [0,1,2]))):p:=h
theorem Kw {p:Prop}(h:p:=by simp only[go_sem,Nat.reduceBEq,Nat.reduceLeDiff,Nat.reduceLT,decide_true,Nat.reduceAdd,Nat.reduceSub,Nat.reduceMul,Int.reduceLE,Int.reduceLT,Int.reduceToNat,Int.reduceNeg,reduceCtorEq,hc,hw];all_goals exact DY):p:=h
theorem Kx {p:Prop}(h:p:=by simp only[go_sem,Nat.reduceBEq,Nat.reduceLeDiff,Nat.reduceLT,decide_true,Nat.reduceAdd,Nat.reduceSub,Nat.reduceMul,Int.reduceLE,Int.reduceLT,Int.reduceToNat,Int.reduceNeg,reduceCtorEq,hc];all_goals exact DY):p:=h
def aS (c:List Claim):List Claim:=(eA c)
def iN (c:List Claim):Prop:=(d5 c)
@[go_sem] def mI:List SV→Option Con:=(pR .claim fun c=>(pE (.det (iN c) (.nw .claim (aS c)))))
theorem rI:FnOk Tryz.prog 37 mI:=by
 have hG:ConsOk Tryz.prog (mkG [(34,cw),(35,fun l=>dz (ci [.sl .claim] l))] []):=aC (cgc fN (cgc (eQ.norm [.sl .claim]) cg0)) cg0
 refine qL true mixed ax hG (fn:=Tryz.f37) (c:=ae Tryz.f37) (by kernel_rfl) (by kernel_rfl) (by kernel_rfl) (by kernel_rfl) (cg fun c=>(aB (fun hp=>?_)))
 dsimp only[aD]at hp
 unfold iN at hp
 refine⟨Nat.le_of_ble_eq_true rfl,L0,aj _,?_⟩
 ·unfold ae Tryz.f37
  try unfold aS
  simp only[go_sem,Nat.reduceBEq,Nat.reduceLeDiff,Nat.reduceLT,decide_true,Nat.reduceAdd,Nat.reduceSub,Nat.reduceMul,Int.reduceLE,Int.reduceLT,Int.reduceToNat,Int.reduceNeg,reduceCtorEq,cw]
  all_goals exact cl
@[go_sem] def b_ (d:District)(c:List Claim)(k_0:Nat)(s_0:List Claim):Empty⊕(List Claim):=(bif(((aM d (aS (s_0++([((an c).getD k_0 (default:Claim))])))).2.2==0)&&(aM d (aS (s_0++([((an c).getD k_0 (default:Claim))])))).2.1)then .inr (aS (s_0++([((an c).getD k_0 (default:Claim))])))else .inr s_0)
def gO (d:District)(c:List Claim)(k_0:Nat)(s_0:List Claim):Prop:=((s_0.length*40≤eD)∧(((s_0++([((an c).getD k_0 (default:Claim))])).length*40≤eD)∧((s_0++([((an c).getD k_0 (default:Claim))])).length≤ba→((iN (s_0++([((an c).getD k_0 (default:Claim))])))∧(dl d (aS (s_0++([((an c).getD k_0 (default:Claim))]))))))))
def fb (d:District)(c:List Claim):List Claim×Int:=(bif((ag d c).2 !=0)then([],(ag d c).2)else(match aw (b_ d c) ((an c).length) 0 ([])with| .inl x=>x.elim| .inr s_0=>(s_0,0)))
def gu (d:District)(c:List Claim):Prop:=((dR d c)∧(((ag d c).2 !=0)=false→((ez c)∧((an c).length≤ba→okI (b_ d c) (gO d c) ((an c).length) 0 ([])))))
@[go_sem] def nU:List SV→Option Con:=(pD .district fun d=>(pR .claim fun c=>(pE (.det (gu d c) (.tup [.nw .claim ((fb d c).1),.v (.int .i64 ((fb d c).2))])))))
theorem sj:FnOk Tryz.prog 17 nU:=by
 have hG:ConsOk Tryz.prog (mkG [(33,fun l=>j6 (ci [.st .district,.sl .claim] l)),(34,cw),(35,fun l=>dz (ci [.sl .claim] l)),(37,fun l=>mI (ci [.sl .claim] l)),(38,fun l=>mj (ci [.sl .claim] l))] [(12,gq)]):=aC (cgc (nM.norm [.st .district,.sl .claim]) (cgc fN (cgc (eQ.norm [.sl .claim]) (cgc (rI.norm [.sl .claim]) (cgc (qo.norm [.sl .claim]) cg0))))) (cgc mH cg0)
 refine tz [(.tmp 4,.claim)] mixed ax hG (fn:=Tryz.f17) (c:=ae Tryz.f17) (by kernel_rfl) (by kernel_rfl) (by kernel_rfl) (by kernel_rfl) (aN fun d=>(cg fun c=>(aB (fun hp=>?_))))
 dsimp only[aD]at hp
 unfold gu at hp
 refine⟨Nat.le_of_ble_eq_true rfl,(fun id st=>bif Nat.beq id 0 then some (LCR (ρ:=Empty) (σ:=(List Claim)) 2 [.slot 4 (.row .claim ([]))] [0,1,2] (fun k_0 s_0=>⟨[(2,.ptr 0 0),(4,.os 2),(23,.os 1),(24,.v (.int .i64 ((an c).length:Int))),(25,.v (.int .i64 (k_0:Int)))],[.cells (cellsOf .district d),.row .claim (an c),.row .claim s_0]⟩) (b_ d c) (gO d c) ((an c).length) ([]) ((an c).length≤ba) ((·.elim)) ((·.elim)) st)else none),?_,?_⟩
 ·unfold ae Tryz.f17
  simp only[az,true_and,and_true]
  ·refine dy mixed ax hG (by kernel_rfl) (fun _=>rfl) ((an c).length:Int) rfl g6 (fun hb0 k_0 s_0 hlt0 hq0 hw hc=>⟨L0,aj _,?_⟩) (fun hb0 s_0 hc=>?_)
   ·unfold gO at hq0
    try simp only[hw,Int.toNat_natCast]at hq0
    exact Kw
   ·exact Kx
 ·unfold ae Tryz.f17
  try unfold fb
  simp only[go_sem,Nat.reduceBEq,Nat.reduceLeDiff,Nat.reduceLT,decide_true,Nat.reduceAdd,Nat.reduceSub,Nat.reduceMul,Int.reduceLE,Int.reduceLT,Int.reduceToNat,Int.reduceNeg,reduceCtorEq,cw]
  all_goals exact cl
end Go.Sx
end
section
namespace Go.Sx
open Go.Proofs
set_option maxRecDepth 100000
set_option linter.unusedSimpArgs false
def o_ (a0:District)(a1:List Claim):Bool:=(bif((((((((decide ((a0.reaches.length:Int) > 8))&&(decide ((a0.reaches.length:Int)≤64))) ||(decide ((a0.reaches.length:Int) > 100))) ||((decide ((a0.farms.length:Int) > 8))&&(decide ((a0.farms.length:Int)≤600)))) ||(decide ((a0.farms.length:Int) > 700))) ||(decide ((a0.rights.length:Int) > 300))) ||(decide ((a0.duties.length:Int) > 300))) ||(decide ((a0.crops.length:Int) > 100)))then false else(((decide (a0.hours≤30)) ||(decide (a0.hours > 1024)))&&(decide ((a1.length:Int)≤60))))
@[go_sem] def wD:List SV→Option Con:=(pD .district fun a0=>(pR .claim fun a1=>(pE (.det True (.v (.bool (o_ a0 a1)))))))
theorem Cb:FnOk Tryz.prog 11 wD:=by
 have hG:ConsOk Tryz.prog (mkG [] []):=aC cg0 cg0
 refine aI [.o] mixed ax hG (fn:=Tryz.f11) (c:=ae Tryz.f11) (by kernel_rfl) (by kernel_rfl) (by kernel_rfl) (by kernel_rfl) (aN fun a0=>(cg fun a1=>(aB (fun hp=>?_))))
 dsimp only[aD]at hp
 refine⟨Nat.le_of_ble_eq_true rfl,L0,aj _,?_⟩
 ·unfold ae Tryz.f11
  try unfold o_
  simp only[go_sem,Nat.reduceBEq,Nat.reduceLeDiff,Nat.reduceLT,decide_true,Nat.reduceAdd,Nat.reduceSub,Nat.reduceMul,Int.reduceLE,Int.reduceLT,Int.reduceToNat,Int.reduceNeg,reduceCtorEq]
  all_goals exact cl
@[go_sem] def fQ (a:List Order)(b:List Order)(k_0:Nat)(s_0:Unit):Unit⊕Unit:=(bif(!(((a.getD k_0 (default:Order)).hour==(b.getD k_0 (default:Order)).hour)&&(((a.getD k_0 (default:Order)).index==(b.getD k_0 (default:Order)).index)&&(((a.getD k_0 (default:Order)).litres==(b.getD k_0 (default:Order)).litres)&&((a.getD k_0 (default:Order)).outlet==(b.getD k_0 (default:Order)).outlet)))))then .inl ()else .inr ())
def gQ (a:List Order)(b:List Order)(k_0:Nat)(s_0:Unit):Prop:=(a.length≤ba→(0≤(k_0:Int)∧(k_0:Int) < (b.length:Int)))
def fc (a:List Order)(b:List Order):Bool:=(bif((a.length:Int) !=(b.length:Int))then false else(match aw (fQ a b) a.length 0 ()with| .inl x_0_0=>false| .inr s_0=>true))
def fl (a:List Order)(b:List Order):Prop:=(a.length≤ba→(b.length≤ba→(((a.length:Int) !=(b.length:Int))=false→okI (fQ a b) (gQ a b) a.length 0 ())))
@[go_sem] def jy:List SV→Option Con:=(pR .order fun a=>(pR .order fun b=>(pE (.det (fl a b) (.v (.bool (fc a b)))))))
theorem mJ:FnOk Tryz.prog 16 jy:=by
 have hG:ConsOk Tryz.prog (mkG [] []):=aC cg0 cg0
 refine aI [.o] mixed ax hG (fn:=Tryz.f16) (c:=ae Tryz.f16) (by kernel_rfl) (by kernel_rfl) (by kernel_rfl) (by kernel_rfl) (cg fun a=>(cg fun b=>(aB (fun hp=>?_))))
 dsimp only[aD]at hp
 unfold fl at hp
 refine⟨Nat.le_of_ble_eq_true rfl,(fun id st=>bif Nat.beq id 0 then some (LCR (ρ:=Unit) (σ:=Unit) 0 [] [] (fun k_0 s_0=>⟨[(0,.rs .order a),(1,.rs .order b),(5,.v (.int .i64 (k_0:Int)))],[]⟩) (fQ a b) (gQ a b) a.length () (True) (fun _=>.ret) (fun x_0_0=>⟨[(4,.v (.bool false))],[]⟩) st)else none),?_,?_⟩
 ·unfold ae Tryz.f16
  simp only[az,true_and,and_true]
  ·refine d6 (a.length≤ba) mixed ax hG (by kernel_rfl) (fun _=>rfl) (a.length:Int) rfl g6 (fun hb0 k_0 s_0 hlt0 hq0 hw hc=>⟨L0,aj _,?_⟩) (fun hb0 s_0 hc=>?_) fun hb0 k_0 s_0=>?_
   ·unfold gQ at hq0
    try simp only[hw,Int.toNat_natCast]at hq0
    exact l7
   ·exact l8
   ·simp only[go_sem,Nat.reduceBEq,Nat.reduceLeDiff,Nat.reduceLT,decide_true,Nat.reduceAdd,Nat.reduceSub,Nat.reduceMul,Int.reduceLE,Int.reduceLT,Int.reduceToNat,Int.reduceNeg,reduceCtorEq,hb0]
 ·unfold ae Tryz.f16
  try unfold fc
  simp only[go_sem,Nat.reduceBEq,Nat.reduceLeDiff,Nat.reduceLT,decide_true,Nat.reduceAdd,Nat.reduceSub,Nat.reduceMul,Int.reduceLE,Int.reduceLT,Int.reduceToNat,Int.reduceNeg,reduceCtorEq]
  all_goals exact cl
@[go_sem] def iO (a:List Claim)(b:List Claim)(k_0:Nat)(s_0:Unit):Unit⊕Unit:=(bif(!(((a.getD k_0 (default:Claim)).right==(b.getD k_0 (default:Claim)).right)&&(((a.getD k_0 (default:Claim)).farm==(b.getD k_0 (default:Claim)).farm)&&(((a.getD k_0 (default:Claim)).hour==(b.getD k_0 (default:Claim)).hour)&&(((a.getD k_0 (default:Claim)).litres==(b.getD k_0 (default:Claim)).litres)&&((a.getD k_0 (default:Claim)).rank==(b.getD k_0 (default:Claim)).rank))))))then .inl ()else .inr ())
def gR (a:List Claim)(b:List Claim)(k_0:Nat)(s_0:Unit):Prop:=(a.length≤ba→(0≤(k_0:Int)∧(k_0:Int) < (b.length:Int)))
def k_ (a:List Claim)(b:List Claim):Bool:=(bif((a.length:Int) !=(b.length:Int))then false else(match aw (iO a b) a.length 0 ()with| .inl x_0_0=>false| .inr s_0=>true))
def gw (a:List Claim)(b:List Claim):Prop:=(a.length≤ba→(b.length≤ba→(((a.length:Int) !=(b.length:Int))=false→okI (iO a b) (gR a b) a.length 0 ())))
@[go_sem] def nV:List SV→Option Con:=(pR .claim fun a=>(pR .claim fun b=>(pE (.det (gw a b) (.v (.bool (k_ a b)))))))
theorem sm:FnOk Tryz.prog 19 nV:=by
 have hG:ConsOk Tryz.prog (mkG [] []):=aC cg0 cg0
 refine aI [.o] mixed ax hG (fn:=Tryz.f19) (c:=ae Tryz.f19) (by kernel_rfl) (by kernel_rfl) (by kernel_rfl) (by kernel_rfl) (cg fun a=>(cg fun b=>(aB (fun hp=>?_))))
 dsimp only[aD]at hp
 unfold gw at hp
 refine⟨Nat.le_of_ble_eq_true rfl,(fun id st=>bif Nat.beq id 0 then some (LCR (ρ:=Unit) (σ:=Unit) 0 [] [] (fun k_0 s_0=>⟨[(0,.rs .claim a),(1,.rs .claim b),(5,.v (.int .i64 (k_0:Int)))],[]⟩) (iO a b) (gR a b) a.length () (True) (fun _=>.ret) (fun x_0_0=>⟨[(4,.v (.bool false))],[]⟩) st)else none),?_,?_⟩
 ·unfold ae Tryz.f19
  simp only[az,true_and,and_true]
  ·refine d6 (a.length≤ba) mixed ax hG (by kernel_rfl) (fun _=>rfl) (a.length:Int) rfl g6 (fun hb0 k_0 s_0 hlt0 hq0 hw hc=>⟨L0,aj _,?_⟩) (fun hb0 s_0 hc=>?_) fun hb0 k_0 s_0=>?_
   ·unfold gR at hq0
    try simp only[hw,Int.toNat_natCast]at hq0
    exact l7
   ·exact l8
   ·simp only[go_sem,Nat.reduceBEq,Nat.reduceLeDiff,Nat.reduceLT,decide_true,Nat.reduceAdd,Nat.reduceSub,Nat.reduceMul,Int.reduceLE,Int.reduceLT,Int.reduceToNat,Int.reduceNeg,reduceCtorEq,hb0]
 ·unfold ae Tryz.f19
  try unfold k_
  simp only[go_sem,Nat.reduceBEq,Nat.reduceLeDiff,Nat.reduceLT,decide_true,Nat.reduceAdd,Nat.reduceSub,Nat.reduceMul,Int.reduceLE,Int.reduceLT,Int.reduceToNat,Int.reduceNeg,reduceCtorEq]
  all_goals exact cl
def aW:District:=({ name:=(ByteArray.mk #[]),hours:=8,tank:=({ cap:=60,start:=40}:Tank),reaches:=[({ name:=(ByteArray.mk #[]),up:=(-1),delay:=2,cap:=20,bank:=30,siphon:=5,evap:=({ lo:=0,hi:=3}:Range),seep:=(({ n:=0,d:=1}:Ratio),({ n:=0,d:=1}:Ratio))}:Reach)],farms:=[({ name:=(ByteArray.mk #[]),reach:=0,area:=0,crop:=(-1)}:Farm),({ name:=(ByteArray.mk #[]),reach:=0,area:=0,crop:=(-1)}:Farm)],crops:=[],rights:=[({ name:=(ByteArray.mk #[]),kind:=1,farm:=0,reach:=0,rank:=2,litres:=1,since:=0,to:=7,every:=1,length:=1}:Right),({ name:=(ByteArray.mk #[]),kind:=1,farm:=1,reach:=0,rank:=1,litres:=1,since:=0,to:=7,every:=1,length:=1}:Right)],duties:=[],wells:=[]}:District)
@[go_sem] def sT:List SV→Option Con:=(pE (.det True (.agg (cellsOf .district (aW)))))
theorem zp:FnOk Tryz.prog 30 sT:=by
 have hG:ConsOk Tryz.prog (mkG [] []):=aC cg0 cg0
 refine aI [.st .district] mixed ax hG (fn:=Tryz.f30) (c:=ae Tryz.f30) (by kernel_rfl) (by kernel_rfl) (by kernel_rfl) (by kernel_rfl) (aB (fun hp=>?_))
 dsimp only[aD]at hp
 refine⟨Nat.le_of_ble_eq_true rfl,L0,aj _,?_⟩
 ·unfold ae Tryz.f30
  try unfold aW
  simp only[go_sem,Nat.reduceBEq,Nat.reduceLeDiff,Nat.reduceLT,decide_true,Nat.reduceAdd,Nat.reduceSub,Nat.reduceMul,Int.reduceLE,Int.reduceLT,Int.reduceToNat,Int.reduceNeg,reduceCtorEq]
  all_goals exact cl
def fW:=([({ right:=1,farm:=1,hour:=1,litres:=9,rank:=1}:Claim)])
def dU:=(bE aW fW)
def a8:=(dU.1)
def km:=({ name:=(ByteArray.mk #[]),hours:=0,tank:=({ cap:=0,start:=0}:Tank),reaches:=[],farms:=[],crops:=[],rights:=[],duties:=[],wells:=[]}:District)
def ib:=(aM km ([]))
def cN:=([({ right:=1,farm:=1,hour:=4,litres:=10,rank:=1}:Claim),({ right:=0,farm:=0,hour:=4,litres:=7,rank:=2}:Claim),({ right:=0,farm:=0,hour:=5,litres:=1,rank:=2}:Claim)])
def fX:=(cN.getD 1 (default:Claim))
def df:=(aM aW cN)
def iY:=(df.1)
def fJ:=([({ hour:=2,index:=0,litres:=20,outlet:=false}:Order),({ hour:=3,index:=0,litres:=5,outlet:=false}:Order),({ hour:=4,index:=0,litres:=7,outlet:=true}:Order),({ hour:=4,index:=1,litres:=10,outlet:=true}:Order),({ hour:=5,index:=0,litres:=1,outlet:=true}:Order)])
def iZ:=(fc iY fJ)
def bA:=(cN.set 1 ({ right:=fX.right,farm:=fX.farm,hour:=fX.hour,litres:=8,rank:=fX.rank}:Claim))
def gK:=(bA.length:Int)
def ee:=(bE aW bA)
def gL:=(fb aW bA)
def bf:=(ee.1)
def i7:=(gL.1)
def lH:=([(bA.getD 0 (default:Claim)),(bA.getD 2 (default:Claim))])
def la:Bool:=(bif(((df.2.2 !=0) ||(!df.2.1)) ||(!iZ))then false else(bif((((((ee.2.2 !=0) ||(gL.2 !=0)) ||(dU.2.2 !=0)) ||(ib.2.2 !=191)) ||(!ee.2.1)) ||(!dU.2.1))then false else((((bf.kind==1)&&((bf.hour==2)&&((bf.index==0)&&((bf.litres==21)&&(bf.limit==20)))))&&((a8.kind==7)&&((a8.hour==1)&&((a8.index==0)&&((a8.litres==9)&&(a8.limit==0))))))&&(k_ i7 lH))))
def mU:Prop:=((dl aW cN)∧((((df.2.2 !=0) ||(!df.2.1))=false→(fl iY fJ))∧((((df.2.2 !=0) ||(!df.2.1)) ||(!iZ))=false→((0≤1∧1< (cN.length:Int))∧((eK aW bA)∧((gu aW bA)∧((eK aW fW)∧((dl km ([]))∧(((((((ee.2.2 !=0) ||(gL.2 !=0)) ||(dU.2.2 !=0)) ||(ib.2.2 !=191)) ||(!ee.2.1)) ||(!dU.2.1))=false→(((((bf.kind==1)&&((bf.hour==2)&&((bf.index==0)&&((bf.litres==21)&&(bf.limit==20)))))&&((a8.kind==7)&&((a8.hour==1)&&((a8.index==0)&&((a8.litres==9)&&(a8.limit==0))))))=true→(0≤0∧0<gK))∧(((((bf.kind==1)&&((bf.hour==2)&&((bf.index==0)&&((bf.litres==21)&&(bf.limit==20)))))&&((a8.kind==7)&&((a8.hour==1)&&((a8.index==0)&&((a8.litres==9)&&(a8.limit==0))))))=true→(0≤2∧2<gK))∧((((bf.kind==1)&&((bf.hour==2)&&((bf.index==0)&&((bf.litres==21)&&(bf.limit==20)))))&&((a8.kind==7)&&((a8.hour==1)&&((a8.index==0)&&((a8.litres==9)&&(a8.limit==0))))))=true→(gw i7 lH)))))))))))))
@[go_sem] def uX:List SV→Option Con:=(pE (.det (mU) (.v (.bool (la)))))
theorem Aa:FnOk Tryz.prog 10 uX:=by
 have hG:ConsOk Tryz.prog (mkG [(12,fun l=>kU (ci [.st .district,.sl .claim] l)),(14,fun l=>ka (ci [.st .district,.sl .claim] l)),(16,fun l=>jy (ci [.sl .order,.sl .order] l)),(17,fun l=>nU (ci [.st .district,.sl .claim] l)),(19,fun l=>nV (ci [.sl .claim,.sl .claim] l)),(30,sT)] [(12,gq)]):=aC (cgc (ot.norm [.st .district,.sl .claim]) (cgc (nP.norm [.st .district,.sl .claim]) (cgc (mJ.norm [.sl .order,.sl .order]) (cgc (sj.norm [.st .district,.sl .claim]) (cgc (sm.norm [.sl .claim,.sl .claim]) (cgc zp cg0)))))) (cgc mH cg0)
 refine aI [.o] mixed ax hG (fn:=Tryz.f10) (c:=ae Tryz.f10) (by kernel_rfl) (by kernel_rfl) (by kernel_rfl) (by kernel_rfl) (aB (fun hp=>?_))
 dsimp only[aD]at hp
 unfold mU at hp
 try simp only[fW,dU,a8,km,ib,cN,fX,df,iY,fJ,iZ,bA,gK,ee,gL,bf,i7,lH]at hp
 refine⟨Nat.le_of_ble_eq_true rfl,L0,aj _,?_⟩
 ·unfold ae Tryz.f10
  try unfold la
  simp (maxSteps:=1000000) only[go_sem,Nat.reduceBEq,Nat.reduceLeDiff,Nat.reduceLT,decide_true,Nat.reduceAdd,Nat.reduceSub,Nat.reduceMul,Int.reduceLE,Int.reduceLT,Int.reduceToNat,Int.reduceNeg,reduceCtorEq,fW,dU,a8,km,ib,cN,fX,df,iY,fJ,iZ,bA,gK,ee,gL,bf,i7,lH]
  all_goals exact cl
end Go.Sx
end
section
namespace Go.Sx
open Go.Proofs
set_option maxRecDepth 100000
set_option linter.unusedSimpArgs false
theorem DZ {p:Prop}(h:p:=by(first|done|(repeat' (first|with_reducible refine And.intro ?_ ?_|((with_reducible show _≠_);first|assumption|omega|(simp_all [aZ,bg];done) |grind) |with_reducible intro _)) <;>(first|done|exact Empty.elim ‹Empty› |assumption|rfl|omega|decide|exact fk [0,2] |exact fk [0,1] |exact czl|(simp only[*,cond_true,cond_false,Bool.not_true,Bool.not_false,go_sem,Nat.reduceBEq,Nat.reduceLeDiff,Nat.reduceLT,decide_true,Nat.reduceAdd,Nat.reduceSub,Nat.reduceMul,Int.reduceLE,Int.reduceLT,Int.reduceToNat,Int.reduceNeg,reduceCtorEq];(repeat' (first|with_reducible refine And.intro ?_ ?_|((with_reducible show _≠_);first|assumption|omega|(simp_all [aZ,bg];done) |grind) |with_reducible intro _)) <;>(first|done|assumption|rfl|omega|decide|exact fk [0,2] |exact fk [0,1] |(simp_all [aZ,bg];done))) |(simp_all [okI,aZ,bg];done) |(simp_all [aZ,bg];(first|done|exact fk2 [0,2] |exact fk2 [0,1])) |exact fk2 [0,2] |exact fk2 [0,1]))):p:=h
theorem Ky {p:Prop}(h:p:=by simp only[go_sem,Nat.reduceBEq,Nat.reduceLeDiff,Nat.reduceLT,decide_true,Nat.reduceAdd,Nat.reduceSub,Nat.reduceMul,Int.reduceLE,Int.reduceLT,Int.reduceToNat,Int.reduceNeg,reduceCtorEq,hc,hw];all_goals exact DZ):p:=h
theorem Kz {p:Prop}(h:p:=by simp only[go_sem,Nat.reduceBEq,Nat.reduceLeDiff,Nat.reduceLT,decide_true,Nat.reduceAdd,Nat.reduceSub,Nat.reduceMul,Int.reduceLE,Int.reduceLT,Int.reduceToNat,Int.reduceNeg,reduceCtorEq,hc];all_goals exact DZ):p:=h
theorem KA {p:Prop}(h:p:=by simp only[go_sem,Nat.reduceBEq,Nat.reduceLeDiff,Nat.reduceLT,decide_true,Nat.reduceAdd,Nat.reduceSub,Nat.reduceMul,Int.reduceLE,Int.reduceLT,Int.reduceToNat,Int.reduceNeg,reduceCtorEq,hc,hw];all_goals exact rE):p:=h
theorem KB {p:Prop}(h:p:=by simp only[go_sem,Nat.reduceBEq,Nat.reduceLeDiff,Nat.reduceLT,decide_true,Nat.reduceAdd,Nat.reduceSub,Nat.reduceMul,Int.reduceLE,Int.reduceLT,Int.reduceToNat,Int.reduceNeg,reduceCtorEq,hc];all_goals exact rE):p:=h
def ko (a:Claim)(b:Claim):Bool:=(bif(a.hour !=b.hour)then(decide (a.hour<b.hour))else(bif(a.rank !=b.rank)then(decide (a.rank<b.rank))else(bif(a.right !=b.right)then(decide (a.right<b.right))else(decide (a.farm<b.farm)))))
@[go_sem] def rJ:List SV→Option Con:=(pD .claim fun a=>(pD .claim fun b=>(pE (.det True (.v (.bool (ko a b)))))))
theorem w9:FnOk Tryz.prog 116 rJ:=by
 have hG:ConsOk Tryz.prog (mkG [] []):=aC cg0 cg0
 refine aI [.o] mixed ax hG (fn:=Tryz.f116) (c:=ae Tryz.f116) (by kernel_rfl) (by kernel_rfl) (by kernel_rfl) (by kernel_rfl) (aN fun a=>(aN fun b=>(aB (fun hp=>?_))))
 dsimp only[aD]at hp
 refine⟨Nat.le_of_ble_eq_true rfl,L0,aj _,?_⟩
 ·unfold ae Tryz.f116
  try unfold ko
  simp only[go_sem,Nat.reduceBEq,Nat.reduceLeDiff,Nat.reduceLT,decide_true,Nat.reduceAdd,Nat.reduceSub,Nat.reduceMul,Int.reduceLE,Int.reduceLT,Int.reduceToNat,Int.reduceNeg,reduceCtorEq]
  all_goals exact cl
def jH (a0:District)(a1:Claim):Bool:=(bif((((((((decide (a1.right<0)) ||(decide (a1.right≥(a0.rights.length:Int)))) ||(decide (a1.farm<0))) ||(decide (a1.farm≥(a0.farms.length:Int)))) ||(decide (a1.hour<0))) ||(decide (a1.hour≥a0.hours))) ||(decide (a1.litres<1))) ||(decide (a1.litres > 1073741824)))then false else(((a0.rights.getD (Int.toNat a1.right) (default:Right)).kind==1)&&((a0.rights.getD (Int.toNat a1.right) (default:Right)).rank==a1.rank)))
def oB (a0:District)(a1:Claim):Prop:=(((((((((decide (a1.right<0)) ||(decide (a1.right≥(a0.rights.length:Int)))) ||(decide (a1.farm<0))) ||(decide (a1.farm≥(a0.farms.length:Int)))) ||(decide (a1.hour<0))) ||(decide (a1.hour≥a0.hours))) ||(decide (a1.litres<1))) ||(decide (a1.litres > 1073741824)))=false→((0≤a1.right∧a1.right< (a0.rights.length:Int))∧(((a0.rights.getD (Int.toNat a1.right) (default:Right)).kind==1)=true→(0≤a1.right∧a1.right< (a0.rights.length:Int)))))
@[go_sem] def sU:List SV→Option Con:=(pD .district fun a0=>(pD .claim fun a1=>(pE (.det (oB a0 a1) (.v (.bool (jH a0 a1)))))))
theorem zq:FnOk Tryz.prog 115 sU:=by
 have hG:ConsOk Tryz.prog (mkG [] []):=aC cg0 cg0
 refine aI [.o] mixed ax hG (fn:=Tryz.f115) (c:=ae Tryz.f115) (by kernel_rfl) (by kernel_rfl) (by kernel_rfl) (by kernel_rfl) (aN fun a0=>(aN fun a1=>(aB (fun hp=>?_))))
 dsimp only[aD]at hp
 unfold oB at hp
 refine⟨Nat.le_of_ble_eq_true rfl,L0,aj _,?_⟩
 ·unfold ae Tryz.f115
  try unfold jH
  simp only[go_sem,Nat.reduceBEq,Nat.reduceLeDiff,Nat.reduceLT,decide_true,Nat.reduceAdd,Nat.reduceSub,Nat.reduceMul,Int.reduceLE,Int.reduceLT,Int.reduceToNat,Int.reduceNeg,reduceCtorEq]
  all_goals exact cl
@[go_sem] def eB (d:District)(c:List Claim)(k_0:Nat)(s_0:Unit):Unit⊕Unit:=(bif((!(jH d (c.getD k_0 (default:Claim)))) ||((decide ((k_0:Int) > 0))&&(!(ko (c.getD (Int.toNat (IntKind.i64.wrap ((k_0:Int) - 1))) (default:Claim)) (c.getD k_0 (default:Claim))))))then .inl ()else .inr ())
def ld (d:District)(c:List Claim)(k_0:Nat)(s_0:Unit):Prop:=(c.length≤ba→((oB d (c.getD k_0 (default:Claim)))∧((!(jH d (c.getD k_0 (default:Claim))))=false→((decide ((k_0:Int) > 0))=true→(0≤(IntKind.i64.wrap ((k_0:Int) - 1))∧(IntKind.i64.wrap ((k_0:Int) - 1)) < (c.length:Int))))))
def f_ (d:District)(c:List Claim):Int:=(bif((dJ d) !=0)then(dJ d)else(bif(decide ((c.length:Int) > 4096))then 2 else(match aw (eB d c) c.length 0 ()with| .inl x_0_0=>260| .inr s_0=>0)))
def lI (d:District)(c:List Claim):Prop:=((iX d)∧(((dJ d) !=0)=false→(c.length≤ba→((decide ((c.length:Int) > 4096))=false→okI (eB d c) (ld d c) c.length 0 ()))))
@[go_sem] def sV:List SV→Option Con:=(pD .district fun d=>(pR .claim fun c=>(pE (.det (lI d c) (.v (.int .i64 (f_ d c)))))))
theorem zr:FnOk Tryz.prog 72 sV:=by
 have hG:ConsOk Tryz.prog (mkG [(114,fun l=>oA (ci [.st .district] l)),(115,fun l=>sU (ci [.st .district,.st .claim] l)),(116,rJ)] []):=aC (cgc (rA.norm [.st .district]) (cgc (zq.norm [.st .district,.st .claim]) (cgc w9 cg0))) cg0
 refine aI [.o] mixed ax hG (fn:=Tryz.f72) (c:=ae Tryz.f72) (by kernel_rfl) (by kernel_rfl) (by kernel_rfl) (by kernel_rfl) (aN fun d=>(cg fun c=>(aB (fun hp=>?_))))
 dsimp only[aD]at hp
 unfold lI at hp
 refine⟨Nat.le_of_ble_eq_true rfl,(fun id st=>bif Nat.beq id 0 then some (LCR (ρ:=Unit) (σ:=Unit) 1 [] [0] (fun k_0 s_0=>⟨[(1,.rs .claim c),(2,.ptr 0 0),(6,.v (.int .i64 (k_0:Int)))],[.cells (cellsOf .district d)]⟩) (eB d c) (ld d c) c.length () (True) (fun _=>.ret) (fun x_0_0=>⟨[(4,.v (.int .i64 260))],[.dead]⟩) st)else none),?_,?_⟩
 ·unfold ae Tryz.f72
  simp only[az,true_and,and_true]
  ·refine d6 (c.length≤ba) mixed ax hG (by kernel_rfl) (fun _=>rfl) (c.length:Int) rfl g6 (fun hb0 k_0 s_0 hlt0 hq0 hw hc=>⟨L0,aj _,?_⟩) (fun hb0 s_0 hc=>?_) fun hb0 k_0 s_0=>?_
   ·unfold ld at hq0
    try simp only[hw,Int.toNat_natCast]at hq0
    exact ff
   ·exact fg
   ·simp only[go_sem,Nat.reduceBEq,Nat.reduceLeDiff,Nat.reduceLT,decide_true,Nat.reduceAdd,Nat.reduceSub,Nat.reduceMul,Int.reduceLE,Int.reduceLT,Int.reduceToNat,Int.reduceNeg,reduceCtorEq,hb0]
 ·unfold ae Tryz.f72
  try unfold f_
  simp only[go_sem,Nat.reduceBEq,Nat.reduceLeDiff,Nat.reduceLT,decide_true,Nat.reduceAdd,Nat.reduceSub,Nat.reduceMul,Int.reduceLE,Int.reduceLT,Int.reduceToNat,Int.reduceNeg,reduceCtorEq]
  all_goals exact cl
@[go_sem] def iw (c:List Claim)(farm:Int)(hour:Int)(k_0:Nat)(s_0:Int):Empty⊕Int:=(bif(((c.getD k_0 (default:Claim)).farm==farm)&&((c.getD k_0 (default:Claim)).hour==hour))then .inr (IntKind.i64.wrap (s_0+(c.getD k_0 (default:Claim)).litres))else .inr s_0)
def eX (c:List Claim)(farm:Int)(hour:Int):Int:=(match aw (iw c farm hour) c.length 0 0 with| .inl x=>x.elim| .inr s_0=>s_0)
@[go_sem] def qh:List SV→Option Con:=(pR .claim fun c=>(pI fun farm=>(pI fun hour=>(pE (.det True (.v (.int .i64 (eX c farm hour))))))))
theorem v8:FnOk Tryz.prog 105 qh:=by
 have hG:ConsOk Tryz.prog (mkG [] []):=aC cg0 cg0
 refine aI [.o] mixed ax hG (fn:=Tryz.f105) (c:=ae Tryz.f105) (by kernel_rfl) (by kernel_rfl) (by kernel_rfl) (by kernel_rfl) (cg fun c=>(b8 fun farm=>(b8 fun hour=>(aB (fun hp=>?_)))))
 dsimp only[aD]at hp
 refine⟨Nat.le_of_ble_eq_true rfl,(fun id st=>bif Nat.beq id 0 then some (LCR (ρ:=Empty) (σ:=Int) 0 [] [] (fun k_0 s_0=>⟨[(0,.rs .claim c),(1,.v (.int .i64 farm)),(2,.v (.int .i64 hour)),(7,.v (.int .i64 s_0)),(8,.v (.int .i64 (k_0:Int)))],[]⟩) (iw c farm hour) pT c.length 0 (True) ((·.elim)) ((·.elim)) st)else none),?_,?_⟩
 ·unfold ae Tryz.f105
  simp only[az,true_and,and_true]
  ·refine d6 (c.length≤ba) mixed ax hG (by kernel_rfl) (fun _=>rfl) (c.length:Int) rfl g6 (fun hb0 k_0 s_0 hlt0 _ hw hc=>⟨L0,aj _,?_⟩) (fun hb0 s_0 hc=>?_) fun hb0 k_0 s_0=>?_
   ·exact l7
   ·exact l8
   ·simp only[go_sem,Nat.reduceBEq,Nat.reduceLeDiff,Nat.reduceLT,decide_true,Nat.reduceAdd,Nat.reduceSub,Nat.reduceMul,Int.reduceLE,Int.reduceLT,Int.reduceToNat,Int.reduceNeg,reduceCtorEq,hb0]
 ·unfold ae Tryz.f105
  try unfold eX
  simp only[go_sem,Nat.reduceBEq,Nat.reduceLeDiff,Nat.reduceLT,decide_true,Nat.reduceAdd,Nat.reduceSub,Nat.reduceMul,Int.reduceLE,Int.reduceLT,Int.reduceToNat,Int.reduceNeg,reduceCtorEq]
  all_goals exact cl
@[go_sem] def eb (d:District)(c:List Claim)(k_0:Nat)(k_1:Nat)(s_1:List Order):Empty⊕(List Order):=(bif(decide ((eX c (k_1:Int) (k_0:Int)) > 0))then .inr (s_1++([({ hour:=(k_0:Int),index:=(k_1:Int),litres:=(eX c (k_1:Int) (k_0:Int)),outlet:=true}:Order)]))else .inr s_1)
def gx (d:District)(c:List Claim)(k_0:Nat)(k_1:Nat)(s_1:List Order):Prop:=(d.farms.length≤ba→((decide ((eX c (k_1:Int) (k_0:Int)) > 0))=true→((s_1++([({ hour:=(k_0:Int),index:=(k_1:Int),litres:=(eX c (k_1:Int) (k_0:Int)),outlet:=true}:Order)])).length*32≤eD)))
@[go_sem] def fe (d:District)(c:List Claim)(k_0:Nat)(s_0:List Order):Empty⊕(List Order):=(match aw (eb d c k_0) d.farms.length 0 s_0 with| .inl x=>x.elim| .inr s_1=>.inr s_1)
def jz (d:District)(c:List Claim)(k_0:Nat)(s_0:List Order):Prop:=okI (eb d c k_0) (gx d c k_0) d.farms.length 0 s_0
def ay (d:District)(c:List Claim):List Order:=(bif((c.length:Int) ==0)then []else(match aw (fe d c) (Int.toNat d.hours) 0 ([])with| .inl x=>x.elim| .inr s_0=>s_0))
def eP (d:District)(c:List Claim):Prop:=(c.length≤ba→(((c.length:Int) ==0)=false→((d.hours<9223372036854775808)∧okI (fe d c) (jz d c) (Int.toNat d.hours) 0 ([]))))
@[go_sem] def jk:List SV→Option Con:=(pD .district fun d=>(pR .claim fun c=>(pE (.det (eP d c) (.nw .order (ay d c))))))
theorem lf:FnOk Tryz.prog 59 jk:=by
 have hG:ConsOk Tryz.prog (mkG [(105,fun l=>qh (ci [.sl .claim,.o,.o] l))] []):=aC (cgc (v8.norm [.sl .claim,.o,.o]) cg0) cg0
 refine tz [(.tmp 4,.order)] mixed ax hG (fn:=Tryz.f59) (c:=ae Tryz.f59) (by kernel_rfl) (by kernel_rfl) (by kernel_rfl) (by kernel_rfl) (aN fun d=>(cg fun c=>(aB (fun hp=>?_))))
 dsimp only[aD]at hp
 unfold eP at hp
 refine⟨Nat.le_of_ble_eq_true rfl,(fun id st=>bif Nat.beq id 0 then some (LCR (ρ:=Empty) (σ:=(List Order)) 1 [.slot 5 (.row .order ([]))] [0,1] (fun k_0 s_0=>⟨[(1,.rs .claim c),(2,.ptr 0 0),(5,.os 1),(6,.v (.int .i64 (k_0:Int)))],[.cells (cellsOf .district d),.row .order s_0]⟩) (fe d c) (jz d c) (Int.toNat d.hours) ([]) (d.hours<9223372036854775808) ((·.elim)) ((·.elim)) st)else none),?_,?_⟩
 ·unfold ae Tryz.f59
  simp only[az,true_and,and_true]
  ·refine dy mixed ax hG (by kernel_rfl) (fun _=>rfl) d.hours rfl id (fun hb0 k_0 s_0 hlt0 hq0 hw hc=>⟨(fun id st=>bif Nat.beq id 2 then some (LCR (ρ:=Empty) (σ:=(List Order)) 2 [] [0,1,1] (fun k_1 s_1=>⟨[(1,.rs .claim c),(2,.ptr 0 0),(5,.os 2),(6,.v (.int .i64 (k_0:Int))),(7,.v (.int .i64 (k_1:Int)))],[.cells (cellsOf .district d),.dead,.row .order s_1]⟩) (eb d c k_0) (gx d c k_0) d.farms.length s_0 (True) ((·.elim)) ((·.elim)) st)else none),?_,?_⟩) (fun hb0 s_0 hc=>?_)
   ·simp only[az,true_and,and_true]
    ·refine d6 (d.farms.length≤ba) mixed ax hG (by kernel_rfl) (fun _=>rfl) (d.farms.length:Int) rfl g6 (fun hb1 k_1 s_1 hlt1 hq1 hw hc=>⟨L0,aj _,?_⟩) (fun hb1 s_1 hc=>?_) fun hb1 k_1 s_1=>?_
     ·unfold gx at hq1
      try simp only[hw,Int.toNat_natCast]at hq1
      exact KA
     ·exact KB
     ·simp only[go_sem,Nat.reduceBEq,Nat.reduceLeDiff,Nat.reduceLT,decide_true,Nat.reduceAdd,Nat.reduceSub,Nat.reduceMul,Int.reduceLE,Int.reduceLT,Int.reduceToNat,Int.reduceNeg,reduceCtorEq,hb1]
   ·unfold jz at hq0
    try simp only[hw,Int.toNat_natCast]at hq0
    exact Ky
   ·exact Kz
 ·unfold ae Tryz.f59
  try unfold ay
  simp only[go_sem,Nat.reduceBEq,Nat.reduceLeDiff,Nat.reduceLT,decide_true,Nat.reduceAdd,Nat.reduceSub,Nat.reduceMul,Int.reduceLE,Int.reduceLT,Int.reduceToNat,Int.reduceNeg,reduceCtorEq]
  all_goals exact cl
@[go_sem] def fY (d:District)(c:List Claim)(k_0:Nat)(s_0:Unit):Unit⊕Unit:=(bif(decide (((ay d c).getD k_0 (default:Order)).litres > 1073741824))then .inl ()else .inr ())
def fE (d:District)(c:List Claim):Int:=(bif((f_ d c) !=0)then(f_ d c)else(bif(decide ((IntKind.i64.wrap ((d.reaches.length:Int)*d.hours)) > 1024))then 2 else(match aw (fY d c) ((ay d c).length) 0 ()with| .inl x_0_0=>270| .inr s_0=>0)))
def lJ (d:District)(c:List Claim):Prop:=((lI d c)∧(((f_ d c) !=0)=false→(d.reaches.length≤ba→((decide ((IntKind.i64.wrap ((d.reaches.length:Int)*d.hours)) > 1024))=false→(eP d c)))))
@[go_sem] def sW:List SV→Option Con:=(pD .district fun d=>(pR .claim fun c=>(pE (.det (lJ d c) (.v (.int .i64 (fE d c)))))))
theorem zs:FnOk Tryz.prog 39 sW:=by
 have hG:ConsOk Tryz.prog (mkG [(59,fun l=>jk (ci [.st .district,.sl .claim] l)),(72,fun l=>sV (ci [.st .district,.sl .claim] l))] []):=aC (cgc (lf.norm [.st .district,.sl .claim]) (cgc (zr.norm [.st .district,.sl .claim]) cg0)) cg0
 refine aI [.o] mixed ax hG (fn:=Tryz.f39) (c:=ae Tryz.f39) (by kernel_rfl) (by kernel_rfl) (by kernel_rfl) (by kernel_rfl) (aN fun d=>(cg fun c=>(aB (fun hp=>?_))))
 dsimp only[aD]at hp
 unfold lJ at hp
 refine⟨Nat.le_of_ble_eq_true rfl,(fun id st=>bif Nat.beq id 0 then some (LCR (ρ:=Unit) (σ:=Unit) 2 [] [0,1] (fun k_0 s_0=>⟨[(6,.os 1),(7,.v (.int .i64 (k_0:Int)))],[.dead,.row .order (ay d c)]⟩) (fY d c) pT ((ay d c).length) () (True) (fun _=>.ret) (fun x_0_0=>⟨[(4,.v (.int .i64 270))],[.dead,.dead]⟩) st)else none),?_,?_⟩
 ·unfold ae Tryz.f39
  simp only[az,true_and,and_true]
  ·refine d6 ((ay d c).length≤ba) mixed ax hG (by kernel_rfl) (fun _=>rfl) ((ay d c).length:Int) rfl g6 (fun hb0 k_0 s_0 hlt0 _ hw hc=>⟨L0,aj _,?_⟩) (fun hb0 s_0 hc=>?_) fun hb0 k_0 s_0=>?_
   ·exact uR
   ·exact uS
   ·simp only[go_sem,Nat.reduceBEq,Nat.reduceLeDiff,Nat.reduceLT,decide_true,Nat.reduceAdd,Nat.reduceSub,Nat.reduceMul,Int.reduceLE,Int.reduceLT,Int.reduceToNat,Int.reduceNeg,reduceCtorEq,hb0]
 ·unfold ae Tryz.f39
  try unfold fE
  simp only[go_sem,Nat.reduceBEq,Nat.reduceLeDiff,Nat.reduceLT,decide_true,Nat.reduceAdd,Nat.reduceSub,Nat.reduceMul,Int.reduceLE,Int.reduceLT,Int.reduceToNat,Int.reduceNeg,reduceCtorEq]
  all_goals exact cl
def bG (r:Reach)(wanted:Int):Int×Bool:=(bif(decide (wanted > 1073741824))then(0,false)else((if(dT r wanted).1<r.siphon then r.siphon else(dT r wanted).1),(dT r wanted).2.1))
def ku (r:Reach)(wanted:Int):Prop:=((decide (wanted > 1073741824))=false→(kf r wanted))
@[go_sem] def rK:List SV→Option Con:=(pD .reach fun r=>(pI fun wanted=>(pE (.det (ku r wanted) (.tup [.v (.int .i64 ((bG r wanted).1)),.v (.bool ((bG r wanted).2))])))))
theorem w_:FnOk Tryz.prog 106 rK:=by
 have hG:ConsOk Tryz.prog (mkG [(137,pK)] []):=aC (cgc sQ cg0) cg0
 refine aI [.o,.o] mixed ax hG (fn:=Tryz.f106) (c:=ae Tryz.f106) (by kernel_rfl) (by kernel_rfl) (by kernel_rfl) (by kernel_rfl) (aN fun r=>(b8 fun wanted=>(aB (fun hp=>?_))))
 dsimp only[aD]at hp
 unfold ku at hp
 refine⟨Nat.le_of_ble_eq_true rfl,L0,aj _,?_⟩
 ·unfold ae Tryz.f106
  try unfold bG
  simp only[go_sem,Nat.reduceBEq,Nat.reduceLeDiff,Nat.reduceLT,decide_true,Nat.reduceAdd,Nat.reduceSub,Nat.reduceMul,Int.reduceLE,Int.reduceLT,Int.reduceToNat,Int.reduceNeg,reduceCtorEq]
  all_goals exact cl
end Go.Sx
end
section
namespace Go.Sx
open Go.Proofs
theorem zt {a b c:Int}(h1:a≤b)(h2:b≤c):aH [a,b,c]=true:=by
 have e:aw (bI [a,b,c]) 2 0 ()=.inr ():=d7.2 fun j hj=>by
  rcases(by omega:j=0∨j=1)with rfl|rfl
  ·simp[bI,IntKind.wrap,IntKind.bits,IntKind.signed,Bool.cond_eq_ite];omega
  ·simp[bI,IntKind.wrap,IntKind.bits,IntKind.signed,Bool.cond_eq_ite];omega
 unfold aH
 simp only[List.length_cons,List.length_nil,Nat.zero_add,Nat.reduceAdd,Nat.reduceSub,e]
theorem zu {a b c d:Int}(h1:a≤b)(h2:b≤c)(h3:c≤d):aH [a,b,c,d]=true:=by
 have e:aw (bI [a,b,c,d]) 3 0 ()=.inr ():=d7.2 fun j hj=>by
  rcases(by omega:j=0∨j=1∨j=2)with rfl|rfl|rfl
  ·simp[bI,IntKind.wrap,IntKind.bits,IntKind.signed,Bool.cond_eq_ite];omega
  ·simp[bI,IntKind.wrap,IntKind.bits,IntKind.signed,Bool.cond_eq_ite];omega
  ·simp[bI,IntKind.wrap,IntKind.bits,IntKind.signed,Bool.cond_eq_ite];omega
 unfold aH
 simp only[List.length_cons,List.length_nil,Nat.zero_add,Nat.reduceAdd,Nat.reduceSub,e]
theorem D0 (d:District):br d=0↔(d.reaches.length≤64∧d.farms.length≤600∧d.crops.length≤32∧d.rights.length≤256∧d.duties.length≤256)∧(1≤d.hours∧d.hours≤4096)∧(0≤d.tank.start∧d.tank.start≤d.tank.cap∧d.tank.cap≤1099511627776)∧0<d.reaches.length∧
  (∀ k,k<d.reaches.length→cy d 191 k ()=.inr ())∧(∀ k,k<d.crops.length→c7 d 191 k ()=.inr ())∧(∀ k,k<d.farms.length→cA d 191 k ()=.inr ())∧(∀ k,k<d.rights.length→du d 191 k ()=.inr ())∧(∀ k,k<d.duties.length→dv d 191 k ()=.inr ()):=by
 have hx:c8 d 191=true↔(1≤d.hours∧d.hours≤4096)∧(0≤d.tank.start∧d.tank.start≤d.tank.cap∧d.tank.cap≤1099511627776)∧0<d.reaches.length∧
  (∀ k,k<d.reaches.length→cy d 191 k ()=.inr ())∧(∀ k,k<d.crops.length→c7 d 191 k ()=.inr ())∧(∀ k,k<d.farms.length→cA d 191 k ()=.inr ())∧(∀ k,k<d.rights.length→du d 191 k ()=.inr ())∧(∀ k,k<d.duties.length→dv d 191 k ()=.inr ()):=by
  unfold c8
  simp only[fz]
  cases h3:(aH [1,d.hours,4096]&&aH [0,d.tank.start,d.tank.cap,1099511627776]&&decide ((d.reaches.length:Int) > 0))with
  |false=>
   simp only[cond_false,Bool.false_eq_true,false_iff]
   rintro⟨⟨a1,a2⟩,⟨a3,a4,a5⟩,a6,_⟩
   rw[zt a1 a2,zu a3 a4 a5,decide_eq_true (by omega:(d.reaches.length:Int) > 0)]at h3
   cases h3
  |true=>
   simp only[Bool.and_eq_true,decide_eq_true_eq]at h3
   have b1:=uw h3.1.1
   have b2:=oi h3.1.2
   have b3:=h3.2
   simp only[cond_true]
   rw[←d7,←d7,←d7,←d7,←d7]
   repeat' split
   all_goals (rename_i e;first|simp_all;done|skip)
   all_goals simp_all
   all_goals omega
 unfold br
 simp only[fz]
 rw[←hx]
 cases h1:(((((decide ((d.reaches.length:Int)≤64))&&(decide ((d.farms.length:Int)≤600)))&&(decide ((d.crops.length:Int)≤32)))&&(decide ((d.rights.length:Int)≤256)))&&(decide ((d.duties.length:Int)≤256)))with
 |false=>
  simp only[cond_false]
  simp only[Bool.and_eq_false_iff,decide_eq_false_iff_not]at h1
  omega
 |true=>
  simp only[Bool.and_eq_true,decide_eq_true_eq]at h1
  cases c8 d 191 <;>simp <;>omega
theorem D1:∀ (f n d:Nat),1≤d→d≤f→1≤n→∀ x,(vE f n d).getLastD x=Nat.gcd n d
 |0,n,d,h1,h2,_,x=>by omega
 |f+1,n,d,h1,h2,h3,x=>by
  unfold vE
  have hm:max d 1=d:=by omega
  rw[if_neg (by omega),hm]
  by_cases h0:n % d=0
  ·rw[if_pos h0]
   have:d ∣ n:=Nat.dvd_of_mod_eq_zero h0
   rw[Nat.gcd_eq_right this]
   rfl
  ·rw[if_neg h0]
   have hlt:n % d<d:=Nat.mod_lt _ (by omega)
   have ih:=D1 f d (n % d) (by omega) (by omega) (by omega) n
   have e:Nat.gcd n d=Nat.gcd d (n % d):=by rw[Nat.gcd_comm n d,Nat.gcd_rec d n,Nat.gcd_comm]
   rw[e,←ih,List.getLastD_cons]
theorem KC {n d:Nat}(h:1≤d):HL n d=Nat.gcd n d:=by
 unfold HL
 rw[if_neg (by omega)]
 by_cases h0:n=0
 ·subst h0
  cases d with
  |zero=>omega
  |succ d=>simp[vE]
 ·exact D1 d n d h (Nat.le_refl _) (by omega) d
theorem Cc (b0:Int):∀ (n i:Nat) (a b:Int),0≤a→0≤b→b.toNat<n→aw (e_ b0) n i (a,b)=.inl ((Nat.gcd a.toNat b.toNat:Nat):Int)
 |0,_,_,_,_,_,h=>by omega
 |n+1,i,a,b,ha,hb,h=>by
  simp only[aw,e_]
  by_cases h0:b > 0
  ·rw[decide_eq_true h0]
   simp only[cond_true]
   have e1:=Int.tmod_eq_emod_of_nonneg (b:=b) ha
   have e2:=Int.emod_nonneg a (by omega:b≠0)
   have e3:=Int.emod_lt_of_pos a h0
   rw[e1,Cc b0 n (i+1) b (a % b) hb e2 (by omega)]
   have e4:(a % b).toNat=a.toNat % b.toNat:=by
    obtain⟨x,rfl⟩:=Int.eq_ofNat_of_zero_le ha
    obtain⟨y,rfl⟩:=Int.eq_ofNat_of_zero_le hb
    simp only[←Int.natCast_emod,Int.toNat_natCast]
   rw[e4,Nat.gcd_comm a.toNat b.toNat,Nat.gcd_rec b.toNat a.toNat,Nat.gcd_comm]
  ·rw[decide_eq_false h0]
   have:b=0:=by omega
   subst this
   simp only[cond_false,Int.toNat_zero,Nat.gcd_zero_right]
   rw[Int.toNat_of_nonneg ha]
theorem wE {a b:Int}(ha:0≤a)(hb:0≤b):iV a b=((Nat.gcd a.toNat b.toNat:Nat):Int):=by
 unfold iV
 rw[Cc b _ 0 a b ha hb (by omega)]
theorem H3 {a b:Int}(ha:0≤a)(hb:0≤b):je a b:=by
 refine⟨ja _ _ _ fun j s _ _ h=>?_,fun z h=>?_⟩
 ·simp only[decide_eq_true_eq]at h;omega
 ·rw[Cc b _ 0 a b ha hb (by omega)]at h;cases h
theorem N_ {n:Int}(h0:0≤n)(h1:n<18446744073709551616):IntKind.u64.wrap n=n:=by
 simp only[IntKind.wrap,IntKind.bits,IntKind.signed];simp;omega
theorem Ab {n:Int}(h0: -1073741824≤n)(h1:n≤1073741824):dW n=(n.natAbs:Int):=by
 unfold dW
 by_cases h:n<0
 ·rw[decide_eq_true h]
  simp only[cond_true,IntKind.wrap,IntKind.bits,IntKind.signed]
  simp
  omega
 ·rw[decide_eq_false h]
  simp only[cond_false]
  rw[N_ (by omega) (by omega)];omega
theorem zv {n:Int}(h0: -1073741824≤n)(h1:n≤1073741824):kV n=(n.natAbs:Int):=by
 unfold kV
 by_cases h:n<0
 ·rw[decide_eq_true h]
  simp only[cond_true]
  rw[bu (by omega) (by omega)];omega
 ·rw[decide_eq_false h]
  simp only[cond_false]
  omega
structure RatioOk (a:Ratio):Prop where
 d1:1≤a.d
 d:a.d≤1073741824
 n0: -1073741824≤a.n
 n:a.n≤1073741824
 gcd:Nat.gcd a.n.natAbs a.d.toNat=1
theorem pa (a:Ratio):aX a=0↔RatioOk a:=by
 unfold aX
 cases h:((((decide (a.d<1)) ||(decide (a.d > 1073741824))) ||(decide (a.n< (-1073741824)))) ||(decide (a.n > 1073741824)))with
 |true=>
  simp only[Bool.true_or,cond_true]
  simp only[Bool.or_eq_true,decide_eq_true_eq]at h
  refine⟨fun e=>(by cases e),fun r=>?_⟩
  have:=r.d1;have:=r.d;have:=r.n0;have:=r.n
  omega
 |false=>
  simp only[Bool.or_eq_false_iff,decide_eq_false_iff_not]at h
  rw[Ab (by omega) (by omega),N_ (by omega) (by omega),Int.toNat_natCast,KC (by omega)]
  simp only[Bool.false_or]
  by_cases hg:Nat.gcd a.n.natAbs a.d.toNat=1
  ·rw[hg]
   exact⟨fun _=>⟨by omega,by omega,by omega,by omega,hg⟩,fun _=>rfl⟩
  ·have:((Nat.gcd a.n.natAbs a.d.toNat:Nat):Int)≠1:=by omega
   rw[bne_iff_ne.2 this]
   exact⟨fun e=>(by cases e),fun r=>absurd r.gcd hg⟩
theorem pb (a:Ratio):dX a=true↔RatioOk a:=by
 unfold dX
 constructor
 ·intro h
  simp only[Bool.and_eq_true,decide_eq_true_eq,beq_iff_eq]at h
  obtain⟨⟨⟨⟨h1,h2⟩,h3⟩,h4⟩,h5⟩:=h
  rw[zv (by omega) (by omega),wE (by omega) (by omega),Int.toNat_natCast]at h5
  exact⟨h1,h2,h3,h4,by omega⟩
 ·intro r
  have:=r.d1;have:=r.d;have:=r.n0;have:=r.n
  simp only[Bool.and_eq_true,decide_eq_true_eq,beq_iff_eq]
  rw[zv (by omega) (by omega),wE (by omega) (by omega),Int.toNat_natCast,r.gcd]
  exact⟨⟨⟨⟨by omega,by omega⟩,by omega⟩,by omega⟩,rfl⟩
theorem KD (a:Ratio):aX a=0∨aX a=120:=by
 unfold aX;rw[Bool.cond_eq_ite];split <;>simp
theorem D2 (a:Ratio):aX a=fC a:=by
 unfold fC
 cases h:dX a with
 |true=>exact(pa a).2 ((pb a).1 h)
 |false=>
  have:aX a≠0:=fun e=>by
   have:=(pb a).2 ((pa a).1 e)
   rw[h]at this;cases this
  have:=KD a
  simp only[Bool.not_false,cond_true]
  omega
theorem pc (a:Ratio):dX a=(aX a==0):=by
 cases h:dX a with
 |true=>rw[(pa a).2 ((pb a).1 h)];rfl
 |false=>
  have:aX a≠0:=fun e=>by
   have:=(pb a).2 ((pa a).1 e)
   rw[h]at this;cases this
  simp[this]
theorem KE (a b:Ratio):eG a b=jF a b:=by
 unfold eG jF kW gj
 rw[pc,pc,fw]
 generalize IntKind.i64.wrap (a.n*b.d)=x
 generalize IntKind.i64.wrap (b.n*a.d)=y
 cases h1:(aX a==0) <;>cases h2:(aX b==0) <;>simp[bne,h1,h2,Bool.cond_eq_ite]
 split
 ·rfl
 ·split <;>rfl
theorem sd (a:Ratio):fG a:=fun h=>by
 simp only[Bool.and_eq_true,decide_eq_true_eq]at h
 rw[zv (by omega) (by omega)]
 exact H3 (by omega) (by omega)
theorem P9 (a b:Ratio):mR a b:=⟨sd a,fun _=>sd b⟩
theorem nc (a b c:Int):aH [a,b,c]=(decide (a≤b)&&decide (b≤c)):=by
 cases h:aH [a,b,c]with
 |true=>have:=uw h;simp[this.1,this.2]
 |false=>
  by_cases h1:a≤b
  ·by_cases h2:b≤c
   ·rw[zt h1 h2]at h;cases h
   ·simp[h2]
  ·simp[h1]
theorem pd (a b c d:Int):aH [a,b,c,d]=(decide (a≤b)&&decide (b≤c)&&decide (c≤d)):=by
 cases h:aH [a,b,c,d]with
 |true=>have:=oi h;simp[this.1,this.2.1,this.2.2]
 |false=>
  by_cases h1:a≤b
  ·by_cases h2:b≤c
   ·by_cases h3:c≤d
    ·rw[zu h1 h2 h3]at h;cases h
    ·simp[h3]
   ·simp[h2]
  ·simp[h1]
theorem KF (x:Ratio×Ratio):eS x=ed x:=by
 unfold eS ed
 rw[KE,←D2,←D2]
 unfold jF kW
 rw[pc,pc]
 cases h1:(aX x.1==0) <;>cases h2:(aX x.2==0) <;>simp[bne,h1,h2,Bool.cond_eq_ite]
 repeat' split
 all_goals simp
theorem FH (i:Int)(x:Reach):aU i x=true↔((i > 0∧0≤x.up∧x.up<i)∨(¬i > 0∧x.up= -1))∧(1≤x.delay∧x.delay≤16)∧(0≤x.siphon∧x.siphon≤x.cap∧x.cap≤1073741824)∧(x.siphon≤x.bank∧x.bank≤1099511627776)∧(0≤x.evap.lo∧x.evap.lo≤x.evap.hi∧x.evap.hi≤1073741824)∧ed x.seep=true:=by
 unfold aU bX
 rw[KF,nc,pd,pd,pd]
 generalize ed x.seep=q
 by_cases h:i > 0
 ·rw[decide_eq_true h]
  simp only[cond_true,Bool.and_eq_true,decide_eq_true_eq]
  cases q <;>simp only[Bool.false_eq_true,and_false,and_true] <;>omega
 ·rw[decide_eq_false h]
  simp only[cond_false,Bool.and_eq_true,decide_eq_true_eq,beq_iff_eq]
  cases q <;>simp only[Bool.false_eq_true,and_false,and_true] <;>omega
theorem P_ (x:Reach):mc x=true↔(1≤x.delay∧x.delay≤16)∧(0≤x.siphon∧x.siphon≤x.cap∧x.cap≤1073741824)∧(x.siphon≤x.bank∧x.bank≤1099511627776)∧(0≤x.evap.lo∧x.evap.lo≤x.evap.hi∧x.evap.hi≤1073741824)∧ed x.seep=true:=by
 unfold mc aL
 generalize ed x.seep=q
 have hb:∀ (A B:Bool) (q:Bool),(bif A then false else bif B then false else q)=true↔A=false∧B=false∧q=true:=fun A B q=>by cases A <;>cases B <;>simp
 rw[hb]
 simp only[Bool.or_eq_false_iff,Bool.not_eq_false',Bool.and_eq_true,decide_eq_true_eq,decide_eq_false_iff_not]
 by_cases h:x.bank<x.cap
 ·rw[if_pos h];cases q <;>simp only[Bool.false_eq_true,and_false,and_true] <;>omega
 ·rw[if_neg h];cases q <;>simp only[Bool.false_eq_true,and_false,and_true] <;>omega
theorem zw (l:List Reach)(k:Nat)(hk:k<4096):fa l k ()=.inr ()↔aU (k:Int) (l.getD k default)=true:=by
 unfold fa aL
 rw[FH]
 have hb:∀ A B:Bool,((bif A then Sum.inl ()else bif B then Sum.inl ()else Sum.inr ()):Unit⊕Unit)=.inr ()↔A=false∧B=false:=fun A B=>by cases A <;>cases B <;>simp
 rw[hb,Bool.not_eq_false',P_]
 generalize l.getD k default=x
 generalize ed x.seep=q
 by_cases h:0<k
 ·rw[kP (by omega) h]
  simp only[Bool.or_eq_false_iff,Bool.and_eq_false_iff,Bool.not_eq_false',Bool.and_eq_true,decide_eq_true_eq,decide_eq_false_iff_not,beq_eq_false_iff_ne,bne_eq_false_iff_eq]
  cases q <;>simp only[Bool.false_eq_true,and_false,and_true] <;>omega
 ·have:k=0:=by omega
  subst this
  simp only[Bool.or_eq_false_iff,Bool.and_eq_false_iff,Bool.not_eq_false',Bool.and_eq_true,decide_eq_true_eq,decide_eq_false_iff_not,beq_eq_false_iff_ne,bne_eq_false_iff_eq]
  cases q <;>simp only[Bool.false_eq_true,and_false,and_true] <;>omega
theorem H4 {n:Nat}(h:n≤4096):IntKind.i64.wrap ((n:Int) - 1)=(n:Int) - 1:=bu (by omega) (by omega)
theorem Nb (x:ByteArray):(x==x)=true:=by
 cases x with
 |mk d=>
  show(d==d)=true
  simp
theorem KG (d:District)(x:Right)(h1:d.farms.length≤600)(h2:d.reaches.length≤64)(h3:1≤d.hours)(h4:d.hours≤4096):jV d x=mg d x:=by
 unfold jV mg bX aL
 rw[pd,nc,nc,pd,H4 (by omega),H4 (by omega),bu (by omega: -9223372036854775808≤d.hours - 1) (by omega)]
 rw[Nb]
 refine J8 ?_
 have hb:∀ (A q:Bool),(bif A then false else q)=true↔A=false∧q=true:=fun A q=>by cases A <;>simp
 rw[hb,hb]
 have hc:∀ (k1 k2 k3 a b c:Bool),(bif k1 then a else bif k2 then b else bif k3 then c else false)=true↔(k1=true∧a=true)∨(k1=false∧k2=true∧b=true)∨(k1=false∧k2=false∧k3=true∧c=true):=fun k1 k2 k3 a b c=>by cases k1 <;>cases k2 <;>cases k3 <;>simp
 rw[hc,hc]
 simp only[Bool.or_eq_false_iff,Bool.and_eq_true,Bool.not_eq_false',decide_eq_true_eq,decide_eq_false_iff_not,beq_iff_eq,beq_eq_false_iff_ne,and_true,true_and]
 omega
theorem ux (A:Bool):((bif A then Sum.inr ()else Sum.inl ()):Unit⊕Unit)=.inr ()↔A=true:=by cases A <;>simp
theorem uy (A:Bool):((bif A then Sum.inl ()else Sum.inr ()):Unit⊕Unit)=.inr ()↔A=false:=by cases A <;>simp
theorem A0 (d:District)(k:Nat):g9 d k ()=.inr ()↔c7 d 191 k ()=.inr ():=by
 unfold g9 c7 aL
 rw[fz,uy,ux,nc]
 simp only[Bool.not_eq_false',Bool.and_eq_true,decide_eq_true_eq,ge_iff_le]
theorem A1 (d:District)(k:Nat)(h1:d.reaches.length≤64)(h2:d.crops.length≤32):g_ d k ()=.inr ()↔cA d 191 k ()=.inr ():=by
 unfold g_ cA aL bX
 simp only[fz]
 rw[nc,H4 (by omega),H4 (by omega)]
 generalize d.farms.getD k default=x
 have hb:∀ A B:Bool,((bif A then Sum.inl ()else bif B then Sum.inl ()else Sum.inr ()):Unit⊕Unit)=.inr ()↔A=false∧B=false:=fun A B=>by cases A <;>cases B <;>simp
 rw[hb]
 by_cases h:x.area > 0
 ·rw[decide_eq_true h]
  simp only[Bool.true_and,Bool.false_and,Bool.or_false,cond_true,ux,Bool.or_eq_false_iff,Bool.and_eq_false_iff,Bool.not_eq_false',Bool.and_eq_true,decide_eq_true_eq,decide_eq_false_iff_not,beq_eq_false_iff_ne,bne_eq_false_iff_eq]
  omega
 ·rw[decide_eq_false h]
  simp only[Bool.true_and,Bool.false_and,Bool.or_false,cond_false,ux,Bool.or_eq_false_iff,Bool.and_eq_false_iff,Bool.not_eq_false',Bool.and_eq_true,decide_eq_true_eq,decide_eq_false_iff_not,beq_eq_false_iff_ne,bne_eq_false_iff_eq,beq_iff_eq]
  omega
theorem A2 (d:District)(k:Nat)(h1:d.reaches.length≤64)(h2:d.farms.length≤600):hU d k ()=.inr ()↔dv d 191 k ()=.inr ():=by
 unfold hU dv aL bX
 simp only[fz]
 rw[nc,H4 (by omega),H4 (by omega),ux,uy]
 simp only[Bool.or_eq_false_iff,Bool.not_eq_false',Bool.and_eq_true,decide_eq_true_eq]
 omega
theorem wG (d:District)(k:Nat)(h1:d.farms.length≤600)(h2:d.reaches.length≤64)(h3:1≤d.hours)(h4:d.hours≤4096):hM d k ()=.inr ()↔du d 191 k ()=.inr ():=by
 unfold hM du
 rw[fz,KG d _ h1 h2 h3 h4,ux,uy,Bool.not_eq_false']
theorem m1 {r:Unit⊕Unit}{a b:Bool}:(match r with| .inl _=>a| .inr _=>b)=true↔(r=.inr ()∧b=true)∨((∃ y,r=.inl y)∧a=true):=by
 cases r with
 |inl y=>simp
 |inr y=>simp
theorem D3 (d:District)(h1:d.reaches.length≤64)(h2:d.farms.length≤600)(h3:d.crops.length≤32):jG d=true↔(1≤d.hours∧d.hours≤4096)∧(0≤d.tank.start∧d.tank.start≤d.tank.cap∧d.tank.cap≤1099511627776)∧0<d.reaches.length∧
  (∀ k,k<d.reaches.length→cy d 191 k ()=.inr ())∧(∀ k,k<d.crops.length→c7 d 191 k ()=.inr ())∧(∀ k,k<d.farms.length→cA d 191 k ()=.inr ())∧(∀ k,k<d.rights.length→du d 191 k ()=.inr ())∧(∀ k,k<d.duties.length→dv d 191 k ()=.inr ()):=by
 have hR:iW d.reaches=true↔(∀ k,k<d.reaches.length→cy d 191 k ()=.inr ())∧0<d.reaches.length:=by
  unfold iW
  refine Iff.trans (m1 (r:=aw (fa d.reaches) d.reaches.length 0 ()) (a:=false) (b:=decide ((d.reaches.length:Int) > 0))) ?_
  simp only[Bool.false_eq_true,and_false,or_false,decide_eq_true_eq]
  rw[d7]
  refine and_congr ⟨fun h k hk=>?_,fun h k hk=>?_⟩ (by omega)
  ·unfold cy
   rw[fz,ux]
   exact(zw _ k (by omega)).1 (h k hk)
  ·have:=h k hk
   unfold cy at this
   rw[fz,ux]at this
   exact(zw _ k (by omega)).2 this
 have hF:mf d=true↔(∀ k,k<d.crops.length→c7 d 191 k ()=.inr ())∧(∀ k,k<d.farms.length→cA d 191 k ()=.inr ()):=by
  unfold mf
  refine Iff.trans (m1 (r:=aw (g9 d) d.crops.length 0 ()) (a:=false) (b:=match aw (g_ d) d.farms.length 0 ()with| .inl _=>false| .inr _=>true)) ?_
  simp only[Bool.false_eq_true,and_false,or_false]
  rw[d7]
  refine Iff.trans (and_congr_right fun _=>m1) ?_
  simp only[Bool.false_eq_true,and_false,or_false,and_true]
  rw[d7]
  exact and_congr ⟨fun h k hk=>(A0 d k).1 (h k hk),fun h k hk=>(A0 d k).2 (h k hk)⟩ ⟨fun h k hk=>(A1 d k h1 h3).1 (h k hk),fun h k hk=>(A1 d k h1 h3).2 (h k hk)⟩
 unfold jG
 have hb:∀ A B q:Bool,(bif A then false else bif B then false else q)=true↔A=false∧B=false∧q=true:=fun A B q=>by cases A <;>cases B <;>simp
 rw[hb]
 refine Iff.trans (and_congr_right fun _=>and_congr_right fun _=>Iff.trans (m1 (r:=aw (hM d) d.rights.length 0 ()) (a:=false) (b:=match aw (hU d) d.duties.length 0 ()with| .inl _=>false| .inr _=>true)) (or_congr_left (and_congr_right fun _=>m1))) ?_
 simp only[Bool.false_eq_true,and_false,or_false,and_true]
 rw[d7,d7]
 simp only[Bool.or_eq_false_iff,Bool.not_eq_false',hR,hF,aL,Bool.and_eq_true,decide_eq_true_eq,decide_eq_false_iff_not]
 constructor
 ·rintro⟨⟨⟨a1,a2⟩,a3⟩,⟨⟨b1,b2⟩,b3,b4⟩,b5,b6⟩
  refine⟨by omega,by omega,b2,b1,b3,b4,fun k hk=>(wG d k h2 h1 (by omega) (by omega)).1 (b5 k hk),fun k hk=>(A2 d k h1 h2).1 (b6 k hk)⟩
 ·rintro⟨a1,a2,a3,b1,b2,b3,b4,b5⟩
  refine⟨⟨⟨by omega,by omega⟩,by omega⟩,⟨⟨b1,a3⟩,b2,b3⟩,fun k hk=>(wG d k h2 h1 (by omega) (by omega)).2 (b4 k hk),fun k hk=>(A2 d k h1 h2).2 (b5 k hk)⟩
theorem zx (d:District):br d=dJ d:=by
 have hs:=D0 d
 unfold dJ
 by_cases hl:d.reaches.length≤64∧d.farms.length≤600∧d.crops.length≤32∧d.rights.length≤256∧d.duties.length≤256
 ·have e1:(((((decide ((d.reaches.length:Int) > 64)) ||(decide ((d.farms.length:Int) > 600))) ||(decide ((d.crops.length:Int) > 32))) ||(decide ((d.rights.length:Int) > 256))) ||(decide ((d.duties.length:Int) > 256)))=false:=by
   simp only[Bool.or_eq_false_iff,decide_eq_false_iff_not];omega
  rw[e1]
  simp only[cond_false]
  have hv:=D3 d hl.1 hl.2.1 hl.2.2.1
  cases h:jG d with
  |true=>exact hs.2 ⟨hl,hv.1 h⟩
  |false=>
   have h0:br d≠0:=fun e=>by
    have:=hv.2 (hs.1 e).2
    rw[h]at this;cases this
   unfold br at h0 ⊢
   simp only[fz]at h0 ⊢
   have e2:(((((decide ((d.reaches.length:Int)≤64))&&(decide ((d.farms.length:Int)≤600)))&&(decide ((d.crops.length:Int)≤32)))&&(decide ((d.rights.length:Int)≤256)))&&(decide ((d.duties.length:Int)≤256)))=true:=by
    simp only[Bool.and_eq_true,decide_eq_true_eq];omega
   rw[e2]at h0 ⊢
   simp only[cond_true]at h0 ⊢
   cases hx:c8 d 191 with
   |true=>rw[hx]at h0;simp at h0
   |false=>rfl
 ·have e1:(((((decide ((d.reaches.length:Int) > 64)) ||(decide ((d.farms.length:Int) > 600))) ||(decide ((d.crops.length:Int) > 32))) ||(decide ((d.rights.length:Int) > 256))) ||(decide ((d.duties.length:Int) > 256)))=true:=by
   simp only[Bool.or_eq_true,decide_eq_true_eq];omega
  rw[e1]
  unfold br
  simp only[fz]
  have e2:(((((decide ((d.reaches.length:Int)≤64))&&(decide ((d.farms.length:Int)≤600)))&&(decide ((d.crops.length:Int)≤32)))&&(decide ((d.rights.length:Int)≤256)))&&(decide ((d.duties.length:Int)≤256)))=false:=by
   simp only[Bool.and_eq_false_iff,decide_eq_false_iff_not];omega
  rw[e2]
  rfl
theorem KH (x:Ratio×Ratio):kc x:=⟨sd _,fun _=>sd _,fun _=>P9 _ _⟩
theorem Nc (x:Reach):lB x:=fun _ _=>KH _
theorem H5 (d:District):lC d:=fun _=>ja _ _ _ fun _ _ _ _ _ _=>Nc _
theorem A3 (d:District):iX d:=fun _ _=>H5 d
theorem tE (a b:Order):cJ a b=true↔olt a b:=by
 unfold cJ olt nX
 have hb:∀ (A B x y z:Bool),(bif A then x else bif B then y else z)=true↔(A=true∧x=true)∨(A=false∧B=true∧y=true)∨(A=false∧B=false∧z=true):=fun A B x y z=>by cases A <;>cases B <;>simp
 rw[hb]
 cases a.outlet <;>cases b.outlet <;>simp only[bne_iff_ne,bne_eq_false_iff_eq,decide_eq_true_eq,cond_true,cond_false,ne_eq,bne_self_eq_false,Bool.false_eq_true,Bool.true_eq_false,and_false,false_and,or_false,false_or,and_true,true_and,Bool.bne_true,Bool.bne_false,Bool.not_true,Bool.not_false] <;>omega
theorem zy (d:District)(l:List Order)(k:Nat)(hk:k<4096):co d l k ()=.inr ()↔ew d l k ()=.inr ():=by
 unfold co ew mh
 rw[uy]
 have hb:∀ c A B:Bool,((bif c then(bif A then Sum.inl ()else Sum.inr ())else(bif B then Sum.inl ()else Sum.inr ())):Unit⊕Unit)=.inr ()↔(c=true∧A=false)∨(c=false∧B=false):=fun c A B=>by cases c <;>cases A <;>cases B <;>simp
 have hc:∀ A q Z:Bool,((!(bif A then false else q)) ||Z)=false↔A=false∧q=true∧Z=false:=fun A q Z=>by cases A <;>cases q <;>simp
 have hd:∀ c x y:Bool,(bif c then x else y)=true↔(c=true∧x=true)∨(c=false∧y=true):=fun c x y=>by cases c <;>simp
 rw[hb,hc,hd]
 have hw:(decide ((k:Int) > 0)&&decide (aG (l.getD (IntKind.i64.wrap ((k:Int) - 1)).toNat default) (l.getD k default)≥0))=false↔(decide ((k:Int) > 0)&& !cJ (l.getD (IntKind.i64.wrap ((k:Int) - 1)).toNat default) (l.getD k default))=false:=by
  have h1:=AM (l.getD (IntKind.i64.wrap ((k:Int) - 1)).toNat default) (l.getD k default)
  have h2:=tE (l.getD (IntKind.i64.wrap ((k:Int) - 1)).toNat default) (l.getD k default)
  rw[Bool.and_eq_false_iff,Bool.and_eq_false_iff,Bool.not_eq_false',h2,←h1,decide_eq_false_iff_not,decide_eq_false_iff_not]
  omega
 simp only[Bool.or_eq_false_iff (y:=(decide ((k:Int) > 0)&&_)),hw]
 generalize (decide ((k:Int) > 0)&& !cJ (l.getD (IntKind.i64.wrap ((k:Int) - 1)).toNat default) (l.getD k default))=q
 generalize l.getD k default=x
 simp only[Bool.or_eq_false_iff,decide_eq_false_iff_not,decide_eq_true_eq]
 cases q <;>cases x.outlet <;>simp only[Bool.false_eq_true,Bool.true_eq_false,and_false,false_and,or_false,false_or,and_true,true_and] <;>omega
theorem KI (d:District)(l:List Order):bw d l=0↔eV d l=0:=by
 rw[ox,zx]
 unfold eV
 cases h1:(dJ d !=0)with
 |true=>simp at h1;simp[h1]
 |false=>
  simp at h1
  simp only[cond_false,h1,true_and]
  cases h2:decide ((l.length:Int) > 4096)with
  |true=>simp at h2;simp;omega
  |false=>
   simp at h2
   have e:(∀ k,k<l.length→co d l k ()=.inr ())↔∀ k,k<l.length→ew d l k ()=.inr ():=
    ⟨fun h k hk=>(zy d l k (by omega)).1 (h k hk),fun h k hk=>(zy d l k (by omega)).2 (h k hk)⟩
   rw[e,←d7]
   cases h3:aw (ew d l) l.length 0 ()with
   |inl y=>simp
   |inr y=>simp;omega
theorem pe (d:District)(l:List Order):lG d l:=⟨A3 d,fun _ _ h2=>ja _ _ _ fun j s h3 h4=>fun _ _ h5=>by
 simp only[decide_eq_true_eq,decide_eq_false_iff_not]at h2 h5
 rw[bu (by omega) (by omega)];omega⟩
theorem H6 {a d p:Int}(hd:0<d)(h1:d*p≤a)(h2:a<d*p+d):a / d=p:=by
 have h3:=Int.mul_ediv_add_emod a d
 have h4:=Int.emod_nonneg a (by omega:d≠0)
 have h5:=Int.emod_lt_of_pos a hd
 rcases Int.lt_trichotomy (a / d) p with h|h|h
 ·have:=Int.mul_le_mul_of_nonneg_left (by omega:a / d+1≤p) (by omega:0≤d)
  rw[Int.mul_add,Int.mul_one]at this
  omega
 ·exact h
 ·have:=Int.mul_le_mul_of_nonneg_left (by omega:p+1≤a / d) (by omega:0≤d)
  rw[Int.mul_add,Int.mul_one]at this
  omega
theorem Ue {a b:Int}(hb:1≤b)(hb2:b≤1073741824)(h1:0≤a)(h2:a≤1152921504606846976):nS a b= -((-a) / b):=by
 unfold nS
 rw[bu (by omega: -9223372036854775808≤a+b) (by omega),bu (by omega: -9223372036854775808≤a+b - 1) (by omega),Int.tdiv_eq_ediv_of_nonneg (by omega)]
 have h3:=Int.mul_ediv_add_emod (-a) b
 have h4:=Int.emod_nonneg (-a) (by omega:b≠0)
 have h5:=Int.emod_lt_of_pos (-a) (by omega:0<b)
 have e:(a+b - 1) / b= -((-a) / b):=H6 (by omega) (by rw[Int.mul_neg];omega) (by rw[Int.mul_neg];omega)
 rw[e]
 have c1: -((-a) / b)≤1152921504606846976:=by
  have: -1152921504606846976≤(-a) / b:=by
   rw[Int.le_ediv_iff_mul_le (by omega)]
   have:=Int.mul_le_mul_of_nonneg_left (by omega:1≤b) (by omega:(0:Int)≤1152921504606846976)
   omega
  omega
 have c2:(-a) / b≤0:=by
  have:=Int.ediv_le_ediv (by omega:0<b) (by omega: -a≤0)
  simpa using this
 exact bu (by omega) (by omega)
theorem FI (x:Ratio×Ratio):fF x=gk x:=by
 unfold fF gk f7 im kM
 rw[KE]
 unfold jF kW
 rw[pc,pc]
 cases h1:(aX x.1==0) <;>cases h2:(aX x.2==0) <;>simp[h1,h2]
 cases h3:gj x.1 x.2 <;>cases h4:gj x.2 x.1 <;>simp
 all_goals (try (by_cases q1:0≤x.1.n <;>by_cases q2:x.1.n≤x.1.d <;>by_cases q3:0≤x.2.n <;>by_cases q4:x.2.n≤x.2.d <;>simp[q1,q2,q3,q4]))
 all_goals (unfold gj at h3 h4;simp only[decide_eq_true_eq]at h3 h4;omega)
structure Share (a:Ratio):Prop where
 ok:RatioOk a
 n0:0≤a.n
 nd:a.n≤a.d
theorem v_ (a:Ratio):f7 a=true↔Share a:=by
 unfold f7
 simp only[Bool.and_eq_true,decide_eq_true_eq,pb]
 exact⟨fun h=>⟨h.1.1,h.1.2,h.2⟩,fun h=>⟨⟨h.ok,h.n0⟩,h.nd⟩⟩
theorem H7 {a b:Int}(h0:0≤a)(h1:a≤1073741824)(h2:0≤b)(h3:b≤1073741824):0≤a*b∧a*b≤1152921504606846976:=by
 refine⟨Int.mul_nonneg h0 h2,?_⟩
 have:=Int.mul_le_mul h1 h3 h2 (by omega:(0:Int)≤1073741824)
 omega
theorem KJ {a:Ratio}(h:Share a){v:Int}(h0:0≤v)(h1:v≤1073741824):(dG a v).2.1=nS (IntKind.i64.wrap (v*a.n)) a.d:=by
 have r:=h.ok
 have hr:=(pa a).2 r
 have:=r.d1;have:=r.d;have:=r.n;have:=h.n0;have:=h.nd
 have hm:=H7 h.n0 r.n h0 h1
 unfold dG
 have e1:(decide (v< (-1073741824)) ||decide (v > 1073741824))=false:=by simp only[Bool.or_eq_false_iff,decide_eq_false_iff_not];omega
 rw[hr,e1]
 simp only[bne_self_eq_false,cond_false]
 rw[bu (by omega: -9223372036854775808≤0 - a.n) (by omega)]
 have e2:(0 - a.n)*v= -(a.n*v):=by rw[Int.sub_mul];omega
 rw[e2,bu (by omega: -9223372036854775808≤ -(a.n*v)) (by omega),Int.mul_comm v a.n,bu (by omega: -9223372036854775808≤a.n*v) (by omega)]
 rw[BU r.d1 r.d (by omega) (by omega),Ue r.d1 r.d hm.1 hm.2]
 have c1: -1152921504606846976≤ -(a.n*v) / a.d:=by
  rw[Int.le_ediv_iff_mul_le (by omega)]
  have:=Int.mul_le_mul_of_nonneg_left (by omega:1≤a.d) (by omega:(0:Int)≤1152921504606846976)
  omega
 have c2: -(a.n*v) / a.d≤0:=by
  have:=Int.ediv_le_ediv (by omega:0<a.d) (by omega: -(a.n*v)≤0)
  simpa using this
 rw[bu (by omega) (by omega)];omega
theorem FJ (d:District)(l:List Order):bw d l=eV d l:=by
 have h:=KI d l
 by_cases h0:bw d l=0
 ·rw[h0,h.1 h0]
 ·have h1:eV d l≠0:=fun e=>h0 (h.2 e)
  unfold bw at h0 ⊢
  unfold eV at h1 ⊢
  rw[zx]at h0 ⊢
  cases q1:(dJ d !=0)with
  |true=>rfl
  |false=>
   rw[q1]at h0 h1
   simp only[cond_false]at h0 h1 ⊢
   cases q2:decide ((l.length:Int) > 4096)with
   |true=>rfl
   |false=>
    rw[q2]at h0 h1
    simp only[cond_false]at h0 h1 ⊢
    cases q3:aw (co d l) l.length 0 ()with
    |inr y=>rw[q3]at h0;exact absurd rfl h0
    |inl y=>
     cases q4:aw (ew d l) l.length 0 ()with
     |inr z=>rw[q4]at h1;exact absurd rfl h1
     |inl z=>rfl
variable {i:Int}{x:Reach}in
theorem Cd (h:aU i x=true):f8 x=true:=by
 obtain⟨h1,h2,h3,h4⟩:=pw h
 unfold f8 ke
 rw[←FI,AP (xm h1),Bool.and_true]
 simp only[Bool.and_eq_true,decide_eq_true_eq]
 omega
theorem H8 (r:Reach):lE r:=fun _=>⟨sd _,fun _=>sd _⟩
variable {i:Int}{x:Reach}in
theorem D4 (h:aU i x=true)(u:Int):mS x u:=fun _=>by
 have h1:=Cd h
 unfold f8 gk at h1
 simp only[Bool.and_eq_true]at h1
 have a:=((v_ _).1 h1.2.1.1).ok.d1
 have b:=((v_ _).1 h1.2.1.2).ok.d1
 exact⟨by omega,by unfold pH;omega⟩
variable {i:Int}{x:Reach}in
theorem nf (h:aU i x=true){u:Int}(u0:0≤u)(u1:u≤1073741824):cP x u false=wst x u:=by
 have h1:=Cd h
 unfold f8 gk at h1
 simp only[Bool.and_eq_true]at h1
 obtain⟨_,q0,q1,q2⟩:=uA h u0 u1
 have e:(kX x u).hi=(dH x u).hi:=by
  unfold dH kX
  cases h4:(u==0)with
  |true=>rfl
  |false=>
   simp only[cond_false]
   rw[KJ ((v_ _).1 h1.2.1.2) u0 u1]
 unfold cP wst
 rw[cond_false,e,bu (by omega) (by omega)]
variable {i:Int}{x:Reach}in
def swp:Int⊕(Int×Int)→Int⊕(Int×Int)
 | .inl y=>.inl y
 | .inr s=>.inr (s.2,s.1)
variable {i:Int}{x:Reach}in
theorem A4 {ρ σ τ:Type}{f:Nat→σ→ρ⊕σ}{g:Nat→τ→ρ⊕τ}(c:σ→τ)(h:∀ k s,g k (c s)=match f k s with| .inl y=>.inl y| .inr s'=>.inr (c s')):∀ (n i:Nat) (s:σ),aw g n i (c s)=match aw f n i s with| .inl y=>.inl y| .inr s'=>.inr (c s')
 |0,_,_=>rfl
 |n+1,i,s=>by
  simp only[aw,h]
  cases f i s with
  |inl y=>rfl
  |inr s'=>exact A4 c h n (i+1) s'
variable {i:Int}{x:Reach}in
theorem mid {i j:Int}(h0:0≤i)(h1:i≤j)(h2:j≤1073741824):IntKind.i64.wrap (Int.tdiv (IntKind.i64.wrap (i+j)) 2)=(i+j) / 2:=by
 have e0:IntKind.i64.wrap (i+j)=i+j:=bu (by omega) (by omega)
 rw[e0,Int.tdiv_eq_ediv_of_nonneg (by omega),bu (by omega) (by omega)]
variable {i:Int}{x:Reach}in
theorem wH (w:Int):∃ v,aw (cp x w false) 64 0 (1073741824,0)=.inl v∧0≤v∧v≤1073741824∧
  ((∀ a b,0≤a→a≤b→b<1073741824→decide (cP x a false≥w)=true→decide (cP x b false≥w)=true)→(∀ u,0≤u→u<v→decide (cP x u false≥w)=false)∧(v<1073741824→decide (cP x v false≥w)=true)):=by
 let st:Nat→Int×Int→Int⊕(Int×Int):=fun k s=>swp (cp x w false k (s.2,s.1))
 obtain⟨v,e1,e2,e3,e4⟩:=yN (f:=fun u=>decide (cP x u false≥w)) (N:=1073741824) (step:=st) (by omega) (fun k i j h0 h1 h2=>by
  show swp (cp x w false k (j,i))=_
  unfold cp
  simp only
  rw[decide_eq_true h1,mid h0 (by omega) (by omega)]
  have hm:IntKind.i64.wrap ((i+j) / 2+1)=(i+j) / 2+1:=bu (by omega) (by omega)
  rw[hm]
  cases decide (cP x ((i+j) / 2) false≥w) <;>rfl) (fun k i j h=>by
  show swp (cp x w false k (j,i))=_
  unfold cp
  simp only
  rw[decide_eq_false h];rfl) 63 0 0 1073741824 (by omega) (by omega) (by omega) (by decide)
 refine⟨v,?_,e2,e3,e4⟩
 have:=A4 (f:=st) (g:=cp x w false) (fun s=>(s.2,s.1)) (fun k s=>by
  have hh:st k s=swp (cp x w false k (s.2,s.1)):=rfl
  rw[hh]
  cases cp x w false k (s.2,s.1) <;>rfl) 64 0 (0,1073741824)
 rw[e1]at this
 exact this
variable {i:Int}{x:Reach}in
theorem H9 (h:aU i x=true)(w:Int):lF x w false:=⟨D4 h _,fun _=>⟨ja _ _ _ fun _ _ _ _ _=>D4 h _,fun z hz=>by
 obtain⟨v,e,_⟩:=wH (x:=x) w
 rw[e]at hz;cases hz⟩⟩
variable {i:Int}{x:Reach}in
theorem D5 (h:aU i x=true)(w:Int):kf x w:=⟨H8 _,fun _ _=>H9 h w⟩
variable {i:Int}{x:Reach}in
theorem A5 (h:aU i x=true){w:Int}(hw:1≤w)(hw2:w≤1073741824):(∃ v,dT x w=(v,true,0)∧bv x w=(v,true,0))∨(dT x w=(0,false,0)∧bv x w=(0,false,0)):=by
 obtain⟨l1,l2,l3,l4⟩:=Dj h hw hw2
 have hval:dO x w=0:=(uA h (v:=w) (by omega) hw2).1
 have hfind:dT x w=bif decide (eU x w false<0)then(0,false,0)else(eU x w false,true,0):=by
  unfold dT hY
  have e:(decide (w<0) ||decide (w > 1073741824))=false:=by rw[Bool.or_eq_false_iff,decide_eq_false_iff_not,decide_eq_false_iff_not];omega
  rw[Cd h,e]
  simp only[Bool.not_true,cond_false]
 have hneed:bv x w=bif decide (bO (w - 1) x > 1073741824)then(0,false,0)else(bO (w - 1) x,true,0):=by
  unfold bv
  rw[hval,bu (by omega) (by omega)]
  rfl
 by_cases hm:wst x 1073741824<w
 ·right
  have hL:eU x w false= -1:=by
   unfold eU
   rw[nf h (by omega) (Int.le_refl _),decide_eq_true hm];rfl
  have hl:bO (w - 1) x > 1073741824:=by
   by_cases q:bO (w - 1) x≤1073741824
   ·have h1:=l4 q
    have h2:=uB h l1 q (Int.le_refl _)
    omega
   ·omega
  rw[hfind,hL,hneed,decide_eq_true hl]
  exact⟨rfl,rfl⟩
 ·left
  obtain⟨v,e1,e2,e3,e4⟩:=wH (x:=x) w
  have hL:eU x w false=v:=by
   unfold eU
   rw[nf h (by omega) (Int.le_refl _),decide_eq_false hm,e1];rfl
  obtain⟨f1,f2⟩:=e4 fun a b a0 hab hb ha=>by
   rw[decide_eq_true_eq]at ha ⊢
   rw[nf h a0 (by omega)]at ha
   rw[nf h (by omega) (by omega)]
   have:=uB h a0 hab (by omega)
   omega
  have g1:w≤wst x v:=by
   by_cases q:v<1073741824
   ·have:=f2 q
    rw[decide_eq_true_eq,nf h e2 (by omega)]at this
    exact this
   ·have:v=1073741824:=by omega
    rw[this];omega
  have g2:∀ u,0≤u→u<v→wst x u<w:=fun u u0 u1=>by
   have:=f1 u u0 u1
   rw[decide_eq_false_iff_not,nf h u0 (by omega)]at this
   omega
  have hle:bO (w - 1) x=v:=by
   rcases Int.lt_trichotomy (bO (w - 1) x) v with q|q|q
   ·have:=g2 _ l1 q
    have:=l4 (by omega)
    omega
   ·exact q
   ·have:=l3 v e2 q
    omega
  refine⟨v,?_,?_⟩
  ·rw[hfind,hL,decide_eq_false (by omega)];rfl
  ·rw[hneed,hle,decide_eq_false (by omega)];rfl
variable {i:Int}{x:Reach}in
theorem D6 (h:aU i x=true){w:Int}(hw:0≤w):bY x w=ak x w:=by
 unfold bY ak
 by_cases h0:w=0
 ·subst h0;rfl
 ·have e0:(w==0)=false:=by rw[beq_eq_false_iff_ne];exact h0
  rw[e0]
  simp only[cond_false,Bool.false_or]
  by_cases h1:w > 1073741824
  ·rw[decide_eq_true h1];rfl
  ·rw[decide_eq_false h1]
   simp only[cond_false]
   rcases A5 h (w:=w) (by omega) (by omega)with⟨v,e1,e2⟩ | ⟨e1,e2⟩
   ·rw[e1,e2]
   ·rw[e1,e2]
theorem Nd (d:District)(a:Claim):jH d a=okC d a:=by
 unfold jH okC
 generalize d.rights.getD a.right.toNat default=r
 refine J8 ?_
 have hb:∀ (A q:Bool),(bif A then false else q)=true↔A=false∧q=true:=fun A q=>by cases A <;>simp
 rw[hb]
 simp only[Bool.or_eq_false_iff,Bool.and_eq_true,decide_eq_true_eq,decide_eq_false_iff_not,beq_iff_eq]
 omega
theorem KK (a b:Claim):ko a b=true↔tB a b:=by
 unfold ko tB
 have hb:∀ (A B C x y z u:Bool),(bif A then x else bif B then y else bif C then z else u)=true↔(A=true∧x=true)∨(A=false∧B=true∧y=true)∨(A=false∧B=false∧C=true∧z=true)∨(A=false∧B=false∧C=false∧u=true):=fun A B C x y z u=>by cases A <;>cases B <;>cases C <;>simp
 rw[hb]
 simp only[bne_iff_ne,bne_eq_false_iff_eq,decide_eq_true_eq,ne_eq]
 omega
theorem wa (d:District)(c:List Claim):bt d c=f_ d c:=by
 unfold bt f_
 rw[zx]
 cases h1:(dJ d !=0)with
 |true=>rfl
 |false=>
  simp only[cond_false]
  cases h2:decide ((c.length:Int) > 4096)with
  |true=>rfl
  |false=>
   simp only[cond_false]
   simp only[decide_eq_false_iff_not]at h2
   have hs:∀ k,k<c.length→(dh d c k ()=.inr ()↔eB d c k ()=.inr ()):=fun k hk=>by
    rw[rk (by omega)]
    unfold eB
    rw[uy,Nd,Bool.or_eq_false_iff,Bool.not_eq_false']
    refine and_congr_right fun _=>?_
    by_cases h0:0<k
    ·rw[kP (by omega) h0,Int.toNat_natCast,decide_eq_true (by omega:(k:Int) > 0),Bool.true_and,Bool.not_eq_false',KK]
     exact⟨fun h=>h h0,fun h _=>h⟩
    ·rw[decide_eq_false (by omega)]
     simp[h0]
   have e:aw (dh d c) c.length 0 ()=.inr ()↔aw (eB d c) c.length 0 ()=.inr ():=by
    rw[d7,d7]
    exact⟨fun h k hk=>(hs k hk).1 (h k hk),fun h k hk=>(hs k hk).2 (h k hk)⟩
   cases q1:aw (dh d c) c.length 0 ()with
   |inl y=>
    cases q2:aw (eB d c) c.length 0 ()with
    |inl z=>rfl
    |inr z=>have:=e.2 q2;rw[q1]at this;cases this
   |inr y=>
    cases q2:aw (eB d c) c.length 0 ()with
    |inl z=>have:=e.1 q1;rw[q2]at this;cases this
    |inr z=>rfl
theorem A6 (d:District)(c:List Claim):lI d c:=⟨A3 d,fun _ _ h2=>ja _ _ _ fun j s h3 h4 _=>by
 simp only[decide_eq_false_iff_not]at h2
 refine⟨fun h5=>?_,fun _ h5=>?_⟩
 ·simp only[Bool.or_eq_false_iff,decide_eq_false_iff_not]at h5
  exact⟨by omega,fun _=>by omega⟩
 ·simp only[decide_eq_true_eq]at h5
  rw[bu (by omega) (by omega)];omega⟩
end Go.Sx
end
section
namespace Go.Sx
open Go.Proofs Go.Shelf Go.Sort Go.Lib
set_option maxRecDepth 100000
section
variable {α:Type}
def ins (q:α→Bool)(x:α):List α→List α
 | [] =>[x]
 |a::l=>bif q a then a::ins q x l else x::a::l
theorem uY (q:α→Bool)(x:α):∀ l,(ins q x l).Perm (x::l)
 | [] =>.refl _
 |a::l=>by
  unfold ins
  cases q a with
  |true=>exact((uY q x l).cons a).trans (.swap x a l)
  |false=>exact .refl _
theorem Nf (q:α→Bool)(x:α)(l:List α):(ins q x l).length=l.length+1:=(uY q x l).length_eq
theorem GX (q:α→Bool)(x:α):∀ l,ins q x l=l.take (l.takeWhile q).length++x::l.drop (l.takeWhile q).length
 | [] =>rfl
 |a::l=>by
  unfold ins
  cases h:q a with
  |true=>simp only[cond_true,List.takeWhile_cons,h,if_true,List.length_cons,List.take_succ_cons,List.drop_succ_cons,List.cons_append];rw[GX q x l]
  |false=>simp[List.takeWhile_cons,h]
theorem D7 {R:α→α→Prop}(tr:∀ a b c,R a b→R b c→R a c){q:α→Bool}{x:α}:∀ {l:List α},(∀ y∈l,(q y=true→R y x)∧(q y=false→R x y))→l.Pairwise R→(ins q x l).Pairwise R
 | [],_,_=>List.pairwise_singleton _ _
 |a::l,h,hp=>by
  unfold ins
  obtain⟨h1,h2⟩:=List.pairwise_cons.1 hp
  cases hq:q a with
  |true=>
   refine List.pairwise_cons.2 ⟨fun b hb=>?_,D7 tr (fun y hy=>h y (List.mem_cons_of_mem _ hy)) h2⟩
   rcases List.mem_cons.1 ((uY q x l).mem_iff.1 hb)with rfl|hb
   ·exact(h a List.mem_cons_self).1 hq
   ·exact h1 b hb
  |false=>
   have hx:=(h a List.mem_cons_self).2 hq
   refine List.pairwise_cons.2 ⟨fun b hb=>?_,hp⟩
   rcases List.mem_cons.1 hb with rfl|hb
   ·exact hx
   ·exact tr _ _ _ hx (h1 b hb)
variable [Inhabited α]
theorem A7 {step:Nat→Int→Int⊕Int}{l:List α}{q:α→Bool}(hs:∀ j s,step j s=bif((decide (s< (l.length:Int)))&&q (l.getD (Int.toNat s) (default:α)))then .inr (IntKind.i64.wrap (s+1))else .inl s)(hl:l.length≤100000):
  ∀ (n i k:Nat),k≤l.length→l.length - k<n→aw step n i (k:Int)=.inl ((k+((l.drop k).takeWhile q).length:Nat):Int)
 |0,_,_,_,h=>absurd h (Nat.not_lt_zero _)
 |n+1,i,k,hk,hn=>by
  rcases Nat.lt_or_eq_of_le hk with hk'|rfl
  ·have e:l.drop k=l[k]::l.drop (k+1):=List.drop_eq_getElem_cons hk'
   have e2:l.getD k (default:α)=l[k]:=cI l default hk'
   unfold aw
   rw[hs,Int.toNat_natCast,e2,decide_eq_true (p:=(k:Int) < (l.length:Int)) (by omega),Bool.true_and]
   cases h:q l[k]with
   |true=>
    rw[cond_true]
    rw[bu (by omega) (by omega),show(k:Int)+1=((k+1:Nat):Int) by omega]
    show aw step n (i+1) ((k+1:Nat):Int)=_
    rw[A7 hs hl n (i+1) (k+1) hk' (by omega),e,List.takeWhile_cons,h,if_pos rfl,List.length_cons]
    congr 2;omega
   |false=>
    rw[cond_false,e,List.takeWhile_cons,h];simp
  ·unfold aw
   rw[hs,decide_eq_false (p:=(l.length:Int) < (l.length:Int)) (by omega),Bool.false_and,cond_false]
   simp
theorem KL {step:Nat→Int→Int⊕Int}{p:Nat→Int→Prop}{l:List α}{q:α→Bool}(hs:∀ j s,step j s=bif((decide (s< (l.length:Int)))&&q (l.getD (Int.toNat s) (default:α)))then .inr (IntKind.i64.wrap (s+1))else .inl s)(hl:l.length≤100000)
  (hp:∀ j s,p j s=(l.length≤ba→((decide (s< (l.length:Int)))=true→(0≤s∧s< (l.length:Int))))) (n:Nat):okI step p n 0 0:=by
 refine gT (fun _ s=>0≤s) n 0 0 (Int.le_refl _) fun j s _ _ h=>⟨?_,fun s' e=>?_⟩
 ·rw[hp];intro _ q;simp only[decide_eq_true_eq]at q;omega
 ·rw[hs]at e
  cases hq:((decide (s< (l.length:Int)))&&q (l.getD (Int.toNat s) (default:α)))with
  |true=>
   rw[hq]at e
   simp only[cond_true,Sum.inr.injEq]at e
   simp only[Bool.and_eq_true,decide_eq_true_eq]at hq
   rw[bu (by omega) (by omega)]at e
   omega
  |false=>rw[hq]at e;cases e
theorem Uf (q:α→Bool)(l:List α):(l.takeWhile q).length≤l.length:=(List.takeWhile_sublist q).length_le
end
end Go.Sx
end
section
namespace Go.Sx
open Go.Proofs Go.Shelf Go.Sort Go.Lib
set_option maxRecDepth 100000
theorem wI {ρ σ:Type}{step:Nat→σ→ρ⊕σ}(J:Nat→σ→Prop):∀ (n i:Nat) (s:σ),J i s→(∀ j s,i≤j→j<i+n→J j s→∃ s',step j s=.inr s'∧J (j+1) s')→∃ s',aw step n i s=.inr s'∧J (i+n) s'
 |0,i,s,h,_=>⟨s,rfl,h⟩
 |n+1,i,s,h,hs=>by
  obtain⟨s',e,h'⟩:=hs i s (Nat.le_refl _) (by omega) h
  obtain⟨t,e2,h2⟩:=wI J n (i+1) s' h' fun j s a b c=>hs j s (by omega) (by omega) c
  exact⟨t,by unfold aw;rw[e];exact e2,by rw[show i+(n+1)=i+1+n by omega];exact h2⟩
theorem zz {n i:Nat}:(List.replicate n (0:Int)).getD i 0=0:=by
 rw[List.getD_eq_getElem?_getD,List.getElem?_replicate]
 split <;>rfl
section
variable {d:District}{out:List Order}
theorem Ng (hg:Good d out)(hall:∀ x∈out,x.outlet=true)(r:Nat):
  ((cC d out r).length=d.hours.toNat∧∀ b:Nat,b<d.hours.toNat→(cC d out r).getD b 0=drw d out r b)∧jg d out r:=by
 have hr:=hg.right
 have hH:=hr.hours;have hH1:=hr.hours1
 have hl:=hg.len
 have key:∀ j (s:List Int),j<out.length→(s.length=d.hours.toNat∧∀ b:Nat,b<d.hours.toNat→s.getD b 0=drw d (out.take j) r b)→∃ s',d_ d out r j s=.inr s'∧(s'.length=d.hours.toNat∧∀ b:Nat,b<d.hours.toNat→s'.getD b 0=drw d (out.take (j+1)) r b):=by
  intro j s hj ⟨h1,h2⟩
  have hm:out[j]∈out:=List.getElem_mem hj
  have hx:=hg.one _ hm
  have ho:=hall _ hm
  have hx0:=hx.hour0;have hx1:=hx.hour;have hxl:=hx.litres;have hxl1:=hx.litres1
  unfold d_
  rw[cI out default hj,ho,Bool.true_and]
  have tk:∀ b:Nat,drw d (out.take (j+1)) r b=drw d (out.take j) r b+(bif iT d r b out[j]then out[j].litres else 0):=fun b=>kQ hj
  cases hq:((d.farms.getD out[j].index.toNat default).reach==(r:Int))with
  |false=>
   refine⟨s,rfl,h1,fun b hb=>?_⟩
   rw[h2 b hb,tk]
   unfold iT
   rw[ho,hq];simp
  |true=>
   refine⟨_,rfl,by rw[List.length_set];exact h1,fun b hb=>?_⟩
   rw[iv _ _ _ _ _ (by omega),tk]
   have hb0:=m_ (d:=d) (l:=out.take j) (fun x hx=>by have:=hg.one x (List.mem_of_mem_take hx);exact⟨this.litres1,this.litres⟩) r b
   have hln:(out.take j).length≤4096:=by rw[List.length_take];omega
   by_cases e:b=out[j].hour.toNat
   ·subst e
    rw[if_pos rfl,h2 _ hb]
    have hP:iT d r ((out[j].hour.toNat:Nat):Int) out[j]=true:=by
     unfold iT;rw[ho,hq];simp only[Bool.and_true,Bool.true_or,beq_iff_eq];omega
    rw[hP,cond_true,bu (by omega) (by omega)]
   ·rw[if_neg e,h2 b hb]
    have hP:iT d r (b:Int) out[j]=false:=by
     unfold iT
     rw[show(out[j].hour==(b:Int))=false by rw[beq_eq_false_iff_ne];omega]
     rfl
    rw[hP];simp
 obtain⟨s',e,h1,h2⟩:=wI (step:=d_ d out r) (fun j s=>s.length=d.hours.toNat∧∀ b:Nat,b<d.hours.toNat→s.getD b 0=drw d (out.take j) r b) out.length 0 (List.replicate d.hours.toNat 0)
  ⟨List.length_replicate,fun b _=>by rw[zz];rfl⟩ fun j s _ hj hJ=>key j s (by omega) hJ
 refine⟨?_,⟨rfl,by omega,by unfold eD;omega⟩,fun _=>?_⟩
 ·unfold cC
  rw[e]
  refine⟨h1,fun b hb=>?_⟩
  have:=h2 b hb
  rwa[Nat.zero_add,List.take_length]at this
 ·refine gT (fun _ (s:List Int) =>s.length=d.hours.toNat) _ _ _ List.length_replicate fun j s _ hj hs=>⟨fun _=>?_,fun s' he=>?_⟩
  ·rw[cI out default (by omega)]
   have hx:=hg.one out[j] (List.getElem_mem (by omega))
   have:=hx.hour0;have:=hx.hour;have:=hx.index0
   exact⟨fun q=>⟨by omega,hx.farm q⟩,fun _=>⟨⟨by omega,by omega⟩,⟨by omega,by omega⟩⟩⟩
  ·unfold d_ at he
   cases hc:((out.getD j default).outlet&&((d.farms.getD (Int.toNat (out.getD j default).index) default).reach==(r:Int)))with
   |true=>rw[hc]at he;cases he;rw[List.length_set];exact hs
   |false=>rw[hc]at he;cases he;exact hs
structure GR (d:District)(gs:List Order)(g:List (List Int))(r:Nat):Prop where
 len:g.length=d.reaches.length
 row:∀ a,r≤a→a<d.reaches.length→(g.getD a []).length=d.hours.toNat
 cel:∀ a b:Nat,r≤a→a<d.reaches.length→b<d.hours.toNat→cell g a b=pF gs a b
def D8 (d:District)(gs:List Order)(r b:Int)(c:Nat):Int:=cm (fun x=>iT d r b x&&decide (x.index< (c:Int))) gs
theorem A8 {gs:List Order}(hgs:∀ x∈gs,x.outlet=false∧0≤x.index)(r b:Int)(c:Nat):
  D8 d gs r b (c+1)=D8 d gs r b c+(if(rch d c).up=r then pF gs c b else 0):=by
 have h1:D8 d gs r b c+cm (fun x=>iT d r b x&&(x.index==(c:Int))) gs=D8 d gs r b (c+1):=Dh fun x hx=>by
  have:=(hgs x hx).2
  cases iT d r b x with
  |false=>simp
  |true=>
   simp only[Bool.true_and]
   constructor
   ·rw[Bool.eq_iff_iff];simp only[decide_eq_true_eq,Bool.or_eq_true,beq_iff_eq];omega
   ·rw[Bool.and_eq_false_iff];simp only[decide_eq_false_iff_not,beq_eq_false_iff_ne];omega
 rw[←h1]
 congr 1
 by_cases hu:(rch d c).up=r
 ·rw[if_pos hu]
  refine tx fun x hx=>?_
  obtain⟨ho,_⟩:=hgs x hx
  unfold iT gP
  rw[ho]
  rw[Bool.eq_iff_iff]
  simp only[Bool.false_and,Bool.false_or,Bool.not_false,Bool.true_and,Bool.and_eq_true,beq_iff_eq]
  constructor
  ·rintro⟨⟨a1,a2⟩,a3⟩;exact⟨a3,a1⟩
  ·rintro⟨a1,a2⟩;refine⟨⟨a2,?_⟩,a1⟩;rw[a1];exact hu
 ·rw[if_neg hu]
  refine iu fun x hx=>?_
  obtain⟨ho,_⟩:=hgs x hx
  unfold iT
  rw[ho]
  simp only[Bool.false_and,Bool.false_or,Bool.not_false,Bool.true_and,Bool.and_eq_false_iff,beq_eq_false_iff_ne]
  by_cases e:x.index=(c:Int)
  ·left;right;rw[e];exact hu
  ·right;exact e
structure DM (d:District)(out gs:List Order)(r c:Nat)(dm:List Int):Prop where
 len:dm.length=d.hours.toNat
 val:∀ b:Nat,b<d.hours.toNat→dm.getD b 0=drw d out r b+D8 d gs r b c
section
variable {gs:List Order}{s0:List (List Int)×Int}{r:Nat}
theorem GY {s1:List Int×Int}{c:Nat}(hc:s1.2=(c:Int))(hs:s0.2=(r:Int))(hu:(d.reaches.getD c default).up=(r:Int))(hH:d.hours≤4096)(hH1:1≤d.hours):
  ∀ (n i k:Nat) (dm:List Int),dm.length=d.hours.toNat→k≤d.hours.toNat→d.hours.toNat - k<n→
   (∀ b:Nat,k≤b→b<d.hours.toNat→ -4611686018427387904≤dm.getD b 0+cell (s0.1.set r (List.replicate d.hours.toNat 0)) c b∧dm.getD b 0+cell (s0.1.set r (List.replicate d.hours.toNat 0)) c b≤4611686018427387904)→
   ∃ dm',aw (cq d s0 s1) n i (dm,(k:Int))=.inl dm'∧dm'.length=d.hours.toNat∧∀ b:Nat,b<d.hours.toNat→dm'.getD b 0=dm.getD b 0+(if k≤b then cell (s0.1.set r (List.replicate d.hours.toNat 0)) c b else 0)
 |0,_,_,_,_,_,h,_=>absurd h (Nat.not_lt_zero _)
 |n+1,i,k,dm,hl,hk,hn,hb=>by
  have hst:cq d s0 s1 i (dm,(k:Int))=if k<d.hours.toNat then .inr (dm.set k (dm.getD k 0+cell (s0.1.set r (List.replicate d.hours.toNat 0)) c k),((k+1:Nat):Int))else .inl dm:=by
   unfold cq
   simp only[hc,hs,Int.toNat_natCast]
   rw[show(((d.reaches.getD c default).up==(r:Int)))=true by rw[hu];exact beq_self_eq_true _,Bool.and_true]
   by_cases hk':k<d.hours.toNat
   ·rw[decide_eq_true (by omega),cond_true,if_pos hk']
    have hbk:=hb k (Nat.le_refl _) hk'
    rw[show((s0.1.set r (List.replicate d.hours.toNat 0)).getD c []).getD k 0=cell (s0.1.set r (List.replicate d.hours.toNat 0)) c k from rfl]
    rw[bu (by omega) (by omega),bu (by omega) (by omega),show(k:Int)+1=((k+1:Nat):Int) by omega]
   ·rw[decide_eq_false (by omega),cond_false,if_neg hk']
  unfold aw
  rw[hst]
  rcases Nat.lt_or_eq_of_le hk with hk'|rfl
  ·rw[if_pos hk']
   have hdv:∀ b:Nat,(dm.set k (dm.getD k 0+cell (s0.1.set r (List.replicate d.hours.toNat 0)) c k)).getD b 0=if b=k then dm.getD k 0+cell (s0.1.set r (List.replicate d.hours.toNat 0)) c k else dm.getD b 0:=fun b=>iv _ _ _ _ _ (by omega)
   obtain⟨dm',e,h1,h2⟩:=GY hc hs hu hH hH1 n (i+1) (k+1) (dm.set k (dm.getD k 0+cell (s0.1.set r (List.replicate d.hours.toNat 0)) c k)) (by rw[List.length_set];exact hl) hk' (by omega) fun b h1 h2=>by
    rw[hdv,if_neg (by omega)];exact hb b (by omega) h2
   refine⟨dm',e,h1,fun b hb'=>?_⟩
   rw[h2 b hb',hdv]
   by_cases e1:b=k
   ·subst e1;rw[if_pos rfl,if_neg (by omega),if_pos (Nat.le_refl _),Int.add_zero]
   ·rw[if_neg e1]
    by_cases e2:k≤b
    ·rw[if_pos e2,if_pos (by omega)]
    ·rw[if_neg e2,if_neg (by omega)]
  ·rw[if_neg (by omega)]
   exact⟨dm,rfl,hl,fun b hb'=>by rw[if_neg (by omega),Int.add_zero]⟩
theorem Qa {s1:List Int×Int}{c:Nat}(hc:s1.2=(c:Int))(hcl:c<d.reaches.length)(hg:(s0.1.set (Int.toNat s0.2) (List.replicate d.hours.toNat 0)).length=d.reaches.length)(hrow:((s0.1.set (Int.toNat s0.2) (List.replicate d.hours.toNat 0)).getD c []).length=d.hours.toNat)(hH:d.hours≤4096)(n i:Nat)(dm:List Int)(hl:dm.length=d.hours.toNat):
  okI (cq d s0 s1) (gm d s0 s1) n i (dm,0):=by
 refine gT (fun _ (s:List Int×Int) =>s.1.length=d.hours.toNat∧0≤s.2) n i (dm,0) ⟨hl,Int.le_refl _⟩ fun j s _ _ hJ=>⟨⟨fun _=>?_,fun q=>?_⟩,fun s' e=>?_⟩
 ·rw[hc];omega
 ·rw[Bool.and_eq_true,decide_eq_true_eq]at q
  have:=hJ.1;have:=hJ.2
  rw[hc,Int.toNat_natCast,hg,hrow]
  omega
 ·unfold cq at e
  cases hq:((decide (s.2<d.hours))&&((d.reaches.getD (Int.toNat s1.2) (default:Reach)).up==s0.2))with
  |true=>
   rw[hq]at e;cases e
   rw[Bool.and_eq_true,decide_eq_true_eq]at hq
   have:=hJ.2
   refine⟨by rw[List.length_set];exact hJ.1,?_⟩
   show 0≤IntKind.i64.wrap (s.2+1)
   rw[bu (by omega) (by omega)];omega
  |false=>rw[hq]at e;cases e
theorem Ug {m:Mp}(hr:Right1 d)(ho:Orders1 d out)(p:PI d out gs m r 0)(hrl:r<d.reaches.length)(hs:s0.2=(r:Int))(hG:GR d gs s0.1 (r+1)):
  ∀ (n k c:Nat) (dm:List Int),r+1≤c→c≤d.reaches.length→d.reaches.length - c<n→DM d out gs r c dm→
   (∃ dm',aw (bL d s0) n k (dm,(c:Int))=.inl dm'∧DM d out gs r d.reaches.length dm')∧okI (bL d s0) (gn d s0) n k (dm,(c:Int))
 |0,_,_,_,_,_,h,_=>absurd h (Nat.not_lt_zero _)
 |n+1,k,c,dm,hc1,hc2,hn,hD=>by
  have hH:=hr.hours;have hH1:=hr.hours1;have hR:=hr.reaches
  rcases Nat.lt_or_eq_of_le hc2 with hc|rfl
  ·have hcel:∀ b:Nat,b<d.hours.toNat→cell (s0.1.set r (List.replicate d.hours.toNat 0)) c b=pF gs c b:=fun b hb=>by
    unfold cell
    rw[iv _ _ _ _ _ (by rw[hG.len];exact hrl),if_neg (by omega)]
    exact hG.cel c b (by omega) hc hb
   have hrow:((s0.1.set r (List.replicate d.hours.toNat 0)).getD c []).length=d.hours.toNat:=by
    rw[iv _ _ _ _ _ (by rw[hG.len];exact hrl),if_neg (by omega)]
    exact hG.row c (by omega) hc
   have hlen:=p.len2 hr ho (Nat.zero_le _)
   rw[List.length_append]at hlen
   have hlg:∀ x∈gs,1≤x.litres∧x.litres≤1073741824:=fun x hx=>p.lit hr ho x (List.mem_append_right _ hx)
   have hlo:∀ x∈out,1≤x.litres∧x.litres≤1073741824:=fun x hx=>p.lit hr ho x (List.mem_append_left _ hx)
   have hgs:∀ x∈gs,x.outlet=false∧0≤x.index:=fun x hx=>⟨(p.gate x hx).1.out,(p.gate x hx).1.i0⟩
   have hstep:∃ dm',bL d s0 k (dm,(c:Int))=.inr (dm',((c+1:Nat):Int))∧DM d out gs r (c+1) dm':=by
    unfold bL
    simp only
    rw[decide_eq_true (by omega:(c:Int) < (d.reaches.length:Int)),cond_true,bu (by omega) (by omega),show(c:Int)+1=((c+1:Nat):Int) by omega]
    by_cases hu:(d.reaches.getD c default).up=(r:Int)
    ·obtain⟨dm',e,h1,h2⟩:=GY (s0:=s0) (s1:=(dm,(c:Int))) (c:=c) rfl hs hu hH hH1 (d.hours.toNat+1) 0 0 dm hD.len (Nat.zero_le _) (by omega) fun b _ hb=>by
      rw[hD.val b hb,hcel b hb]
      have q1:=m_ (d:=d) hlo r b
      have q2:=nH (p:=fun x=>iT d r b x&&decide (x.index< (c:Int))) hlg
      have q3:=nH (p:=gP c b) hlg
      unfold D8 pF
      have:(out.length:Int)≤270336:=by omega
      have:(gs.length:Int)≤270336:=by omega
      omega
     rw[show((0:Nat):Int)=0 from rfl]at e
     rw[e]
     refine⟨dm',rfl,h1,fun b hb=>?_⟩
     rw[h2 b hb,hD.val b hb,if_pos (Nat.zero_le _),hcel b hb,A8 hgs,if_pos (show(rch d (c:Int)).up=(r:Int)from hu),Int.add_assoc]
    ·have e:aw (cq d s0 (dm,(c:Int))) (d.hours.toNat+1) 0 (dm,0)=.inl dm:=by
      unfold aw cq
      simp only[Int.toNat_natCast,hs]
      rw[show(((d.reaches.getD c default).up==(r:Int)))=false by rw[beq_eq_false_iff_ne];exact hu,Bool.and_false,cond_false]
     rw[e]
     refine⟨dm,rfl,hD.len,fun b hb=>?_⟩
     rw[hD.val b hb,A8 hgs,if_neg (show ¬ (rch d (c:Int)).up=(r:Int)from hu),Int.add_zero]
   obtain⟨dm',e,hD'⟩:=hstep
   obtain⟨⟨dm2,e2,hD2⟩,hok⟩:=Ug hr ho p hrl hs hG n (k+1) (c+1) dm' (by omega) hc (by omega) hD'
   refine⟨⟨dm2,by unfold aw;rw[e];exact e2,hD2⟩,fun _ _=>⟨?_,fun z hz=>?_⟩,fun s' hs'=>?_⟩
   ·exact Qa rfl hc (by rw[List.length_set,hG.len]) (by rw[hs,Int.toNat_natCast];exact hrow) hH _ _ _ hD.len
   ·unfold bL at e
    simp only at e
    rw[decide_eq_true (by omega:(c:Int) < (d.reaches.length:Int)),cond_true,hz]at e
    simp only[Sum.inr.injEq]at e
    have e3:=congrArg Prod.snd e
    have e4:(default:List Int×Int).2=((c+1:Nat):Int):=e3
    have e5:(default:List Int×Int).2=0:=rfl
    omega
   ·rw[e]at hs';cases hs';exact hok
  ·refine⟨⟨dm,?_,hD⟩,fun _ q=>?_,fun s' hs'=>?_⟩
   ·unfold aw bL
    simp only
    rw[decide_eq_false (by omega),cond_false]
   ·simp only[decide_eq_true_eq]at q;omega
   ·unfold bL at hs'
    simp only at hs'
    rw[decide_eq_false (by omega),cond_false]at hs';cases hs'
end
end
end Go.Sx
end
