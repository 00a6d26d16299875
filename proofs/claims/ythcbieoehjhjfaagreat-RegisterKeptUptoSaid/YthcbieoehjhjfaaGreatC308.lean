/- Part of the proof that the law RegisterKept returns true and leaves its arguments as they were, for all arguments of bulk at most 1048576 (the Upto form). -/
import Derived.Test.YthcbieoehjhjfaaGreatC307
import Derived.Test.YthcbieoehjhjfaaGreatC306
import Derived.Sort.Statements
import Derived.Shelf.SlSortCmp.Insertion
set_option linter.all false
set_option maxHeartbeats 4000000
section
namespace Go.Sx
open Go.RowKit
abbrev RF:= { r:Nat→Res // ∀ k,(r k).n=k}
def Hb (items:List (List SV))(r:RF):List SV→Res→Option YCon:=itY items r.1
@[go_sem] theorem PM {items:List (List SV)}{r:RF}{k:Nat}{args:List SV}:Hb items r args (r.1 (k+1))=some (x7 (items[k]? =some args) r.1 (k+2)):=DM r.2 k args
section
variable {ρ σ:Type}
def lcy (pre:Prop)(run:ρ⊕σ)(exE:ρ→Ex)(outE:ρ→St)(outN:σ→St)(stp:St):LCon where
 α:=Option (ρ⊕σ)
 pre:=pre
 post:=fun|none=>True|some r=>r=run
 ex:=fun|none=>.ret|some (.inl x) =>exE x|some (.inr _) =>.normal
 out:=fun|none=>stp|some (.inl x) =>outE x|some (.inr s) =>outN s
def LCY (m:Nat)(ns:List NLoc)(js:List Nat)(D:Nat→σ→St)(step:Nat→σ→ρ⊕σ)(p:Nat→σ→Prop)(n:Nat)(s0:σ)(B:Prop)(exE:ρ→Ex)(outE:ρ→St)(stp:St)(st:St):LCon:=
 lcy (mq m ns js st (D 0 s0)∧B∧okI step p n 0 s0) (ay step n 0 s0) exE outE (D n) stp
variable {m:Nat}{ns:List NLoc}{js:List Nat}{step:Nat→σ→ρ⊕σ}{p:Nat→σ→Prop}{n:Nat}{s0:σ}{B:Prop}{exE:ρ→Ex}{outE:ρ→St}{stp st:St}{Q:Ex→St→Prop}{D:Nat→σ→St}
theorem Ci {pre:Prop}{run:ρ⊕σ}{outN:σ→St}:kA Q (some (lcy pre run exE outE outN stp))=(pre∧(∀ x,run=.inl x→Q (exE x) (outE x))∧(∀ s,run=.inr s→Q .normal (outN s))∧Q .ret stp):=by
 apply propext
 constructor
 ·rintro⟨h1,h2⟩
  exact⟨h1,fun x hx=>h2 (some (.inl x)) hx.symm,fun s hs=>h2 (some (.inr s)) hs.symm,h2 none trivial⟩
 ·rintro⟨h1,h2,h3,h4⟩
  refine⟨h1,fun r hr=>?_⟩
  match r,hr with
  |none,_=>exact h4
  |some (.inl x),hr=>exact h2 x hr.symm
  |some (.inr s),hr=>exact h3 s hr.symm
@[go_sem] theorem Mj:kA Q (some (LCY m ns js D step p n s0 B exE outE stp st))=((mq m ns js st (D 0 s0)∧B∧okI step p n 0 s0)∧(∀ x,ay step n 0 s0=.inl x→Q (exE x) (outE x))∧(∀ s,ay step n 0 s0=.inr s→Q .normal (D n s))∧Q .ret stp):=Ci
def cY (step:Nat→σ→ρ⊕σ)(exE:ρ→Ex)(outE:ρ→St)(D:Nat→σ→St)(stp:St)(m id k:Nat)(s:σ):Ex→St→Prop
 | .normal,st=>lP D m k st (step k s)
 | .exit j,st=>iC exE outE m (bif Nat.beq j id then .normal else .exit j) st (step k s)
 | .ret,st=>iC exE outE m .ret st (step k s)∨eT stp m st
 | .pan x,st=>iC exE outE m (.pan x) st (step k s)
variable {id k j:Nat}{s:σ}{x:Value}{e e':Ex}
@[go_sem] theorem Mk:cY step exE outE D stp m id k s .normal st=lP D m k st (step k s):=(rfl)
@[go_sem] theorem PN:cY step exE outE D stp m id k s (.exit j) st=iC exE outE m (bif Nat.beq j id then .normal else .exit j) st (step k s):=(rfl)
@[go_sem] theorem QE:cY step exE outE D stp m id k s .ret st=(iC exE outE m .ret st (step k s)∨eT stp m st):=(rfl)
@[go_sem] theorem QF:cY step exE outE D stp m id k s (.pan x) st=iC exE outE m (.pan x) st (step k s):=(rfl)
@[congr] theorem N8 {st':St}(h:st=st')(he:e=e'):cY step exE outE D stp m id k s e st=cY step exE outE D stp m id k s e' st':=by rw[h,he]
end
section
variable {P:Program}{ρ σ:Type}{ts:Tis}{G:Cons}{ro:Option Nat}{N:Nat}{id:Nat}{c:Code}{C:St→Option LCon}{m:Nat}{ns:List NLoc}{js:List Nat}{step:Nat→σ→ρ⊕σ}{p:Nat→σ→Prop}{n:Nat}{s0:σ}{exE:ρ→Ex}{outE:ρ→St}{D:Nat→σ→St}{stp:St}
theorem J1 {n0:Nat}(hn0:n0=m){s:σ}{k:Nat}(hlt:k<n){I:Nat×σ→Prop}{μ:Nat×σ→Nat}{outN:σ→St}{pre:Prop}{run:ρ⊕σ}
  (hI:∀ s',step k s=.inr s'→I (k+1,s')∧μ (k+1,s') <μ (k,s)) (hx:∀ x,step k s=.inl x→run=.inl x):
  ∀ e st',cY step exE outE D stp m id k s e st'→mg (fun x:Nat×σ=>D x.1 x.2) I μ n0 (k,s) id (fun e st'=>∃ r js,(lcy pre run exE outE outN stp).post r∧(lcy pre run exE outE outN stp).ex r=e∧n0≤((lcy pre run exE outE outN stp).out r).h.length∧Sub js n0 st' ((lcy pre run exE outE outN stp).out r)) e st':=by
 subst hn0
 have hfin:∀ e st',iC exE outE n0 e st' (step k s)→∃ r js,(lcy pre run exE outE outN stp).post r∧(lcy pre run exE outE outN stp).ex r=e∧n0≤((lcy pre run exE outE outN stp).out r).h.length∧Sub js n0 st' ((lcy pre run exE outE outN stp).out r):=by
  intro e st' q
  cases hs:step k s with
  |inr s'=>rw[hs]at q;exact q.elim
  |inl x=>
   rw[hs]at q
   obtain⟨q2,js,q3,q4⟩:=q
   exact⟨some (.inl x),js,(hx x hs).symm,q2,q3,q4⟩
 intro e st' hq
 cases e with
 |normal=>
  change lP D n0 k st' (step k s)at hq
  cases hs:step k s with
  |inl x=>rw[hs]at hq;exact hq.elim
  |inr s'=>
   rw[hs]at hq
   obtain⟨js,q3,q4⟩:=hq
   obtain⟨i1,i2⟩:=hI s' hs
   exact⟨(k+1,s'),js,i1,i2,q3,q4⟩
 |exit j=>
  change iC exE outE n0 (bif Nat.beq j id then .normal else .exit j) st' (step k s)at hq
  show bif Nat.beq j id then _ else _
  cases hb:Nat.beq j id with
  |true=>rw[hb]at hq;exact hfin _ _ hq
  |false=>rw[hb]at hq;exact hfin _ _ hq
 |ret=>
  rcases hq with hq|hq
  ·exact hfin _ _ hq
  ·obtain⟨js,q3,q4⟩:=hq
   exact⟨none,js,trivial,rfl,q3,q4⟩
 |pan x=>exact hfin _ _ hq
theorem Ed {B:Prop}(hm:P.follows .mixedOrders=true)(hts:ts.ok P)(hG:ConsOk P G)(hc:ce N c=true)(hC:∀ st,C st=some (LCY m ns js D step p n s0 B exE outE stp st))(M:Int)(hn:n=M.toNat)(hB:B→M<9223372036854775808)
  (h:B→∀ k s,k<n→p k s→IntKind.i64.wrap ((k:Int)+1)=((k+1:Nat):Int)→decide ((k:Int) <M)=true→∃ L,ar P ro N L c∧exec ts G L c (D k s) (cY step exE outE D stp m id k s))
  (h2:B→∀ s,decide ((n:Int) <M)=false→exec ts G L0 c (D n s) (cZ (D n s) m id)):gI P ro N id (.loop c) C:=by
 refine pJ hm hts hG hc fun st lc hC' hp=>?_
 rw[hC st]at hC'
 cases hC'
 obtain⟨⟨hlen,hok,hle,hsub⟩,hB',h1⟩:=hp
 refine⟨Nat×σ,fun x=>D x.1 x.2,fun x=>x.1≤n∧okI step p (n - x.1) x.1 x.2∧ay step (n - x.1) x.1 x.2=ay step n 0 s0,fun x=>n - x.1,(0,s0),mkN ns st,js,⟨Nat.zero_le _,by simpa using h1,by simp⟩,oU ns st st (.refl _) hok,by rw[hlen];exact hle,by rw[hlen];exact hsub,?_⟩
 rintro⟨k,s⟩ ⟨hk,hJ,hrun⟩
 simp only at hk hJ hrun
 rcases Nat.lt_or_ge k n with hlt|hge
 ·rw[show n - k=(n - k - 1)+1 by omega]at hrun hJ
  obtain⟨L,hl,hex⟩:=h hB' k s hlt hJ.1 (DQ (hn▸hlt) (hB hB')) (decide_eq_true (by omega))
  have hI:∀ s',step k s=.inr s'→okI step p (n - (k+1)) (k+1) s'∧ay step (n - (k+1)) (k+1) s'=ay step n 0 s0:=fun s' hs=>by
   have:=hJ.2 s' hs
   rw[show n - k - 1=n - (k+1) by omega]at this hrun
   simp only[ay,hs]at hrun
   exact⟨this,hrun⟩
  have hx:∀ x,step k s=.inl x→ay step n 0 s0=.inl x:=fun x hs=>by
   simp only[ay,hs]at hrun
   exact hrun.symm
  exact⟨L,_,hl,fun e st' q=>J1 hlen hlt (fun s' hs=>⟨⟨hlt,hI s' hs⟩,by simp only;omega⟩) hx e st' q,hex⟩
 ·have hkn:k=n:=by omega
  subst hkn
  have hex:=h2 hB' s (by rw[decide_eq_false_iff_not];omega)
  refine⟨L0,_,am c,fun e st' hq=>?_,hex⟩
  simp only[Nat.sub_self,ay]at hrun
  cases e with
  |exit j=>
   change bif Nat.beq j id then eT (D k s) m st' else False at hq
   show bif Nat.beq j id then _ else _
   cases hb:Nat.beq j id with
   |true=>
    rw[hb]at hq
    obtain⟨js,q3,q4⟩:=hq
    exact⟨some (.inr s),js,hrun,rfl,by rw[hlen];exact q3,by rw[hlen];exact q4⟩
   |false=>rw[hb]at hq;exact hq.elim
  |_=>exact hq.elim
end
def jI (n:Nat):List Ob:=List.replicate n .dead
def Ee (items:List (List SV))(r:RF)(n:Nat):Ex→St→Prop
 | .normal,st=>eT ⟨[],.ab (r.1 0)::jI n⟩ (n+1) ⟨[],st.h⟩∨eT ⟨[],.ab (r.1 (items.length+1))::jI n⟩ (n+1) ⟨[],st.h⟩
 | .ret,st=>eT ⟨[],.ab (r.1 0)::jI n⟩ (n+1) ⟨[],st.h⟩∨eT ⟨[],.ab (r.1 (items.length+1))::jI n⟩ (n+1) ⟨[],st.h⟩
 |_,_=>False
section
variable {items:List (List SV)}{r:RF}{n:Nat}{st:St}{e e':Ex}
@[go_sem] theorem Hc:Ee items r n .normal st=(eT ⟨[],.ab (r.1 0)::jI n⟩ (n+1) ⟨[],st.h⟩∨eT ⟨[],.ab (r.1 (items.length+1))::jI n⟩ (n+1) ⟨[],st.h⟩):=(rfl)
@[go_sem] theorem Ml:Ee items r n .ret st=(eT ⟨[],.ab (r.1 0)::jI n⟩ (n+1) ⟨[],st.h⟩∨eT ⟨[],.ab (r.1 (items.length+1))::jI n⟩ (n+1) ⟨[],st.h⟩):=(rfl)
@[go_sem] theorem PO:jI 0=[]:=(rfl)
@[go_sem] theorem PQ:jI 1=[.dead]:=(rfl)
@[go_sem] theorem PR:jI 2=[.dead,.dead]:=(rfl)
@[go_sem] theorem PS:jI 3=[.dead,.dead,.dead]:=(rfl)
@[go_sem] theorem PT:jI 4=[.dead,.dead,.dead,.dead]:=(rfl)
end
theorem yc {js:List Nat}{n0:Nat}{h h':List Ob}(q:Sub js n0 ⟨[],h⟩ ⟨[],h'⟩):Sub js n0 ⟨[(0,.tup [])],h⟩ ⟨[(0,.tup [])],h'⟩:=by
 refine⟨q.1,?_,q.2.2⟩
 simp only[BC,lk]
 exact⟨⟨rfl,rfl⟩,trivial⟩
open Classical in
theorem J2 {P:Program} {ts:Tis} {G:RF→Cons} (hm:P.follows .mixedOrders=true) (hts:ts.ok P) {f:FuncId} {fn:Func} {c:Code} (hf:P.funcs[f]? =some fn) (hb:fn.body=some c) (hname:(fn.name== "runtime.NumGoroutine")=false) (hc:ce fn.ntmps c=true) (hr:fn.results.toList=[])
  {items:List (List SV)} {mk:SV→List SV} {hs:List Ob} {n:Nat} (hn:hs.length=n)
  (h:∀ r:RF,YOk P (Hb items r)→ConsOk P (G r)∧(mk (.os 0)).length≤fn.ntmps∧∃ L,ar P none fn.ntmps L c∧exec ts (G r) L c ⟨iw 0 (mk (.os 0)),.ab (r.1 1)::hs⟩ (Ee items r n))
  (he:∀ (args:Array Value) (w:World),(callFunc f args).run P w=.ok (.enter f args) w):zN P f mk hs items:=by
 refine Ic (fun r0 hr0 hy=>?_) he
 obtain⟨hG,h1,L,h2,h3⟩:=h ⟨r0,hr0⟩ hy
 refine⟨fun l o=>if l=mk (.os 0)∧o=.ab (r0 1)::hs then some { α:=Bool,pre:=True,post:=fun _=>True,res:=fun b=>.ret (.tup []) (.ab (r0 (if b then items.length+1 else 0))::jI n)}else none,?_,_,if_pos ⟨rfl,rfl⟩,trivial,fun b _=>⟨_,_,_,rfl,by cases b <;>simp⟩⟩
 refine tw hm hts hG hf hb hname hc fun l o con hC _=>?_
 split at hC
 rotate_left
 ·cases hC
 rename_i hlo
 obtain⟨rfl,rfl⟩:=hlo
 cases hC
 refine⟨h1,L,_,h2,fun e st hq=>?_,h3⟩
 have key:∀ st:St,(eT ⟨[],.ab (r0 0)::jI n⟩ (n+1) ⟨[],st.h⟩∨eT ⟨[],.ab (r0 (items.length+1))::jI n⟩ (n+1) ⟨[],st.h⟩)→pg (Ob.ab (r0 1)::hs).length { α:=Bool,pre:=True,post:=fun _=>True,res:=fun b=>.ret (.tup []) (.ab (r0 (if b then items.length+1 else 0))::jI n)} (iX (h_ ts st fn.results.toList)) st.h:=fun st q=>by
  rw[hr]
  show ∃ r s' h' js,_
  rcases q with⟨js,q1,q2⟩ | ⟨js,q1,q2⟩
  ·exact⟨false,_,_,js,trivial,rfl,by rw[List.length_cons,hn];exact q1,by rw[List.length_cons,hn];exact yc q2⟩
  ·exact⟨true,_,_,js,trivial,rfl,by rw[List.length_cons,hn];exact q1,by rw[List.length_cons,hn];exact yc q2⟩
 cases e with
 |normal=>exact key st hq
 |ret=>exact key st hq
 |exit j=>exact hq.elim
 |pan x=>exact hq.elim
section
variable {ρ σ τ:Type}
theorem qU {step:τ→σ→ρ⊕σ}:∀ {a b:List τ} {s s':σ},eP step a s=.inr s'→eP step (a++b) s=eP step b s'
 | [],_,_,_,h=>by simp only[eP,Sum.inr.injEq]at h;subst h;rfl
 |x::a,b,s,s',h=>by
  simp only[List.cons_append,eP]at h ⊢
  cases hs:step x s with
  |inl y=>rw[hs]at h;cases h
  |inr s1=>rw[hs]at h;simp only at h ⊢;exact qU h
theorem yd {step:τ→σ→ρ⊕σ}{p:τ→σ→Prop}:∀ {a b:List τ} {s s':σ},eP step a s=.inr s'→okL step p (a++b) s→okL step p b s'
 | [],_,_,_,h,hk=>by simp only[eP,Sum.inr.injEq]at h;subst h;exact hk
 |x::a,b,s,s',h,hk=>by
  simp only[List.cons_append,eP]at h hk
  cases hs:step x s with
  |inl y=>rw[hs]at h;cases h
  |inr s1=>rw[hs]at h;exact yd h (hk.2 s1 hs)
def LCP (m:Nat)(ns:List NLoc)(js:List Nat)(D:List Nat→Option Nat→σ→St)(step:τ→σ→ρ⊕σ)(p:τ→σ→Prop)(l:List τ)(s0:σ)(exE:ρ→Ex)(outE:ρ→St)(outN:σ→St)(st:St):LCon where
 α:=ρ⊕σ
 pre:=mq m ns js st (D (List.range l.length) none s0)∧∀ L,L.Perm l→okL step p L s0
 post:=fun r=>∃ L,L.Perm l∧eP step L s0=r
 ex:=fun| .inl x=>exE x| .inr _=>.normal
 out:=fun| .inl x=>outE x| .inr s=>outN s
variable {m:Nat}{ns:List NLoc}{js:List Nat}{step:τ→σ→ρ⊕σ}{p:τ→σ→Prop}{l:List τ}{s0:σ}{exE:ρ→Ex}{outE:ρ→St}{outN:σ→St}{st:St}{Q:Ex→St→Prop}{D:List Nat→Option Nat→σ→St}
@[go_sem] theorem Mm:kA Q (some (LCP m ns js D step p l s0 exE outE outN st))=((mq m ns js st (D (List.range l.length) none s0)∧∀ L,L.Perm l→okL step p L s0)∧∀ L,L.Perm l→(∀ x,eP step L s0=.inl x→Q (exE x) (outE x))∧∀ s,eP step L s0=.inr s→Q .normal (outN s)):=by
 apply propext
 constructor
 ·rintro⟨h1,h2⟩
  exact⟨h1,fun L hL=>⟨fun x hx=>h2 (.inl x) ⟨L,hL,hx⟩,fun s hs=>h2 (.inr s) ⟨L,hL,hs⟩⟩⟩
 ·rintro⟨h1,h2⟩
  refine⟨h1,fun r ⟨L,hL,hr⟩ =>?_⟩
  cases r with
  |inl x=>exact(h2 L hL).1 x hr
  |inr s=>exact(h2 L hL).2 s hr
variable {P:Program}{ts:Tis}{G:Cons}{ro:Option Nat}{N id:Nat}{c:Code}{C:St→Option LCon}
theorem Ef (d:τ)(it:Nat)(hm:P.follows .mixedOrders=true)(hts:ts.ok P)(hG:ConsOk P G)(hc:ce N c=true)(hC:∀ st,C st=some (LCP m ns js D step p l s0 exE outE outN st))
  (h:∀ left cur s,(∀ j,j∈left→j<l.length∧p (l.getD j d) s)→∃ L,ar P ro N L c∧exec ts G L c (D left cur s) (cM step l d exE outE outN D m id it left s)):gI P ro N id (.loop c) C:=by
 refine pJ hm hts hG hc fun st lc hC' hp=>?_
 rw[hC st]at hC'
 cases hC'
 obtain⟨⟨hlen,hok,hle,hsub⟩,hO⟩:=hp
 subst hlen
 have hfix:∀ q:List Nat,q.Perm (List.range l.length)→(q.map fun j=>l.getD j d).Perm l:=fun q hq=>by
  have:=hq.map (fun j=>l.getD j d)
  rwa[tD]at this
 refine⟨List Nat×Option Nat×σ,fun x=>D x.1 x.2.1 x.2.2,fun x=>∃ q:List Nat,(q++x.1).Perm (List.range l.length)∧eP step (q.map fun j=>l.getD j d) s0=.inr x.2.2,fun x=>x.1.length,(List.range l.length,none,s0),mkN ns st,js,⟨[],.refl _,rfl⟩,oU ns st st (.refl _) hok,hle,hsub,?_⟩
 rintro⟨left,cur,s⟩ ⟨q,hq,hrun⟩
 simp only at hq hrun
 have hmem:∀ j,j∈left→(q++j::left.erase j).Perm (List.range l.length):=fun j hj=>((List.perm_cons_erase hj).symm.append_left q).trans hq
 have hp0:∀ j,j∈left→j<l.length∧p (l.getD j d) s:=fun j hj=>by
  refine⟨List.mem_range.1 (hq.mem_iff.1 (List.mem_append_right _ hj)),?_⟩
  have:=hO _ (hfix _ (hmem j hj))
  rw[List.map_append]at this
  exact(yd hrun this).1
 obtain⟨L,hl,hex⟩:=h left cur s hp0
 refine⟨L,_,hl,?_,hex⟩
 have hfin:∀ e st' o,exC step l d exE outE st.h.length left s e st' o→∃ r js,(LCP st.h.length ns js D step p l s0 exE outE outN st).post r∧(LCP st.h.length ns js D step p l s0 exE outE outN st).ex r=e∧st.h.length≤((LCP st.h.length ns js D step p l s0 exE outE outN st).out r).h.length∧Sub js st.h.length st' ((LCP st.h.length ns js D step p l s0 exE outE outN st).out r):=by
  intro e st' o z
  cases o with
  |none=>exact z.elim
  |some j=>
   obtain⟨hj,z⟩:=z
   cases hs:step (l.getD j d) s with
   |inr s'=>rw[hs]at z;exact z.elim
   |inl x=>
    rw[hs]at z
    obtain⟨q2,js2,q3,q4⟩:=z
    refine⟨.inl x,js2,⟨_,hfix _ (hmem j hj),?_⟩,q2,q3,q4⟩
    rw[List.map_append,qU hrun]
    simp only[List.map_cons,eP,hs]
 intro e st' hz
 cases e with
 |normal=>
  change nxC step l d D st.h.length left s st' (oT (ag st'.h it))at hz
  cases ho:oT (ag st'.h it)with
  |none=>rw[ho]at hz;exact hz.elim
  |some j=>
   rw[ho]at hz
   obtain⟨hj,hz⟩:=hz
   cases hs:step (l.getD j d) s with
   |inl x=>rw[hs]at hz;exact hz.elim
   |inr s'=>
    rw[hs]at hz
    obtain⟨js2,q3,q4⟩:=hz
    refine⟨(left.erase j,some j,s'),js2,⟨q++[j],?_,?_⟩,?_,q3,q4⟩
    ·rw[List.append_assoc];exact hmem j hj
    ·rw[List.map_append,qU hrun]
     simp only[List.map_cons,List.map_nil,eP,hs]
    ·have:=List.length_pos_of_mem hj
     simp only[List.length_erase_of_mem hj];omega
 |exit j=>
  have hz':(bif Nat.beq j id then(left=[]→eT (outN s) st.h.length st')∧(left≠[]→exC step l d exE outE st.h.length left s .normal st' (oT (ag st'.h it)))else exC step l d exE outE st.h.length left s (.exit j) st' (oT (ag st'.h it))):=hz
  show bif Nat.beq j id then _ else _
  cases hb:Nat.beq j id with
  |true=>
   rw[hb]at hz'
   simp only[cond_true]at hz' ⊢
   by_cases hlt:left=[]
   ·obtain⟨js2,q3,q4⟩:=hz'.1 hlt
    refine⟨.inr s,js2,⟨_,hfix q (by rw[hlt,List.append_nil]at hq;exact hq),hrun⟩,rfl,q3,q4⟩
   ·exact hfin _ _ _ (hz'.2 hlt)
  |false=>
   rw[hb]at hz'
   exact hfin _ _ _ hz'
 |ret=>exact hfin _ _ _ hz
 |pan x=>exact hfin _ _ _ hz
end
theorem fkY {st2 st:St}{n0:Nat}(js:List Nat)(h1:n0≤st2.h.length:=by(first|(show _≤_;decide) |(simp only[*,go_sem,Nat.reduceBEq,Nat.reduceLeDiff,Nat.reduceAdd,Nat.reduceSub,Nat.reduceMul,Int.reduceLE,Int.reduceLT,Int.reduceToNat,Int.reduceNeg,reduceCtorEq];done) |(simp only[*,go_sem,Nat.reduceBEq,Nat.reduceLeDiff,Nat.reduceAdd,Nat.reduceSub,Nat.reduceMul,Int.reduceLE,Int.reduceLT,Int.reduceToNat,Int.reduceNeg,reduceCtorEq];(repeat' (first|with_reducible refine And.intro ?_ ?_|((with_reducible show _≠_);first|assumption|omega|(simp_all [b8,cn];done) |grind) |with_reducible intro _)) <;>(first|rfl|decide|assumption|omega|(simp_all [b8,cn];done) |fail))))(h2:Sub js n0 st st2:=by(first|(show _≤_;decide) |(simp only[*,go_sem,Nat.reduceBEq,Nat.reduceLeDiff,Nat.reduceAdd,Nat.reduceSub,Nat.reduceMul,Int.reduceLE,Int.reduceLT,Int.reduceToNat,Int.reduceNeg,reduceCtorEq];done) |(simp only[*,go_sem,Nat.reduceBEq,Nat.reduceLeDiff,Nat.reduceAdd,Nat.reduceSub,Nat.reduceMul,Int.reduceLE,Int.reduceLT,Int.reduceToNat,Int.reduceNeg,reduceCtorEq];(repeat' (first|with_reducible refine And.intro ?_ ?_|((with_reducible show _≠_);first|assumption|omega|(simp_all [b8,cn];done) |grind) |with_reducible intro _)) <;>(first|rfl|decide|assumption|omega|(simp_all [b8,cn];done) |fail)))):eT st2 n0 st:=wz js h1 h2
theorem J3 {α:Type 1}{G:List SV→α→Prop}{X:SV}{k:List SV→Option α}(h:∀ l c,k l=some c→G (X::l) c):∀ l c,pQ X k l=some c→G l c:=fun l c hc=>by
 obtain⟨r,rfl,h1⟩:=JV hc;exact h r c h1
end Go.Sx
end
section
namespace Go.Sx
open Go.Proofs
set_option maxRecDepth 100000
set_option linter.unusedSimpArgs false
def jf (n:Int)(d:Int):Int:=(IntKind.i64.wrap (Int.tdiv (IntKind.i64.wrap (n - (Int.tmod (IntKind.i64.wrap ((Int.tmod n d)+d)) d))) d))
def kc (n:Int)(d:Int):Prop:=(d≠0∧(d≠0∧d≠0))
@[go_sem] def pN:List SV→Option Con:=(pI fun n=>(pI fun d=>(pE (.det (kc n d) (.v (.int .i64 (jf n d)))))))
theorem uo:FnOk Tryz.prog 61 pN:=by
 have hG:ConsOk Tryz.prog (mkG [] []):=aX cg0 cg0
 refine co [.o] mixed aH hG (fn:=Tryz.f61) (c:=ae Tryz.f61) (by kernel_rfl) (by kernel_rfl) (by kernel_rfl) (by kernel_rfl) (dQ fun n=>(dQ fun d=>(bD (fun hp=>?_))))
 dsimp only[bo]at hp
 unfold kc at hp
 refine⟨Nat.le_of_ble_eq_true rfl,L0,am _,?_⟩
 ·unfold ae Tryz.f61
  try unfold jf
  simp only[go_sem,Nat.reduceBEq,Nat.reduceLeDiff,Nat.reduceLT,decide_true,Nat.reduceAdd,Nat.reduceSub,Nat.reduceMul,Int.reduceLE,Int.reduceLT,Int.reduceToNat,Int.reduceNeg,reduceCtorEq]
  all_goals exact cl
def dR (a:Ratio)(n:Int):Int×Int×Int:=(bif((bA a) !=0)then(0,0,(bA a))else(bif((decide (n< (-1073741824))) ||(decide (n > 1073741824)))then(0,0,1)else((jf (IntKind.i64.wrap (a.n*n)) a.d),(IntKind.i64.wrap (0 - (jf (IntKind.i64.wrap ((IntKind.i64.wrap (0 - a.n))*n)) a.d))),0)))
def ox (a:Ratio)(n:Int):Prop:=(((bA a) !=0)=false→(((decide (n< (-1073741824))) ||(decide (n > 1073741824)))=false→((kc (IntKind.i64.wrap (a.n*n)) a.d)∧(kc (IntKind.i64.wrap ((IntKind.i64.wrap (0 - a.n))*n)) a.d))))
theorem uq {a:Ratio}(h:(bA a !=0)=false):1≤a.d:=by
 unfold bA at h
 by_cases hd:a.d<1
 ·simp[hd]at h
 ·omega
theorem tJ (a:Ratio)(n:Int):ox a n:=fun h _=>by
 have:=uq h
 exact⟨⟨by omega,by omega,by omega⟩,⟨by omega,by omega,by omega⟩⟩
@[go_sem] def oy:List SV→Option Con:=(pD .ratio fun a=>(pI fun n=>(pE (.det True (.tup [.v (.int .i64 ((dR a n).1)),.v (.int .i64 ((dR a n).2.1)),.v (.int .i64 ((dR a n).2.2))])))))
theorem tK:FnOk Tryz.prog 32 oy:=by
 have hG:ConsOk Tryz.prog (mkG [(60,jp),(61,pN)] []):=aX (cgc kK (cgc uo cg0)) cg0
 refine co [.o,.o,.o] mixed aH hG (fn:=Tryz.f32) (c:=ae Tryz.f32) (by kernel_rfl) (by kernel_rfl) (by kernel_rfl) (by kernel_rfl) (cB fun a=>(dQ fun n=>(bD (fun hp=>?_))))
 dsimp only[bo]at hp
 have hp:=tJ a n
 unfold ox at hp
 refine⟨Nat.le_of_ble_eq_true rfl,L0,am _,?_⟩
 ·unfold ae Tryz.f32
  try unfold dR
  simp only[go_sem,Nat.reduceBEq,Nat.reduceLeDiff,Nat.reduceLT,decide_true,Nat.reduceAdd,Nat.reduceSub,Nat.reduceMul,Int.reduceLE,Int.reduceLT,Int.reduceToNat,Int.reduceNeg,reduceCtorEq]
  all_goals exact cl
def ig (n:Int)(d:Int):Ratio×Int:=(bif(d==0)then(({ n:=0,d:=0}:Ratio),120)else(bif(decide ((if(IntKind.u64.wrap (Int.tdiv (ai n) ((oa (Int.toNat (ai n)) (Int.toNat (ai d)):Nat):Int))) < (IntKind.u64.wrap (Int.tdiv (ai d) ((oa (Int.toNat (ai n)) (Int.toNat (ai d)):Nat):Int)))then(IntKind.u64.wrap (Int.tdiv (ai d) ((oa (Int.toNat (ai n)) (Int.toNat (ai d)):Nat):Int)))else(IntKind.u64.wrap (Int.tdiv (ai n) ((oa (Int.toNat (ai n)) (Int.toNat (ai d)):Nat):Int)))) > 1073741824))then(({ n:=0,d:=0}:Ratio),2)else(bif((decide (n<0)) !=(decide (d<0)))then(({ n:=(IntKind.i64.wrap (0 - (IntKind.i64.wrap (IntKind.u64.wrap (Int.tdiv (ai n) ((oa (Int.toNat (ai n)) (Int.toNat (ai d)):Nat):Int)))))),d:=(IntKind.i64.wrap (IntKind.u64.wrap (Int.tdiv (ai d) ((oa (Int.toNat (ai n)) (Int.toNat (ai d)):Nat):Int))))}:Ratio),0)else(({ n:=(IntKind.i64.wrap (IntKind.u64.wrap (Int.tdiv (ai n) ((oa (Int.toNat (ai n)) (Int.toNat (ai d)):Nat):Int)))),d:=(IntKind.i64.wrap (IntKind.u64.wrap (Int.tdiv (ai d) ((oa (Int.toNat (ai n)) (Int.toNat (ai d)):Nat):Int))))}:Ratio),0))))
def ke (n:Int)(d:Int):Prop:=((d==0)=false→((0≤(ai n)∧0≤(ai d))∧(((oa (Int.toNat (ai n)) (Int.toNat (ai d)):Nat):Int)≠0∧((oa (Int.toNat (ai n)) (Int.toNat (ai d)):Nat):Int)≠0)))
@[go_sem] def pO:List SV→Option Con:=(pI fun n=>(pI fun d=>(pE (.det (ke n d) (.tup [.agg (cellsOf .ratio ((ig n d).1)),.v (.int .i64 ((ig n d).2))])))))
theorem ur:FnOk Tryz.prog 143 pO:=by
 have hG:ConsOk Tryz.prog (mkG [(88,C83),(89,iD)] []):=aX (cgc D7 (cgc kJ cg0)) cg0
 refine co [.st .ratio,.o] mixed aH hG (fn:=Tryz.f143) (c:=ae Tryz.f143) (by kernel_rfl) (by kernel_rfl) (by kernel_rfl) (by kernel_rfl) (dQ fun n=>(dQ fun d=>(bD (fun hp=>?_))))
 dsimp only[bo]at hp
 unfold ke at hp
 refine⟨Nat.le_of_ble_eq_true rfl,L0,am _,?_⟩
 ·unfold ae Tryz.f143
  try unfold ig
  simp only[go_sem,Nat.reduceBEq,Nat.reduceLeDiff,Nat.reduceLT,decide_true,Nat.reduceAdd,Nat.reduceSub,Nat.reduceMul,Int.reduceLE,Int.reduceLT,Int.reduceToNat,Int.reduceNeg,reduceCtorEq,C83]
  all_goals exact cl
def dS (a:Ratio)(b:Ratio):Int×Int:=((IntKind.i64.wrap ((IntKind.i64.wrap (a.n*b.d))+(IntKind.i64.wrap (b.n*a.d)))),(IntKind.i64.wrap (a.d*b.d)))
@[go_sem] def oz:List SV→Option Con:=(pD .ratio fun a=>(pD .ratio fun b=>(pE (.det True (.tup [.v (.int .i64 ((dS a b).1)),.v (.int .i64 ((dS a b).2))])))))
theorem tL:FnOk Tryz.prog 118 oz:=by
 have hG:ConsOk Tryz.prog (mkG [] []):=aX cg0 cg0
 refine co [.o,.o] mixed aH hG (fn:=Tryz.f118) (c:=ae Tryz.f118) (by kernel_rfl) (by kernel_rfl) (by kernel_rfl) (by kernel_rfl) (cB fun a=>(cB fun b=>(bD (fun hp=>?_))))
 dsimp only[bo]at hp
 refine⟨Nat.le_of_ble_eq_true rfl,L0,am _,?_⟩
 ·unfold ae Tryz.f118
  try unfold dS
  simp only[go_sem,Nat.reduceBEq,Nat.reduceLeDiff,Nat.reduceLT,decide_true,Nat.reduceAdd,Nat.reduceSub,Nat.reduceMul,Int.reduceLE,Int.reduceLT,Int.reduceToNat,Int.reduceNeg,reduceCtorEq]
  all_goals exact cl
def dK (a:Ratio)(b:Ratio):Ratio×Int:=(bif(((bA a) !=0) ||((bA b) !=0))then(({ n:=0,d:=0}:Ratio),120)else(((ig ((dS a b).1) ((dS a b).2)).1),(ig ((dS a b).1) ((dS a b).2)).2))
def f9 (a:Ratio)(b:Ratio):Prop:=((((bA a) !=0) ||((bA b) !=0))=false→(ke ((dS a b).1) ((dS a b).2)))
@[go_sem] noncomputable def jJ:List SV→Option Con:=(pQ (.agg [.fn 118 [] []]) (pD .ratio fun a=>(pD .ratio fun b=>(pE (.det (f9 a b) (.tup [.agg (cellsOf .ratio ((dK a b).1)),.v (.int .i64 ((dK a b).2))]))))))
theorem mM:FnOk Tryz.prog 119 jJ:=by
 have hG:ConsOk Tryz.prog (mkG [(60,jp),(118,oz),(143,pO)] []):=aX (cgc kK (cgc tL (cgc ur cg0))) cg0
 refine co [.st .ratio,.o] mixed aH hG (fn:=Tryz.f119) (c:=ae Tryz.f119) (by kernel_rfl) (by kernel_rfl) (by kernel_rfl) (by kernel_rfl) (J3 (cB fun a=>(cB fun b=>(bD (fun hp=>?_)))))
 dsimp only[bo]at hp
 unfold f9 at hp
 refine⟨Nat.le_of_ble_eq_true rfl,L0,am _,?_⟩
 ·unfold ae Tryz.f119
  try unfold dK
  simp only[go_sem,Nat.reduceBEq,Nat.reduceLeDiff,Nat.reduceLT,decide_true,Nat.reduceAdd,Nat.reduceSub,Nat.reduceMul,Int.reduceLE,Int.reduceLT,Int.reduceToNat,Int.reduceNeg,reduceCtorEq]
  all_goals exact cl
def eA (a:Ratio)(b:Ratio):Ratio×Int:=(((dK a b).1),(dK a b).2)
def li (a:Ratio)(b:Ratio):Prop:=(f9 a b)
@[go_sem] def rF:List SV→Option Con:=(pD .ratio fun a=>(pD .ratio fun b=>(pE (.det (li a b) (.tup [.agg (cellsOf .ratio ((eA a b).1)),.v (.int .i64 ((eA a b).2))])))))
theorem wD:FnOk Tryz.prog 91 rF:=by
 have hG:ConsOk Tryz.prog (mkG [(119,jJ)] []):=aX (cgc mM cg0) cg0
 refine co [.st .ratio,.o] mixed aH hG (fn:=Tryz.f91) (c:=ae Tryz.f91) (by kernel_rfl) (by kernel_rfl) (by kernel_rfl) (by kernel_rfl) (cB fun a=>(cB fun b=>(bD (fun hp=>?_))))
 dsimp only[bo]at hp
 unfold li at hp
 refine⟨Nat.le_of_ble_eq_true rfl,L0,am _,?_⟩
 ·unfold ae Tryz.f91
  try unfold eA
  simp only[go_sem,Nat.reduceBEq,Nat.reduceLeDiff,Nat.reduceLT,decide_true,Nat.reduceAdd,Nat.reduceSub,Nat.reduceMul,Int.reduceLE,Int.reduceLT,Int.reduceToNat,Int.reduceNeg,reduceCtorEq]
  all_goals exact cl
end Go.Sx
end
section
namespace Go.Sx
open Go.Proofs
set_option maxRecDepth 100000
set_option linter.unusedSimpArgs false
theorem qV {p:Prop}(h:p:=by(first|done|(repeat' (first|with_reducible refine And.intro ?_ ?_|((with_reducible show _≠_);first|assumption|omega|(simp_all [b8,cn];done) |grind) |with_reducible intro _)) <;>(first|done|with_reducible exact Empty.elim ‹Empty› |with_reducible assumption|rfl|omega|assumption|decide|exact fk [] |exact czl|(simp only[*,cond_true,cond_false,Bool.not_true,Bool.not_false,go_sem,Nat.reduceBEq,Nat.reduceLeDiff,Nat.reduceLT,decide_true,Nat.reduceAdd,Nat.reduceSub,Nat.reduceMul,Int.reduceLE,Int.reduceLT,Int.reduceToNat,Int.reduceNeg,reduceCtorEq];(repeat' (first|with_reducible refine And.intro ?_ ?_|((with_reducible show _≠_);first|assumption|omega|(simp_all [b8,cn];done) |grind) |with_reducible intro _)) <;>(first|done|assumption|rfl|omega|decide|exact fk [] |(simp_all [b8,cn];done))) |(simp_all [okI,b8,cn];done) |(simp_all [b8,cn];(first|done|exact fk2 [])) |exact fk2 []))):p:=h
theorem nQ {p:Prop}(h:p:=by simp only[go_sem,Nat.reduceBEq,Nat.reduceLeDiff,Nat.reduceLT,decide_true,Nat.reduceAdd,Nat.reduceSub,Nat.reduceMul,Int.reduceLE,Int.reduceLT,Int.reduceToNat,Int.reduceNeg,reduceCtorEq,hc,hw];all_goals exact qV):p:=h
theorem nR {p:Prop}(h:p:=by simp only[go_sem,Nat.reduceBEq,Nat.reduceLeDiff,Nat.reduceLT,decide_true,Nat.reduceAdd,Nat.reduceSub,Nat.reduceMul,Int.reduceLE,Int.reduceLT,Int.reduceToNat,Int.reduceNeg,reduceCtorEq,hc];all_goals exact qV):p:=h
@[go_sem] def oA (bX:List Int)(k_0:Nat)(s_0:Unit):Int⊕Unit:=(bif((bX.getD k_0 (0:Int)) !=0)then .inl (bX.getD k_0 (0:Int))else .inr ())
def fz (bX:List Int):Int:=(match ay (oA bX) bX.length 0 ()with| .inl x_0_0=>x_0_0| .inr s_0=>0)
@[go_sem] def pP:List SV→Option Con:=(pR .int fun bX=>(pE (.det True (.v (.int .i64 (fz bX))))))
theorem ut:FnOk Tryz.prog 52 pP:=by
 have hG:ConsOk Tryz.prog (mkG [] []):=aX cg0 cg0
 refine co [.o] mixed aH hG (fn:=Tryz.f52) (c:=ae Tryz.f52) (by kernel_rfl) (by kernel_rfl) (by kernel_rfl) (by kernel_rfl) (fM fun bX=>(bD (fun hp=>?_)))
 dsimp only[bo]at hp
 refine⟨Nat.le_of_ble_eq_true rfl,(fun id st=>bif Nat.beq id 0 then some (LCR (ρ:=Int) (σ:=Unit) 0 [] [] (fun k_0 s_0=>⟨[(3,.v (.int .i64 0)),(6,.rs .int bX),(7,.v (.int .i64 (bX.length:Int))),(8,.v (.int .i64 (k_0:Int)))],[]⟩) (oA bX) pT bX.length () (bX.length≤cd) (fun _=>.ret) (fun x_0_0=>⟨[(2,.v (.int .i64 x_0_0))],[]⟩) st)else none),?_,?_⟩
 ·unfold ae Tryz.f52
  simp only[ar,true_and,and_true]
  ·refine dJ mixed aH hG (by kernel_rfl) (fun _=>rfl) (bX.length:Int) rfl lu (fun hb0 k_0 s_0 hlt0 _ hw hc=>⟨L0,am _,?_⟩) (fun hb0 s_0 hc=>?_)
   ·exact nQ
   ·exact nR
 ·unfold ae Tryz.f52
  try unfold fz
  simp only[go_sem,Nat.reduceBEq,Nat.reduceLeDiff,Nat.reduceLT,decide_true,Nat.reduceAdd,Nat.reduceSub,Nat.reduceMul,Int.reduceLE,Int.reduceLT,Int.reduceToNat,Int.reduceNeg,reduceCtorEq]
  all_goals exact cl
def bO (x:Holding)(y:Holding):Int:=(fz ([(cW x.right y.right),(cW x.farm y.farm)]))
@[go_sem] def mH:List SV→Option Con:=(pD .holding fun x=>(pD .holding fun y=>(pE (.det True (.v (.int .i64 (bO x y)))))))
theorem qW:FnOk Tryz.prog 51 mH:=by
 have hG:ConsOk Tryz.prog (mkG [(38,eF),(52,fun l=>pP (dN [.sl .int] l))] []):=aX (cgc fv (cgc (ut.norm [.sl .int]) cg0)) cg0
 refine co [.o] mixed aH hG (fn:=Tryz.f51) (c:=ae Tryz.f51) (by kernel_rfl) (by kernel_rfl) (by kernel_rfl) (by kernel_rfl) (cB fun x=>(cB fun y=>(bD (fun hp=>?_))))
 dsimp only[bo]at hp
 refine⟨Nat.le_of_ble_eq_true rfl,L0,am _,?_⟩
 ·unfold ae Tryz.f51
  try unfold bO
  simp only[go_sem,Nat.reduceBEq,Nat.reduceLeDiff,Nat.reduceLT,decide_true,Nat.reduceAdd,Nat.reduceSub,Nat.reduceMul,Int.reduceLE,Int.reduceLT,Int.reduceToNat,Int.reduceNeg,reduceCtorEq]
  all_goals exact cl
end Go.Sx
end
section
namespace Go.Sx
open Go.Proofs
theorem lj (x y:Int):cW x y=if x<y then -1 else if x > y then 1 else 0:=by
 unfold cW fJ
 simp[Bool.cond_eq_ite]
theorem zU (x:Int)(l:List Int):fz (x::l)=if x=0 then fz l else x:=by
 have key:∀ l:List Int,fz l=match eP (ρ:=Int) (fun(x:Int) (_:Unit) =>bif(x !=0)then .inl x else .inr ()) l ()with| .inl y=>y| .inr _=>0:=fun l=>by
  unfold fz
  have:=ww (ρ:=Int) (fun(x:Int) (_:Unit) =>bif(x !=0)then .inl x else .inr ()) 0 l ()
  rw[←this]
  rfl
 rw[key,key]
 simp only[eP]
 by_cases h:x=0
 ·subst h;rfl
 ·have:(x !=0)=true:=by simpa using h
  rw[if_neg h,this];rfl
theorem Cj:fz []=0:=rfl
def pW:List (Int×Int)→Prop
 | [] =>False
 |(a,b)::r=>a<b∨a=b∧pW r
theorem vg:∀ l:List (Int×Int),(fz (l.map fun p=>cW p.1 p.2) <0↔pW l)
 | [] =>by simp[Cj,pW]
 |(a,b)::r=>by
  have hc:=lj a b
  simp only[List.map_cons,zU,hc,pW]
  rcases Int.lt_trichotomy a b with h|h|h
  ·simp[h]
  ·subst h
   simp only[Int.lt_irrefl,if_false,if_true,true_and,false_or,gt_iff_lt]
   exact vg r
  ·have h1:¬a<b:=by omega
   have h2:a≠b:=by omega
   simp[h1,h2,h]
def hlt (a b:Holding):Prop:=pW [(a.right,b.right),(a.farm,b.farm)]
theorem tM (a b:Holding):bO a b<0↔hlt a b:=vg [(a.right,b.right),(a.farm,b.farm)]
open Go.Shelf Go.Sort in
theorem J4 {α:Type}{f:α→α→Int}{r:α→α→Prop}(e:∀ x y,f x y<0↔r x y)(h1:∀ x,¬r x x)(h2:∀ x y z,r x y→r y z→r x z)(h3:∀ x y z,¬r x y→¬r y z→¬r x z):SWO (ltOf f):=by
 have e1:∀ x y,ltOf f x y=true↔r x y:=fun x y=>by unfold ltOf;rw[decide_eq_true_eq,e]
 have e2:∀ x y,ltOf f x y=false↔¬r x y:=fun x y=>by rw[←e1];simp
 exact⟨fun x=>(e2 x x).2 (h1 x),fun x y z a b=>(e1 x z).2 (h2 x y z ((e1 x y).1 a) ((e1 y z).1 b)),fun x y z a b=>(e2 x z).2 (h3 x y z ((e2 x y).1 a) ((e2 y z).1 b))⟩
open Go.Shelf Go.Sort in
theorem rG:SWO (ltOf bO):=J4 tM (fun x=>by simp only[hlt,pW,and_false,or_false];omega) (fun x y z h1 h2=>by simp only[hlt,pW,and_false,or_false]at *;omega) (fun x y z h1 h2=>by simp only[hlt,pW,and_false,or_false]at *;omega)
end Go.Sx
end
section
namespace Go.Sx
open Go.RowKit
def orC {α:Type 1}:Option α→Option α→Option α
 |some x,_=>some x
 |none,y=>y
@[go_sem] theorem N9 {α:Type 1}{x:α}{y:Option α}:orC (some x) y=some x:=(rfl)
@[go_sem] theorem N_ {α:Type 1}{y:Option α}:orC none y=y:=(rfl)
theorem nS {α:Type 1}{a b:Option α}{c:α}(h:orC a b=some c):a=some c∨b=some c:=by
 cases a with
 |none=>exact .inr h
 |some x=>exact .inl h
theorem FnOkO.or {P:Program}{f:FuncId}{C D:List SV→List Ob→Option HCon}(h1:FnOkO P f C)(h2:FnOkO P f D):FnOkO P f (fun l h=>orC (C l h) (D l h)):=
 ⟨fun l h c hc=>by rcases nS hc with e|e;exact h1.enter l h c e;exact h2.enter l h c e,
  fun l h c hc=>by rcases nS hc with e|e;exact h1.calls l h c e;exact h2.calls l h c e⟩
theorem FnOk.or {P:Program}{f:FuncId}{C D:List SV→Option Con}(h1:FnOk P f C)(h2:FnOk P f D):FnOk P f (fun l=>orC (C l) (D l)):=
 ⟨fun l c hc=>by rcases nS hc with e|e;exact h1.enter l c e;exact h2.enter l c e,
  fun l c hc=>by rcases nS hc with e|e;exact h1.calls l c e;exact h2.calls l c e⟩
end Go.Sx
end
section
namespace Go.Sx
open Go.Proofs
set_option maxRecDepth 100000
set_option linter.unusedSimpArgs false
theorem ye {p:Prop}(h:p:=by(first|done|(repeat' (first|with_reducible refine And.intro ?_ ?_|((with_reducible show _≠_);first|assumption|omega|(simp_all [b8,cn];done) |grind) |with_reducible intro _)) <;>(first|done|with_reducible exact Empty.elim ‹Empty› |with_reducible assumption|rfl|omega|assumption|decide|exact fk [0,1,2] |exact czl|(simp only[*,cond_true,cond_false,Bool.not_true,Bool.not_false,go_sem,Nat.reduceBEq,Nat.reduceLeDiff,Nat.reduceLT,decide_true,Nat.reduceAdd,Nat.reduceSub,Nat.reduceMul,Int.reduceLE,Int.reduceLT,Int.reduceToNat,Int.reduceNeg,reduceCtorEq];(repeat' (first|with_reducible refine And.intro ?_ ?_|((with_reducible show _≠_);first|assumption|omega|(simp_all [b8,cn];done) |grind) |with_reducible intro _)) <;>(first|done|assumption|rfl|omega|decide|exact fk [0,1,2] |(simp_all [b8,cn];done))) |(simp_all [okI,b8,cn];done) |(simp_all [b8,cn];(first|done|exact fk2 [0,1,2])) |exact fk2 [0,1,2]))):p:=h
theorem tN {p:Prop}(h:p:=by(first|done|(repeat' (first|with_reducible refine And.intro ?_ ?_|((with_reducible show _≠_);first|assumption|omega|(simp_all [b8,cn];done) |grind) |with_reducible intro _)) <;>(first|done|with_reducible exact Empty.elim ‹Empty› |with_reducible assumption|rfl|omega|assumption|decide|exact fk [0,1] |exact czl|(simp only[*,cond_true,cond_false,Bool.not_true,Bool.not_false,go_sem,Nat.reduceBEq,Nat.reduceLeDiff,Nat.reduceLT,decide_true,Nat.reduceAdd,Nat.reduceSub,Nat.reduceMul,Int.reduceLE,Int.reduceLT,Int.reduceToNat,Int.reduceNeg,reduceCtorEq];(repeat' (first|with_reducible refine And.intro ?_ ?_|((with_reducible show _≠_);first|assumption|omega|(simp_all [b8,cn];done) |grind) |with_reducible intro _)) <;>(first|done|assumption|rfl|omega|decide|exact fk [0,1] |(simp_all [b8,cn];done))) |(simp_all [okI,b8,cn];done) |(simp_all [b8,cn];(first|done|exact fk2 [0,1])) |exact fk2 [0,1]))):p:=h
theorem Eg {p:Prop}(h:p:=by simp only[go_sem,Nat.reduceBEq,Nat.reduceLeDiff,Nat.reduceLT,decide_true,Nat.reduceAdd,Nat.reduceSub,Nat.reduceMul,Int.reduceLE,Int.reduceLT,Int.reduceToNat,Int.reduceNeg,reduceCtorEq,hc,hw];all_goals exact ye):p:=h
theorem Eh {p:Prop}(h:p:=by simp only[go_sem,Nat.reduceBEq,Nat.reduceLeDiff,Nat.reduceLT,decide_true,Nat.reduceAdd,Nat.reduceSub,Nat.reduceMul,Int.reduceLE,Int.reduceLT,Int.reduceToNat,Int.reduceNeg,reduceCtorEq,hc];all_goals exact ye):p:=h
theorem nv {p:Prop}(h:p:=by simp only[go_sem,Nat.reduceBEq,Nat.reduceLeDiff,Nat.reduceLT,decide_true,Nat.reduceAdd,Nat.reduceSub,Nat.reduceMul,Int.reduceLE,Int.reduceLT,Int.reduceToNat,Int.reduceNeg,reduceCtorEq,hc,hw];all_goals exact tN):p:=h
theorem ny {p:Prop}(h:p:=by simp only[go_sem,Nat.reduceBEq,Nat.reduceLeDiff,Nat.reduceLT,decide_true,Nat.reduceAdd,Nat.reduceSub,Nat.reduceMul,Int.reduceLE,Int.reduceLT,Int.reduceToNat,Int.reduceNeg,reduceCtorEq,hc];all_goals exact tN):p:=h
def aC (n:Int)(lo:Int)(hi:Int):Bool:=((decide (n≥lo))&&(decide (n≤hi)))
@[go_sem] def gW:List SV→Option Con:=(pI fun n=>(pI fun lo=>(pI fun hi=>(pE (.det True (.v (.bool (aC n lo hi))))))))
theorem iG:FnOk Tryz.prog 47 gW:=by
 have hG:ConsOk Tryz.prog (mkG [] []):=aX cg0 cg0
 refine co [.o] mixed aH hG (fn:=Tryz.f47) (c:=ae Tryz.f47) (by kernel_rfl) (by kernel_rfl) (by kernel_rfl) (by kernel_rfl) (dQ fun n=>(dQ fun lo=>(dQ fun hi=>(bD (fun hp=>?_)))))
 dsimp only[bo]at hp
 refine⟨Nat.le_of_ble_eq_true rfl,L0,am _,?_⟩
 ·unfold ae Tryz.f47
  try unfold aC
  simp only[go_sem,Nat.reduceBEq,Nat.reduceLeDiff,Nat.reduceLT,decide_true,Nat.reduceAdd,Nat.reduceSub,Nat.reduceMul,Int.reduceLE,Int.reduceLT,Int.reduceToNat,Int.reduceNeg,reduceCtorEq]
  all_goals exact cl
def gX (x:Deed):Bool:=(bif(x.kind==1)then(((x.parts.length:Int) ==0)&&(x.of_==0))else(bif(x.kind==2)then((x.to==0)&&(x.of_==0))else(bif(x.kind==3)then(((x.to==0)&&((x.parts.length:Int) ==0))&&(x.of_==0))else(bif(x.kind==4)then((((x.right==0)&&(x.since==0))&&(x.to==0))&&((x.parts.length:Int) ==0))else(((((x.right==0)&&(x.since==0))&&(x.to==0))&&((x.parts.length:Int) ==0))&&(x.of_==0))))))
@[go_sem] def mI:List SV→Option Con:=(pD .deed fun x=>(pE (.det True (.v (.bool (gX x))))))
theorem qX:FnOk Tryz.prog 66 mI:=by
 have hG:ConsOk Tryz.prog (mkG [] []):=aX cg0 cg0
 refine co [.o] mixed aH hG (fn:=Tryz.f66) (c:=ae Tryz.f66) (by kernel_rfl) (by kernel_rfl) (by kernel_rfl) (by kernel_rfl) (cB fun x=>(bD (fun hp=>?_)))
 dsimp only[bo]at hp
 refine⟨Nat.le_of_ble_eq_true rfl,L0,am _,?_⟩
 ·unfold ae Tryz.f66
  try unfold gX
  simp only[go_sem,Nat.reduceBEq,Nat.reduceLeDiff,Nat.reduceLT,decide_true,Nat.reduceAdd,Nat.reduceSub,Nat.reduceMul,Int.reduceLE,Int.reduceLT,Int.reduceToNat,Int.reduceNeg,reduceCtorEq]
  all_goals exact cl
@[go_sem] def eJ (d:District)(l_:List Part)(k_0:Nat)(s_0:Int×Int×List (Int×Bool)):Unit⊕(Int×Int×List (Int×Bool)):=(bif(((!(aC ((l_.getD k_0 (default:Part)).farm) 0 (IntKind.i64.wrap ((d.farms.length:Int) - 1)))) ||(dp .int .bool s_0.2.2 ((l_.getD k_0 (default:Part)).farm))) ||(decide ((l_.getD k_0 (default:Part)).share.n≤0)))then .inl ()else(bif((eA ({ n:=s_0.1,d:=s_0.2.1}:Ratio) ((l_.getD k_0 (default:Part)).share)).2 !=0)then .inl ()else .inr (((eA ({ n:=s_0.1,d:=s_0.2.1}:Ratio) ((l_.getD k_0 (default:Part)).share)).1).n,((eA ({ n:=s_0.1,d:=s_0.2.1}:Ratio) ((l_.getD k_0 (default:Part)).share)).1).d,(eO .int .bool s_0.2.2 ((l_.getD k_0 (default:Part)).farm) true))))
def gJ (d:District)(l_:List Part)(k_0:Nat)(s_0:Int×Int×List (Int×Bool)):Prop:=(d.farms.length≤cd→((((!(aC ((l_.getD k_0 (default:Part)).farm) 0 (IntKind.i64.wrap ((d.farms.length:Int) - 1)))) ||(dp .int .bool s_0.2.2 ((l_.getD k_0 (default:Part)).farm))) ||(decide ((l_.getD k_0 (default:Part)).share.n≤0)))=false→(li ({ n:=s_0.1,d:=s_0.2.1}:Ratio) ((l_.getD k_0 (default:Part)).share))))
def f_ (d:District)(l_:List Part):Bool:=(match ay (eJ d l_) l_.length 0 (0,1,[])with| .inl x_0_0=>false| .inr s_0=>((aC (l_.length:Int) 1 16)&&((s_0.1==1)&&(s_0.2.1==1))))
def gz (d:District)(l_:List Part):Prop:=(l_.length≤cd→okI (eJ d l_) (gJ d l_) l_.length 0 (0,1,[]))
@[go_sem] def lU:List SV→Option Con:=(pD .district fun d=>(pR .part fun l_=>(pE (.det (gz d l_) (.v (.bool (f_ d l_)))))))
theorem pY:FnOk Tryz.prog 67 lU:=by
 have hG:ConsOk Tryz.prog (mkG [(47,gW),(91,rF)] []):=aX (cgc iG (cgc wD cg0)) cg0
 refine co [.o] mixed aH hG (fn:=Tryz.f67) (c:=ae Tryz.f67) (by kernel_rfl) (by kernel_rfl) (by kernel_rfl) (by kernel_rfl) (cB fun d=>(fM fun l_=>(bD (fun hp=>?_))))
 dsimp only[bo]at hp
 unfold gz at hp
 refine⟨Nat.le_of_ble_eq_true rfl,(fun id st=>bif Nat.beq id 0 then some (LCR (ρ:=Unit) (σ:=(Int×Int×List (Int×Bool))) 3 [] [0,1,2] (fun k_0 s_0=>⟨[(1,.rs .part l_),(2,.ptr 0 0),(5,.ptr 2 0),(6,.os 1),(13,.rs .part l_),(14,.v (.int .i64 (l_.length:Int))),(15,.v (.int .i64 (k_0:Int)))],[.cells (cellsOf .district d),.mp .int .bool s_0.2.2 none,.cells [.v (.int .i64 s_0.1),.v (.int .i64 s_0.2.1)]]⟩) (eJ d l_) (gJ d l_) l_.length (0,1,[]) (l_.length≤cd) (fun _=>.ret) (fun x_0_0=>⟨[(4,.v (.bool false))],[.dead,.dead,.dead]⟩) st)else none),?_,?_⟩
 ·unfold ae Tryz.f67
  simp only[ar,true_and,and_true]
  ·refine dJ mixed aH hG (by kernel_rfl) (fun _=>rfl) (l_.length:Int) rfl lu (fun hb0 k_0 s_0 hlt0 hq0 hw hc=>⟨L0,am _,?_⟩) (fun hb0 s_0 hc=>?_)
   ·unfold gJ at hq0
    try simp only[hw,Int.toNat_natCast]at hq0
    exact Eg
   ·exact Eh
 ·unfold ae Tryz.f67
  try unfold f_
  simp only[go_sem,Nat.reduceBEq,Nat.reduceLeDiff,Nat.reduceLT,decide_true,Nat.reduceAdd,Nat.reduceSub,Nat.reduceMul,Int.reduceLE,Int.reduceLT,Int.reduceToNat,Int.reduceNeg,reduceCtorEq]
  all_goals exact cl
def ct (a0:District)(a1:List (Int×Deed))(a2:Deed):Bool:=(bif((((!(aC a2.no 0 1048576)) ||(!(aC a2.at_ 0 4096))) ||(!(aC a2.known 0 1048576))) ||(!(gX a2)))then false else(bif(a2.kind==1)then(((((aC a2.right 0 (IntKind.i64.wrap ((a0.rights.length:Int) - 1)))&&((a0.rights.getD (Int.toNat a2.right) (default:Right)).kind==1))&&(aC a2.since 0 (IntKind.i64.wrap ((a0.farms.length:Int) - 1))))&&(aC a2.to 0 (IntKind.i64.wrap ((a0.farms.length:Int) - 1))))&&(a2.to !=a2.since))else(bif(a2.kind==2)then((((aC a2.right 0 (IntKind.i64.wrap ((a0.rights.length:Int) - 1)))&&((a0.rights.getD (Int.toNat a2.right) (default:Right)).kind==1))&&(aC a2.since 0 (IntKind.i64.wrap ((a0.farms.length:Int) - 1))))&&(f_ a0 a2.parts))else(bif(a2.kind==3)then(((aC a2.right 0 (IntKind.i64.wrap ((a0.rights.length:Int) - 1)))&&((a0.rights.getD (Int.toNat a2.right) (default:Right)).kind==1))&&(aC a2.since 0 (IntKind.i64.wrap ((a0.farms.length:Int) - 1))))else(bif(a2.kind==4)then(((mS .int .deed a1 a2.of_)&&((dp .int .deed a1 a2.of_).kind !=4))&&(decide (a2.known≥(dp .int .deed a1 a2.of_).known)))else false)))))
def g9 (a0:District)(a1:List (Int×Deed))(a2:Deed):Prop:=(((((!(aC a2.no 0 1048576)) ||(!(aC a2.at_ 0 4096))) ||(!(aC a2.known 0 1048576))) ||(!(gX a2)))=false→(a0.farms.length≤cd→(a0.rights.length≤cd→(((aC a2.right 0 (IntKind.i64.wrap ((a0.rights.length:Int) - 1)))=true→(0≤a2.right∧a2.right< (a0.rights.length:Int)))∧((a2.kind==1)=false→((a2.kind==2)=true→((((aC a2.right 0 (IntKind.i64.wrap ((a0.rights.length:Int) - 1)))&&((a0.rights.getD (Int.toNat a2.right) (default:Right)).kind==1))&&(aC a2.since 0 (IntKind.i64.wrap ((a0.farms.length:Int) - 1))))=true→(gz a0 a2.parts))))))))
@[go_sem] def mJ:List SV→Option Con:=(pD .district fun a0=>(pM .int .deed fun a1=>(pD .deed fun a2=>(pE (.det (g9 a0 a1 a2) (.v (.bool (ct a0 a1 a2))))))))
theorem qY:FnOk Tryz.prog 43 mJ:=by
 have hG:ConsOk Tryz.prog (mkG [(47,gW),(66,fun l=>mI (dN [.st .deed] l)),(67,fun l=>lU (dN [.st .district,.sl .part] l))] []):=aX (cgc iG (cgc (qX.norm [.st .deed]) (cgc (pY.norm [.st .district,.sl .part]) cg0))) cg0
 refine co [.o] mixed aH hG (fn:=Tryz.f43) (c:=ae Tryz.f43) (by kernel_rfl) (by kernel_rfl) (by kernel_rfl) (by kernel_rfl) (cB fun a0=>(J0 fun a1=>(cB fun a2=>(bD (fun hp=>?_)))))
 dsimp only[bo]at hp
 unfold g9 at hp
 refine⟨Nat.le_of_ble_eq_true rfl,L0,am _,?_⟩
 ·unfold ae Tryz.f43
  try unfold ct
  simp only[go_sem,Nat.reduceBEq,Nat.reduceLeDiff,Nat.reduceLT,decide_true,Nat.reduceAdd,Nat.reduceSub,Nat.reduceMul,Int.reduceLE,Int.reduceLT,Int.reduceToNat,Int.reduceNeg,reduceCtorEq]
  all_goals exact cl
def cI (x:Deed):Bool:=(decide ((x.parts.length:Int) > 16))
@[go_sem] def kM:List SV→Option Con:=(pD .deed fun x=>(pE (.det True (.v (.bool (cI x))))))
theorem oc:FnOk Tryz.prog 42 kM:=by
 have hG:ConsOk Tryz.prog (mkG [] []):=aX cg0 cg0
 refine co [.o] mixed aH hG (fn:=Tryz.f42) (c:=ae Tryz.f42) (by kernel_rfl) (by kernel_rfl) (by kernel_rfl) (by kernel_rfl) (cB fun x=>(bD (fun hp=>?_)))
 dsimp only[bo]at hp
 refine⟨Nat.le_of_ble_eq_true rfl,L0,am _,?_⟩
 ·unfold ae Tryz.f42
  try unfold cI
  simp only[go_sem,Nat.reduceBEq,Nat.reduceLeDiff,Nat.reduceLT,decide_true,Nat.reduceAdd,Nat.reduceSub,Nat.reduceMul,Int.reduceLE,Int.reduceLT,Int.reduceToNat,Int.reduceNeg,reduceCtorEq]
  all_goals exact cl
@[go_sem] def bM (s_:List Deed)(k_0:Nat)(s_0:Unit):Int⊕Unit:=(bif(cI (s_.getD k_0 (default:Deed)))then .inl (k_0:Int)else .inr ())
def cC (s_:List Deed):Int:=(match ay (bM s_) s_.length 0 ()with| .inl x_0_0=>x_0_0| .inr s_0=>(-1))
@[go_sem] def c_:List SV→Option Con:=(pR .deed fun s_=>(pFn 42 (pE ((pE (.det True (.v (.int .i64 (cC s_)))))))))
theorem d4:FnOk Tryz.prog 65 c_:=by
 have hG:ConsOk Tryz.prog (mkG [(42,fun l=>kM (dN [.st .deed] l))] []):=aX (cgc (oc.norm [.st .deed]) cg0) cg0
 refine co [.o] mixed aH hG (fn:=Tryz.f65) (c:=ae Tryz.f65) (by kernel_rfl) (by kernel_rfl) (by kernel_rfl) (by kernel_rfl) (fM fun s_=>(pK (bD ((bD (fun hp=>?_))))))
 dsimp only[bo]at hp
 refine⟨Nat.le_of_ble_eq_true rfl,(fun id st=>bif Nat.beq id 0 then some (LCR (ρ:=Int) (σ:=Unit) 0 [] [] (fun k_0 s_0=>⟨[(0,.rs .deed s_),(1,.fn 42 [] []),(7,.v (.int .i64 (s_.length:Int))),(8,.v (.int .i64 (k_0:Int)))],[]⟩) (bM s_) pT s_.length () (s_.length≤cd) (fun _=>.ret) (fun x_0_0=>⟨[(4,.v (.int .i64 x_0_0))],[]⟩) st)else none),?_,?_⟩
 ·unfold ae Tryz.f65
  simp only[ar,true_and,and_true]
  ·refine dJ mixed aH hG (by kernel_rfl) (fun _=>rfl) (s_.length:Int) rfl lu (fun hb0 k_0 s_0 hlt0 _ hw hc=>⟨L0,am _,?_⟩) (fun hb0 s_0 hc=>?_)
   ·exact nQ
   ·exact nR
 ·unfold ae Tryz.f65
  try unfold cC
  simp only[go_sem,Nat.reduceBEq,Nat.reduceLeDiff,Nat.reduceLT,decide_true,Nat.reduceAdd,Nat.reduceSub,Nat.reduceMul,Int.reduceLE,Int.reduceLT,Int.reduceToNat,Int.reduceNeg,reduceCtorEq]
  all_goals exact cl
@[go_sem] noncomputable def c5:List SV→Option Con:=fun l=>(c_ l)
theorem ga:FnOk Tryz.prog 65 c5:=d4
def aR (s_:List Deed):Bool:=(decide ((cC s_)≥0))
@[go_sem] def dM:List SV→Option Con:=(pR .deed fun s_=>(pFn 42 (pE ((pE (.det True (.v (.bool (aR s_)))))))))
theorem fN:FnOk Tryz.prog 41 dM:=by
 have hG:ConsOk Tryz.prog (mkG [(65,fun l=>c5 (dN [.sl .deed,.o] l))] []):=aX (cgc (ga.norm [.sl .deed,.o]) cg0) cg0
 refine co [.o] mixed aH hG (fn:=Tryz.f41) (c:=ae Tryz.f41) (by kernel_rfl) (by kernel_rfl) (by kernel_rfl) (by kernel_rfl) (fM fun s_=>(pK (bD ((bD (fun hp=>?_))))))
 dsimp only[bo]at hp
 refine⟨Nat.le_of_ble_eq_true rfl,L0,am _,?_⟩
 ·unfold ae Tryz.f41
  try unfold aR
  simp only[go_sem,Nat.reduceBEq,Nat.reduceLeDiff,Nat.reduceLT,decide_true,Nat.reduceAdd,Nat.reduceSub,Nat.reduceMul,Int.reduceLE,Int.reduceLT,Int.reduceToNat,Int.reduceNeg,reduceCtorEq,c5]
  all_goals exact cl
@[go_sem] def dD (d:District)(l_:List Deed)(k_0:Nat)(s_0:List (Int×Deed)):Unit⊕(List (Int×Deed)):=(bif(((decide ((k_0:Int) > 0))&&(decide ((l_.getD k_0 (default:Deed)).no≤(l_.getD (Int.toNat (IntKind.i64.wrap ((k_0:Int) - 1))) (default:Deed)).no))) ||(!(ct d s_0 (l_.getD k_0 (default:Deed)))))then .inl ()else .inr (eO .int .deed s_0 ((l_.getD k_0 (default:Deed)).no) (l_.getD k_0 (default:Deed))))
def gK (d:District)(l_:List Deed)(k_0:Nat)(s_0:List (Int×Deed)):Prop:=(((decide ((k_0:Int) > 0))=true→(0≤(IntKind.i64.wrap ((k_0:Int) - 1))∧(IntKind.i64.wrap ((k_0:Int) - 1)) < (l_.length:Int)))∧(((decide ((k_0:Int) > 0))&&(decide ((l_.getD k_0 (default:Deed)).no≤(l_.getD (Int.toNat (IntKind.i64.wrap ((k_0:Int) - 1))) (default:Deed)).no)))=false→(g9 d s_0 (l_.getD k_0 (default:Deed)))))
def an (d:District)(l_:List Deed):Int:=(bif((aZ d) !=0)then(aZ d)else(bif((decide ((l_.length:Int) > 512)) ||(aR l_))then 2 else(match ay (dD d l_) l_.length 0 ([])with| .inl x_0_0=>250| .inr s_0=>0)))
def du (d:District)(l_:List Deed):Prop:=(((aZ d) !=0)=false→(l_.length≤cd→(((decide ((l_.length:Int) > 512)) ||(aR l_))=false→(l_.length≤cd→okI (dD d l_) (gK d l_) l_.length 0 ([])))))
@[go_sem] def eW:List SV→Option Con:=(pD .district fun d=>(pR .deed fun l_=>(pE (.det (du d l_) (.v (.int .i64 (an d l_)))))))
theorem fS:FnOk Tryz.prog 15 eW:=by
 have hG:ConsOk Tryz.prog (mkG [(24,fun l=>kL (dN [.st .district] l)),(41,fun l=>dM (dN [.sl .deed,.o] l)),(43,fun l=>mJ (dN [.st .district,.mp .int .deed,.st .deed] l))] []):=aX (cgc (mG.norm [.st .district]) (cgc (fN.norm [.sl .deed,.o]) (cgc (qY.norm [.st .district,.mp .int .deed,.st .deed]) cg0))) cg0
 refine co [.o] mixed aH hG (fn:=Tryz.f15) (c:=ae Tryz.f15) (by kernel_rfl) (by kernel_rfl) (by kernel_rfl) (by kernel_rfl) (cB fun d=>(fM fun l_=>(bD (fun hp=>?_))))
 dsimp only[bo]at hp
 unfold du at hp
 refine⟨Nat.le_of_ble_eq_true rfl,(fun id st=>bif Nat.beq id 0 then some (LCR (ρ:=Unit) (σ:=(List (Int×Deed))) 2 [] [0,1] (fun k_0 s_0=>⟨[(1,.rs .deed l_),(2,.ptr 0 0),(5,.os 1),(21,.rs .deed l_),(22,.v (.int .i64 (l_.length:Int))),(23,.v (.int .i64 (k_0:Int)))],[.cells (cellsOf .district d),.mp .int .deed s_0 none]⟩) (dD d l_) (gK d l_) l_.length ([]) (l_.length≤cd) (fun _=>.ret) (fun x_0_0=>⟨[(4,.v (.int .i64 250))],[.dead,.dead]⟩) st)else none),?_,?_⟩
 ·unfold ae Tryz.f15
  simp only[ar,true_and,and_true]
  ·refine dJ mixed aH hG (by kernel_rfl) (fun _=>rfl) (l_.length:Int) rfl lu (fun hb0 k_0 s_0 hlt0 hq0 hw hc=>⟨L0,am _,?_⟩) (fun hb0 s_0 hc=>?_)
   ·unfold gK at hq0
    try simp only[hw,Int.toNat_natCast]at hq0
    exact nv
   ·exact ny
 ·unfold ae Tryz.f15
  try unfold an
  simp only[go_sem,Nat.reduceBEq,Nat.reduceLeDiff,Nat.reduceLT,decide_true,Nat.reduceAdd,Nat.reduceSub,Nat.reduceMul,Int.reduceLE,Int.reduceLT,Int.reduceToNat,Int.reduceNeg,reduceCtorEq]
  all_goals exact cl
end Go.Sx
end
section
namespace Go.Sx
open Go.RowKit
def pXM {α:Type 1}(t t2:Tag)(k:List (t.T×t2.T)→List SV→Option α):List SV→Option α
 | .ep [s] 0::r=>pM t t2 k (s::r)
 |_=>none
@[go_sem] theorem Oa {α:Type 1}{t t2:Tag}{k:List (t.T×t2.T)→List SV→Option α}{s:SV}{r:List SV}:pXM t t2 k (.ep [s] 0::r)=pM t t2 k (s::r):=(rfl)
theorem A_ {α:Type 1}{G:List SV→α→Prop}{t t2:Tag}{k:List (t.T×t2.T)→List SV→Option α}(h:∀ n l c,k n l=some c→G (.ep [.rm t t2 n] 0::l) c):∀ l c,pXM t t2 k l=some c→G l c:=fun l c hc=>by
 unfold pXM at hc
 split at hc
 ·obtain⟨x,r,e,h1⟩:=DL hc
  simp only[List.cons.injEq]at e
  obtain⟨rfl,rfl⟩:=e
  exact h x _ c h1
 ·cases hc
section
universe u
variable {α:Type u}{G:List SV→α→Prop}
def pLS (k:List SV→Option (List SV→Option α)):List SV→Option α
 | .ls l::r=>apO (k l) r
 |_=>none
@[go_sem] theorem QG {k:List SV→Option (List SV→Option α)}{l r:List SV}:pLS k (.ls l::r)=apO (k l) r:=(rfl)
end
end Go.Sx
end
section
namespace Go.Sx
open Go.RowKit
open Classical in
noncomputable def fA {τ:Type}(A:τ→List SV)(H:τ→List Ob)(K:τ→HCon):List SV→List Ob→Option HCon:=fun l h=>if e:∃ x,l=A x∧h=H x then some (K e.choose)else none
theorem Ei (x:Deed):(⟨x.no,x.kind,x.right,x.since,x.to,x.parts,x.of_,x.at_,x.known⟩:Deed)=x:=rfl
theorem wE (d:District):(⟨d.name,d.hours,⟨d.tank.cap,d.tank.start⟩,d.reaches,d.farms,d.crops,d.rights,d.duties,d.wells⟩:District)=d:=rfl
theorem Ck {k:Tag}{x y:k.T}:cellsOf k x=cellsOf k y↔x=y:=⟨fun h=>by
 have h1:=nI x
 rw[h,nI y]at h1
 exact(Option.some.inj h1).symm,fun h=>by rw[h]⟩
theorem d5 {τ:Type}{A:τ→List SV}{H:τ→List Ob}{K:τ→HCon}{x:τ}(inj:∀ x y,A x=A y→H x=H y→x=y:=by
 intro x y h1 h2
 simp only[List.cons.injEq,SV.agg.injEq,SV.ep.injEq,SV.v.injEq,Value.int.injEq,Value.bool.injEq,Value.string.injEq,SV.fn.injEq,SV.rs.injEq,SV.rm.injEq,Ob.row.injEq,Ob.mp.injEq,Ob.cells.injEq,Ob.grid.injEq,heq_eq_eq,Ck,true_and,and_true]at h1 h2
 first|exact h2|exact h1|(simp_all [Prod.ext_iff];done)):fA A H K (A x) (H x)=some (K x):=by
 have e:∃ y,A x=A y∧H x=H y:=⟨x,rfl,rfl⟩
 unfold fA
 rw[dif_pos e]
 have:=inj _ _ e.choose_spec.1 e.choose_spec.2
 rw[←this]
theorem da {τ:Type}{A:τ→List SV}{H:τ→List Ob}{K:τ→HCon}{l:List SV}{h:List Ob}{c:HCon}(hh:fA A H K l h=some c):∃ x,l=A x∧h=H x∧c=K x:=by
 unfold fA at hh
 split at hh
 ·rename_i e
  simp only[Option.some.injEq]at hh
  exact⟨e.choose,e.choose_spec.1,e.choose_spec.2,hh.symm⟩
 ·cases hh
end Go.Sx
end
section
namespace Go.Sx
open Go.RowKit
def Cl (k:Tag)(i:Nat)(t:List (Nat×SV))(h:List Ob):SV→St
 | .v (.slice none 0 0) =>⟨(i,.os h.length)::t,h++[.row k []]⟩
 |_=>⟨t,h⟩
def Ej (k:Tag)(id off:Nat)(t:List (Nat×SV))(h:List Ob)(l:List SV):Option SV→St
 |some (.v (.slice none 0 0)) =>⟨t,bt h id (.cells (l.set off (.os h.length)))++[.row k []]⟩
 |_=>⟨t,h⟩
def He (k:Tag)(id off:Nat)(t:List (Nat×SV))(h:List Ob):Ob→St
 | .cells l=>Ej k id off t h l (nth l off)
 |_=>⟨t,h⟩
def Ek (k:Tag)(t:List (Nat×SV))(h:List Ob):SV→St
 | .ptr id off=>He k id off t h (ag h id)
 |_=>⟨t,h⟩
def yf (k:Tag):ResultVar→List (Nat×SV)→List Ob→St
 | .tmp i,t,h=>Cl k i t h (lk i t)
 | .cell i _,t,h=>Ek k t h (lk i t)
def tO:List (ResultVar×Tag)→St→St
 | [],st=>st
 |x::r,st=>tO r (yf x.2 x.1 st.t st.h)
theorem Hf (k:Tag)(r:ResultVar)(st:St):NilS st (yf k r st.t st.h):=by
 obtain⟨t,h⟩:=st
 cases r with
 |tmp i=>
  show NilS _ (Cl k i t h (lk i t))
  unfold Cl
  split
  ·rename_i e
   exact .slot _ (.refl _) e (.inl ⟨_,rfl⟩)
  ·exact .refl _
 |cell i _=>
  show NilS _ (Ek k t h (lk i t))
  unfold Ek
  split
  ·unfold He
   split
   ·rename_i e
    unfold Ej
    split
    ·rename_i e2
     exact .cell _ (.refl _) e (by rw[←dG];exact e2) (.inl ⟨_,rfl⟩)
    ·exact .refl _
   ·exact .refl _
  ·exact .refl _
theorem NilS.trans {a b c:St}(h1:NilS a b)(h2:NilS b c):NilS a c:=by
 induction h2 with
 |refl=>exact h1
 |cell o _ e1 e2 ho ih=>exact .cell o ih e1 e2 ho
 |slot o _ e1 ho ih=>exact .slot o ih e1 ho
 |slotE k _ e1 ih=>exact .slotE k ih e1
theorem J5 (l:List (ResultVar×Tag)):∀ st,NilS st (tO l st):=by
 induction l with
 |nil=>exact fun st=>.refl _
 |cons x r ih=>exact fun st=>(Hf x.2 x.1 st).trans (ih _)
def Ba (l:List (ResultVar×Tag))(rs:List ResultVar)(ts:Tis)(post:SV→Prop)(pp:Value→Prop):Ex→St→Prop
 | .exit _,_=>False
 | .normal,st=>c9 post (oI true rs ts (tO l st))
 | .ret,st=>c9 post (oI true rs ts (tO l st))
 | .pan x,_=>pp x
section
variable {l:List (ResultVar×Tag)}{rs:List ResultVar}{ts:Tis}{post:SV→Prop}{pp:Value→Prop}{st:St}{k:Tag}{i id off:Nat}{t:List (Nat×SV)}{h:List Ob}{m:List SV}
@[go_sem] theorem Mn:Ba l rs ts post pp .ret st=c9 post (oI true rs ts (tO l st)):=(rfl)
@[go_sem] theorem Hg:Ba l rs ts post pp .normal st=c9 post (oI true rs ts (tO l st)):=(rfl)
@[go_sem] theorem Mo {x:Value}:Ba l rs ts post pp (.pan x) st=pp x:=(rfl)
@[go_sem] theorem Oc:tO [] st=st:=(rfl)
@[go_sem] theorem Mq {r:ResultVar}:tO ((r,k)::l) ⟨t,h⟩=tO l (yf k r t h):=(rfl)
@[go_sem] theorem Mr:yf k (.tmp i) t h=Cl k i t h (lk i t):=(rfl)
@[go_sem] theorem J6 {ty:TypeId}:yf k (.cell i ty) t h=Ek k t h (lk i t):=(rfl)
@[go_sem] theorem Od:Cl k i t h (.v (.slice none 0 0))=⟨(i,.os h.length)::t,h++[.row k []]⟩:=(rfl)
@[go_sem] theorem PU:Cl k i t h (.os id)=⟨t,h⟩:=(rfl)
@[go_sem] theorem Oe:Ek k t h (.ptr id off)=He k id off t h (ag h id):=(rfl)
@[go_sem] theorem J7:He k id off t h (.cells m)=Ej k id off t h m (nth m off):=(rfl)
@[go_sem] theorem Of:Ej k id off t h m (some (.v (.slice none 0 0)))=⟨t,bt h id (.cells (m.set off (.os h.length)))++[.row k []]⟩:=(rfl)
@[go_sem] theorem PV:Ej k id off t h m (some (.os i))=⟨t,h⟩:=(rfl)
attribute [go_sem] List.set_cons_zero
end
section
variable {P:Program}{ts:Tis}{G:Cons}
theorem oV (l:List (ResultVar×Tag)) (hm:P.follows .mixedOrders=true) (hts:ts.ok P) (hG:ConsOk P G) {f:FuncId} {fn:Func} {c:Code} (hf:P.funcs[f]? =some fn) (hb:fn.body=some c) (hname:(fn.name== "runtime.NumGoroutine")=false)
  (hc:ce fn.ntmps c=true) {C:List SV→Option Con}
  (h:∀ l0 con,C l0=some con→bo con→l0.length≤fn.ntmps∧∃ L,ar P none fn.ntmps L c∧exec ts G L c ⟨iw 0 l0,[]⟩ (Ba l fn.results.toList ts (cL con) (ib con))):FnOk P f C:=by
 refine⟨fun l con _ args w=>?_,fun l0 con hcon hpre F w vs hF hvs=>?_⟩
 ·have hn:¬fn.name= "runtime.NumGoroutine":=by simpa using hname
  simp[callFunc,hf,hn,hb]
 ·obtain⟨hlen,L,hl,hx⟩:=h l0 con hcon hpre
  refine kE (n:=0) (callsIn_of_wp_marks hf hb trivial ?_)
  have hr:StRel F { w:=w,own:=cg} fn.ntmps cg ⟨iw 0 l0,[]⟩ { tmps:=vs++Array.replicate (fn.ntmps - vs.size) undef,defers:=[]} w:=
   ⟨by have:=hvs.1;simp;omega,Dfr.nil,pG hF,Fr.refl _,fun t=>jH hvs _ t⟩
  refine wpIn_mono (j_ hm hts hG c hc hl F _ _ hx cg _ w hr) ?_
  intro e a' w' hq
  have key:∀ F1 own st,(∀ b,F b→F1 b)→StRel F1 { w:=w,own:=cg} fn.ntmps own st a' w'→c9 (cL con) (oI true fn.results.toList ts (tO l st))→LeavesInM (rd none) 0 P fn a'.tmps
    (fun e w'=>(∃ s u own',cL con s∧e=.returned u∧Handed F w own' w' s u∧Below w.heap.size w w')∨(∃ x,ib con x∧e=.panicked [{ v:=x,recovered:=false}]∧Below w.heap.size w w')) a'.defers .returning w':=by
   intro F1 own0' st0 hF1 hst0 hdone
   obtain⟨own,hst⟩:=(J5 l st0).rel hst0
   generalize tO l st0=st at hst hdone
   refine gT hst (by simp) fun w2 hst2=>?_
   have hst3:=hst2.less hF1 rfl
   unfold oI at hdone
   cases hs:iX (h_ ts st fn.results.toList)with
   |none=>
    simp only[cond_true,BB]at hdone;rw[hs]at hdone;exact hdone.elim
   |some s=>
    obtain⟨u,e1,e2⟩:=pF (P:=P) hts hst3 hs
    refine⟨u,e1,.inl ?_⟩
    simp only[cond_true,BB]at hdone
    rw[hs]at hdone
    change c9 (cL con) (rk st.h s)at hdone
    cases hg:rk st.h s with
    |none=>rw[hg]at hdone;exact hdone.elim
    |some s2=>
     rw[hg]at hdone
     obtain⟨own',hh⟩:=AS hst3 e2 hg
     exact⟨_,u,own',hdone,rfl,hh,jG hst3.fr⟩
  cases e with
  |normal=>obtain⟨F1,own,st,h0,h1,h2⟩:=hq;exact key F1 own st h0 h1 h2
  |ret=>obtain⟨F1,own,st,h0,h1,h2⟩:=hq;exact key F1 own st h0 h1 h2
  |exit id=>obtain⟨F1,own,st,h0,h1,h2⟩:=hq;exact h2.elim
  |panic ch=>
   obtain⟨x,F1,own,st,h0,h1,h2,rfl⟩:=hq
   exact gT h1 (by simp) fun w2 hst2=>.inr ⟨x,h2,rfl,jG hst2.fr⟩
  |_=>exact hq.elim
end
end Go.Sx
end
section
namespace Go.Sx
open Go.Proofs
set_option maxRecDepth 100000
set_option linter.unusedSimpArgs false
theorem El {p:Prop}(h:p:=by(first|done|(repeat' (first|with_reducible refine And.intro ?_ ?_|((with_reducible show _≠_);first|assumption|omega|(simp_all [b8,cn];done) |grind) |with_reducible intro _)) <;>(first|done|with_reducible exact Empty.elim ‹Empty› |with_reducible assumption|rfl|omega|assumption|decide|exact fk [0,1,0] |exact fk [0,1,2] |exact czl|(simp only[*,cond_true,cond_false,Bool.not_true,Bool.not_false,go_sem,Nat.reduceBEq,Nat.reduceLeDiff,Nat.reduceLT,decide_true,Nat.reduceAdd,Nat.reduceSub,Nat.reduceMul,Int.reduceLE,Int.reduceLT,Int.reduceToNat,Int.reduceNeg,reduceCtorEq];(repeat' (first|with_reducible refine And.intro ?_ ?_|((with_reducible show _≠_);first|assumption|omega|(simp_all [b8,cn];done) |grind) |with_reducible intro _)) <;>(first|done|assumption|rfl|omega|decide|exact fk [0,1,0] |exact fk [0,1,2] |(simp_all [b8,cn];done))) |(simp_all [okI,b8,cn];done) |(simp_all [b8,cn];(first|done|exact fk2 [0,1,0] |exact fk2 [0,1,2])) |exact fk2 [0,1,0] |exact fk2 [0,1,2]))):p:=h
theorem Em {p:Prop}(h:p:=by simp only[go_sem,Nat.reduceBEq,Nat.reduceLeDiff,Nat.reduceLT,decide_true,Nat.reduceAdd,Nat.reduceSub,Nat.reduceMul,Int.reduceLE,Int.reduceLT,Int.reduceToNat,Int.reduceNeg,reduceCtorEq];all_goals exact qV):p:=h
@[go_sem] def gL:List SV→Option Con:=pR .deed fun l=>pE (.det (l.length*88≤iv) (.nw .deed l))
theorem jK:FnOk Tryz.prog 40 gL:=by
 have hG:ConsOk Tryz.prog (mkG [] []):=aX cg0 cg0
 refine oV [(.tmp 2,.deed)] mixed aH hG (fn:=Tryz.f40) (c:=ae Tryz.f40) (by kernel_rfl) (by kernel_rfl) (by kernel_rfl) (by kernel_rfl) (fM fun l=>bD fun hp=>?_)
 dsimp only[bo]at hp
 refine⟨Nat.le_of_ble_eq_true rfl,L0,am _,?_⟩
 unfold ae Tryz.f40
 simp only[go_sem,Nat.reduceBEq,Nat.reduceLeDiff,Nat.reduceAdd,Nat.reduceSub,Nat.reduceMul,Int.reduceLE,Int.reduceLT,Int.reduceToNat,Int.reduceNeg,reduceCtorEq]
 intro b hb
 refine⟨fun h=>?_,fun _=>⟨hp,fun _=>rfl⟩⟩
 have hl:=hb h
 subst hl
 rfl
def dT (z:Deed)(no:Int):Int:=(cW z.no no)
@[go_sem] def lV:List SV→Option Con:=(pD .deed fun z=>(pI fun no=>(pE (.det True (.v (.int .i64 (dT z no)))))))
theorem pZ:FnOk Tryz.prog 37 lV:=by
 have hG:ConsOk Tryz.prog (mkG [(38,eF)] []):=aX (cgc fv cg0) cg0
 refine co [.o] mixed aH hG (fn:=Tryz.f37) (c:=ae Tryz.f37) (by kernel_rfl) (by kernel_rfl) (by kernel_rfl) (by kernel_rfl) (cB fun z=>(dQ fun no=>(bD (fun hp=>?_))))
 dsimp only[bo]at hp
 refine⟨Nat.le_of_ble_eq_true rfl,L0,am _,?_⟩
 ·unfold ae Tryz.f37
  try unfold dT
  simp only[go_sem,Nat.reduceBEq,Nat.reduceLeDiff,Nat.reduceLT,decide_true,Nat.reduceAdd,Nat.reduceSub,Nat.reduceMul,Int.reduceLE,Int.reduceLT,Int.reduceToNat,Int.reduceNeg,reduceCtorEq]
  all_goals exact cl
@[go_sem] def aj (x:List Deed)(target:Int)(k_0:Nat)(s_0:Int×Int):Int⊕(Int×Int):=(bif(decide (s_0.1<s_0.2))then(bif(decide ((dT (x.getD (Int.toNat (IntKind.i64.wrap (bg .u64 (IntKind.u64.wrap (IntKind.i64.wrap (s_0.1+s_0.2))) 1))) (default:Deed)) target) <0))then .inr ((IntKind.i64.wrap ((IntKind.i64.wrap (bg .u64 (IntKind.u64.wrap (IntKind.i64.wrap (s_0.1+s_0.2))) 1))+1)),s_0.2)else .inr (s_0.1,(IntKind.i64.wrap (bg .u64 (IntKind.u64.wrap (IntKind.i64.wrap (s_0.1+s_0.2))) 1))))else .inl s_0.1)
def aF (x:List Deed)(target:Int)(k_0:Nat)(s_0:Int×Int):Prop:=((decide (s_0.1<s_0.2))=true→(0≤(IntKind.i64.wrap (bg .u64 (IntKind.u64.wrap (IntKind.i64.wrap (s_0.1+s_0.2))) 1))∧(IntKind.i64.wrap (bg .u64 (IntKind.u64.wrap (IntKind.i64.wrap (s_0.1+s_0.2))) 1)) < (x.length:Int)))
def al (x:List Deed)(target:Int):Int×Bool:=(match ay (aj x target) (x.length+1) 0 (0,(x.length:Int))with| .inl x_0_0=>(x_0_0,((decide (x_0_0< (x.length:Int)))&&((dT (x.getD (Int.toNat x_0_0) (default:Deed)) target) ==0))) | .inr s_0=>default)
def bB (x:List Deed)(target:Int):Prop:=(x.length≤cd→(okI (aj x target) (aF x target) (x.length+1) 0 (0,(x.length:Int))∧(∀ z_,ay (aj x target) (x.length+1) 0 (0,(x.length:Int))≠ .inr z_)∧(∀ x_0_0,ay (aj x target) (x.length+1) 0 (0,(x.length:Int))=.inl x_0_0→((decide (x_0_0< (x.length:Int)))=true→(0≤x_0_0∧x_0_0< (x.length:Int))))))
@[go_sem] def dc:List SV→Option Con:=(pR .deed fun x=>(pI fun target=>(pFn 37 (pE ((pE (.det (bB x target) (.tup [.v (.int .i64 ((al x target).1)),.v (.bool ((al x target).2))]))))))))
theorem ez:FnOk Tryz.prog 36 dc:=by
 have hG:ConsOk Tryz.prog (mkG [(37,fun l=>lV (dN [.st .deed,.o] l))] []):=aX (cgc (pZ.norm [.st .deed,.o]) cg0) cg0
 refine co [.o,.o] mixed aH hG (fn:=Tryz.f36) (c:=ae Tryz.f36) (by kernel_rfl) (by kernel_rfl) (by kernel_rfl) (by kernel_rfl) (fM fun x=>(dQ fun target=>(pK (bD ((bD (fun hp=>?_)))))))
 dsimp only[bo]at hp
 unfold bB at hp
 refine⟨Nat.le_of_ble_eq_true rfl,(fun id st=>bif Nat.beq id 0 then some (LCV (ρ:=Int) (σ:=(Int×Int)) 0 [] [] (fun k_0 s_0=>⟨[(0,.rs .deed x),(1,.v (.int .i64 target)),(2,.fn 37 [] []),(8,.v (.int .i64 (x.length:Int))),(9,.v (.int .i64 s_0.1)),(10,.v (.int .i64 s_0.2))],[]⟩) (aj x target) (aF x target) (x.length+1) (0,(x.length:Int)) (fun _=>.normal) (fun x_0_0=>⟨[(0,.rs .deed x),(1,.v (.int .i64 target)),(2,.fn 37 [] []),(8,.v (.int .i64 (x.length:Int))),(9,.v (.int .i64 x_0_0))],[]⟩) st)else none),?_,?_⟩
 ·unfold ae Tryz.f36
  simp only[ar,true_and,and_true]
  ·refine eV mixed aH hG (by kernel_rfl) (fun _=>rfl) fun k_0 s_0 hq0=>⟨L0,am _,?_⟩
   ·unfold aF at hq0
    exact Em
 ·unfold ae Tryz.f36
  try unfold al
  simp only[go_sem,Nat.reduceBEq,Nat.reduceLeDiff,Nat.reduceLT,decide_true,Nat.reduceAdd,Nat.reduceSub,Nat.reduceMul,Int.reduceLE,Int.reduceLT,Int.reduceToNat,Int.reduceNeg,reduceCtorEq]
  all_goals exact cl
def bb (l_:List Deed)(v_:List Deed):List Deed:=(bif((v_.length:Int) ==0)then l_ else(l_++v_))
def bI (l_:List Deed)(v_:List Deed):Prop:=((0≤(l_.length:Int)∧(l_.length:Int)≤(l_.length:Int))∧(v_.length≤cd→(((v_.length:Int) ==0)=false→(l_.length≤cd→((l_++v_).length*88≤iv)))))
noncomputable def dA:List SV→List Ob→Option HCon:=fA (fun x_:Int×(List Deed)×(List Deed) =>[.os 0,.v (.int .i64 x_.1),.os 1]) (fun x_=>[.row .deed x_.2.1,.row .deed x_.2.2]) (fun x_=>d8 (x_.1=(x_.2.1.length:Int)∧(bI x_.2.1 x_.2.2)) (.os 2) [.dead,.row .deed x_.2.2,.row .deed (bb x_.2.1 x_.2.2)])
@[go_sem] theorem od (i:Int)(l_:List Deed)(v_:List Deed):dA ([.os 0,.v (.int .i64 i),.os 1]) ([.row .deed l_,.row .deed v_])=some (d8 (i=(l_.length:Int)∧(bI l_ v_)) (.os 2) [.dead,.row .deed v_,.row .deed (bb l_ v_)]):=d5 (A:=fun x_:Int×(List Deed)×(List Deed) =>[.os 0,.v (.int .i64 x_.1),.os 1]) (H:=fun x_=>[.row .deed x_.2.1,.row .deed x_.2.2]) (K:=fun x_=>d8 (x_.1=(x_.2.1.length:Int)∧(bI x_.2.1 x_.2.2)) (.os 2) [.dead,.row .deed x_.2.2,.row .deed (bb x_.2.1 x_.2.2)]) (x:=(i,l_,v_))
theorem ii:FnOkO Tryz.prog 39 (dA):=by
 have hG:ConsOk Tryz.prog (mkG [] []):=aX cg0 cg0
 refine eU mixed aH hG (fn:=Tryz.f39) (c:=ae Tryz.f39) (by kernel_rfl) (by kernel_rfl) (by kernel_rfl) (by kernel_rfl) fun l o con h=>?_
 obtain⟨⟨i,l_,v_⟩,rfl,rfl,rfl⟩:=da h
 clear h
 try dsimp only
 refine⟨_,_,_,rfl,fun hp=>?_⟩
 obtain⟨rfl,hp⟩:=hp
 unfold bI at hp
 refine⟨Nat.le_of_ble_eq_true rfl,L0,?_,?_⟩
 ·unfold ae Tryz.f39
  simp only[ar,and_self,true_and,and_true]
 ·unfold ae Tryz.f39
  try unfold bb
  simp only[go_sem,Nat.reduceBEq,Nat.reduceLeDiff,Nat.reduceLT,decide_true,Nat.reduceAdd,Nat.reduceSub,Nat.reduceMul,Int.reduceLE,Int.reduceLT,Int.reduceToNat,Int.reduceNeg,reduceCtorEq,beq_self_eq_true]
  all_goals exact El
def iH (d:District)(l_:List Deed)(x:Deed):List Deed×Int:=(bif((an d l_) !=0)then([],(an d l_))else(bif(al l_ x.no).2 then([],171)else(bif((an d (bb l_ ([x]))) !=0)then([],(an d (bb l_ ([x]))))else((bb l_ ([x])),0))))
def eX (d:District)(l_:List Deed)(x:Deed):Prop:=((du d l_)∧(((an d l_) !=0)=false→((bB l_ x.no)∧((al l_ x.no).2=false→((l_.length*88≤iv)∧(((al l_ x.no).1=(l_.length:Int))∧((bI l_ ([x]))∧(du d (bb l_ ([x]))))))))))
@[go_sem] def kO:List SV→Option Con:=(pD .district fun d=>(pR .deed fun l_=>(pD .deed fun x=>(pE (.det (eX d l_ x) (.tup [.nw .deed ((iH d l_ x).1),.v (.int .i64 ((iH d l_ x).2))]))))))
theorem mK:FnOk Tryz.prog 13 kO:=by
 have hG:ConsOk Tryz.prog (mkG [(15,fun l=>eW (dN [.st .district,.sl .deed] l)),(36,fun l=>dc (dN [.sl .deed,.o,.o] l)),(40,fun l=>gL (dN [.sl .deed] l))] [(39,dA)]):=aX (cgc (fS.norm [.st .district,.sl .deed]) (cgc (ez.norm [.sl .deed,.o,.o]) (cgc (jK.norm [.sl .deed]) cg0))) (cgc ii cg0)
 refine oV [(.tmp 6,.deed)] mixed aH hG (fn:=Tryz.f13) (c:=ae Tryz.f13) (by kernel_rfl) (by kernel_rfl) (by kernel_rfl) (by kernel_rfl) (cB fun d=>(fM fun l_=>(cB fun x=>(bD (fun hp=>?_)))))
 dsimp only[bo]at hp
 unfold eX at hp
 refine⟨Nat.le_of_ble_eq_true rfl,L0,am _,?_⟩
 ·unfold ae Tryz.f13
  try unfold iH
  simp only[go_sem,Nat.reduceBEq,Nat.reduceLeDiff,Nat.reduceLT,decide_true,Nat.reduceAdd,Nat.reduceSub,Nat.reduceMul,Int.reduceLE,Int.reduceLT,Int.reduceToNat,Int.reduceNeg,reduceCtorEq]
  all_goals exact cl3
end Go.Sx
end
section
namespace Go.Sx
open Go.Proofs
set_option maxRecDepth 100000
set_option linter.unusedSimpArgs false
theorem En {p:Prop}(h:p:=by(first|done|(repeat' (first|with_reducible refine And.intro ?_ ?_|((with_reducible show _≠_);first|assumption|omega|(simp_all [b8,cn];done) |grind) |with_reducible intro _)) <;>(first|done|with_reducible exact Empty.elim ‹Empty› |with_reducible assumption|rfl|omega|assumption|decide|exact fk [0,1,2,3,4] |exact czl|(simp only[*,cond_true,cond_false,Bool.not_true,Bool.not_false,go_sem,Nat.reduceBEq,Nat.reduceLeDiff,Nat.reduceLT,decide_true,Nat.reduceAdd,Nat.reduceSub,Nat.reduceMul,Int.reduceLE,Int.reduceLT,Int.reduceToNat,Int.reduceNeg,reduceCtorEq];(repeat' (first|with_reducible refine And.intro ?_ ?_|((with_reducible show _≠_);first|assumption|omega|(simp_all [b8,cn];done) |grind) |with_reducible intro _)) <;>(first|done|assumption|rfl|omega|decide|exact fk [0,1,2,3,4] |(simp_all [b8,cn];done))) |(simp_all [okI,b8,cn];done) |(simp_all [b8,cn];(first|done|exact fk2 [0,1,2,3,4])) |exact fk2 [0,1,2,3,4]))):p:=h
theorem Eo {p:Prop}(h:p:=by(first|done|(repeat' (first|with_reducible refine And.intro ?_ ?_|((with_reducible show _≠_);first|assumption|omega|(simp_all [b8,cn];done) |grind) |with_reducible intro _)) <;>(first|done|with_reducible exact Empty.elim ‹Empty› |with_reducible assumption|rfl|omega|assumption|decide|exact fk [0,1,2,3,4,0] |exact fk [0,1,2,3,4,5] |exact czl|(simp only[*,cond_true,cond_false,Bool.not_true,Bool.not_false,go_sem,Nat.reduceBEq,Nat.reduceLeDiff,Nat.reduceLT,decide_true,Nat.reduceAdd,Nat.reduceSub,Nat.reduceMul,Int.reduceLE,Int.reduceLT,Int.reduceToNat,Int.reduceNeg,reduceCtorEq];(repeat' (first|with_reducible refine And.intro ?_ ?_|((with_reducible show _≠_);first|assumption|omega|(simp_all [b8,cn];done) |grind) |with_reducible intro _)) <;>(first|done|assumption|rfl|omega|decide|exact fk [0,1,2,3,4,0] |exact fk [0,1,2,3,4,5] |(simp_all [b8,cn];done))) |(simp_all [okI,b8,cn];done) |(simp_all [b8,cn];(first|done|exact fk2 [0,1,2,3,4,0] |exact fk2 [0,1,2,3,4,5])) |exact fk2 [0,1,2,3,4,0] |exact fk2 [0,1,2,3,4,5]))):p:=h
theorem Ep {p:Prop}(h:p:=by simp only[go_sem,Nat.reduceBEq,Nat.reduceLeDiff,Nat.reduceLT,decide_true,Nat.reduceAdd,Nat.reduceSub,Nat.reduceMul,Int.reduceLE,Int.reduceLT,Int.reduceToNat,Int.reduceNeg,reduceCtorEq];all_goals exact En):p:=h
def aN (x:Deed)(known:Int)(hour:Int)(void_:List (Int×Bool)):Bool:=((((x.kind==4) ||(decide (x.known > known))) ||(decide (x.at_ > hour))) ||(dp .int .bool void_ x.no))
@[go_sem] def fO:List SV→Option Con:=(pD .deed fun x=>(pX .int fun known=>(pX .int fun hour=>(pXM .int .bool fun void_=>(pE (.det True (.v (.bool (aN x known hour void_)))))))))
theorem iI:FnOk Tryz.prog 76 fO:=by
 have hG:ConsOk Tryz.prog (mkG [] []):=aX cg0 cg0
 refine co [.o] mixed aH hG (fn:=Tryz.f76) (c:=ae Tryz.f76) (by kernel_rfl) (by kernel_rfl) (by kernel_rfl) (by kernel_rfl) (cB fun x=>(wA fun known=>(wA fun hour=>(A_ fun void_=>(bD (fun hp=>?_))))))
 dsimp only[bo]at hp
 refine⟨Nat.le_of_ble_eq_true rfl,L0,am _,?_⟩
 ·unfold ae Tryz.f76
  try unfold aN
  simp only[go_sem,Nat.reduceBEq,Nat.reduceLeDiff,Nat.reduceLT,decide_true,Nat.reduceAdd,Nat.reduceSub,Nat.reduceMul,Int.reduceLE,Int.reduceLT,Int.reduceToNat,Int.reduceNeg,reduceCtorEq]
  all_goals exact cl
def cq (a:Deed)(b:Deed):Int:=(cW a.at_ b.at_)
@[go_sem] def fP:List SV→Option Con:=(pD .deed fun a=>(pD .deed fun b=>(pE (.det True (.v (.int .i64 (cq a b)))))))
theorem iJ:FnOk Tryz.prog 78 fP:=by
 have hG:ConsOk Tryz.prog (mkG [(38,eF)] []):=aX (cgc fv cg0) cg0
 refine co [.o] mixed aH hG (fn:=Tryz.f78) (c:=ae Tryz.f78) (by kernel_rfl) (by kernel_rfl) (by kernel_rfl) (by kernel_rfl) (cB fun a=>(cB fun b=>(bD (fun hp=>?_))))
 dsimp only[bo]at hp
 refine⟨Nat.le_of_ble_eq_true rfl,L0,am _,?_⟩
 ·unfold ae Tryz.f78
  try unfold cq
  simp only[go_sem,Nat.reduceBEq,Nat.reduceLeDiff,Nat.reduceLT,decide_true,Nat.reduceAdd,Nat.reduceSub,Nat.reduceMul,Int.reduceLE,Int.reduceLT,Int.reduceToNat,Int.reduceNeg,reduceCtorEq]
  all_goals exact cl
@[go_sem] def cN (s_:List Deed)(known:Int)(hour:Int)(void_:List (Int×Bool))(k_0:Nat)(s_0:Unit):Int⊕Unit:=(bif(aN (s_.getD k_0 (default:Deed)) known hour void_)then .inl (k_0:Int)else .inr ())
def ah (s_:List Deed)(known:Int)(hour:Int)(void_:List (Int×Bool)):Int:=(match ay (cN s_ known hour void_) s_.length 0 ()with| .inl x_0_0=>x_0_0| .inr s_0=>(-1))
@[go_sem] def dU:List SV→Option Con:=(pR .deed fun s_=>(pFn 76 (pX .int fun known=>(pX .int fun hour=>(pXM .int .bool fun void_=>(pE ((pE (.det True (.v (.int .i64 (ah s_ known hour void_))))))))))))
theorem fT:FnOk Tryz.prog 65 dU:=by
 have hG:ConsOk Tryz.prog (mkG [(76,fun l=>fO (dN [.st .deed,.o,.o,.o] l))] []):=aX (cgc (iI.norm [.st .deed,.o,.o,.o]) cg0) cg0
 refine co [.o] mixed aH hG (fn:=Tryz.f65) (c:=ae Tryz.f65) (by kernel_rfl) (by kernel_rfl) (by kernel_rfl) (by kernel_rfl) (fM fun s_=>(pK (wA fun known=>(wA fun hour=>(A_ fun void_=>(bD ((bD (fun hp=>?_)))))))))
 dsimp only[bo]at hp
 refine⟨Nat.le_of_ble_eq_true rfl,(fun id st=>bif Nat.beq id 0 then some (LCR (ρ:=Int) (σ:=Unit) 0 [] [] (fun k_0 s_0=>⟨[(0,.rs .deed s_),(1,.fn 76 [] [.ep [.v (.int .i64 known)] 0,.ep [.v (.int .i64 hour)] 0,.ep [.rm .int .bool void_] 0]),(7,.v (.int .i64 (s_.length:Int))),(8,.v (.int .i64 (k_0:Int)))],[]⟩) (cN s_ known hour void_) pT s_.length () (s_.length≤cd) (fun _=>.ret) (fun x_0_0=>⟨[(4,.v (.int .i64 x_0_0))],[]⟩) st)else none),?_,?_⟩
 ·unfold ae Tryz.f65
  simp only[ar,true_and,and_true]
  ·refine dJ mixed aH hG (by kernel_rfl) (fun _=>rfl) (s_.length:Int) rfl lu (fun hb0 k_0 s_0 hlt0 _ hw hc=>⟨L0,am _,?_⟩) (fun hb0 s_0 hc=>?_)
   ·exact nQ
   ·exact nR
 ·unfold ae Tryz.f65
  try unfold ah
  simp only[go_sem,Nat.reduceBEq,Nat.reduceLeDiff,Nat.reduceLT,decide_true,Nat.reduceAdd,Nat.reduceSub,Nat.reduceMul,Int.reduceLE,Int.reduceLT,Int.reduceToNat,Int.reduceNeg,reduceCtorEq]
  all_goals exact cl
@[go_sem] noncomputable def c6:List SV→Option Con:=fun l=>(orC (c_ l) (dU l))
theorem gb:FnOk Tryz.prog 65 c6:=(FnOk.or d4 fT)
@[go_sem] def aJ (l_:List Deed)(known:Int)(hour:Int)(void_:List (Int×Bool))(k_0:Nat)(s_0:List Deed×Int×Int):(Int×List Deed)⊕(List Deed×Int×Int):=(bif(decide (s_0.2.2< (s_0.1.length:Int)))then(bif(!(aN (s_0.1.getD (Int.toNat s_0.2.2) (default:Deed)) known hour void_))then .inr ((s_0.1.set (Int.toNat s_0.2.1) (s_0.1.getD (Int.toNat s_0.2.2) (default:Deed))),(IntKind.i64.wrap (s_0.2.1+1)),(IntKind.i64.wrap (s_0.2.2+1)))else .inr (s_0.1,s_0.2.1,(IntKind.i64.wrap (s_0.2.2+1))))else .inl (s_0.2.1,s_0.1))
def bu (l_:List Deed)(known:Int)(hour:Int)(void_:List (Int×Bool))(k_0:Nat)(s_0:List Deed×Int×Int):Prop:=(s_0.1.length≤cd→((decide (s_0.2.2< (s_0.1.length:Int)))=true→((0≤s_0.2.2∧s_0.2.2< (s_0.1.length:Int))∧((!(aN (s_0.1.getD (Int.toNat s_0.2.2) (default:Deed)) known hour void_))=true→(0≤s_0.2.1∧s_0.2.1< (s_0.1.length:Int))))))
def aP (l_:List Deed)(known:Int)(hour:Int)(void_:List (Int×Bool)):List Deed:=(bif((ah l_ known hour void_) ==(-1))then l_ else(match ay (aJ l_ known hour void_) (l_.length+1) 0 (l_,(ah l_ known hour void_),(IntKind.i64.wrap ((ah l_ known hour void_)+1)))with| .inl x_0_0=>(((sD .deed x_0_0.2 x_0_0.1 (x_0_0.2.length:Int)).take (Int.toNat x_0_0.1)).drop 0) | .inr s_0=>default))
def aS (l_:List Deed)(known:Int)(hour:Int)(void_:List (Int×Bool)):Prop:=(((ah l_ known hour void_) ==(-1))=false→(okI (aJ l_ known hour void_) (bu l_ known hour void_) (l_.length+1) 0 (l_,(ah l_ known hour void_),(IntKind.i64.wrap ((ah l_ known hour void_)+1)))∧(∀ z_,ay (aJ l_ known hour void_) (l_.length+1) 0 (l_,(ah l_ known hour void_),(IntKind.i64.wrap ((ah l_ known hour void_)+1)))≠ .inr z_)∧(∀ x_0_0,ay (aJ l_ known hour void_) (l_.length+1) 0 (l_,(ah l_ known hour void_),(IntKind.i64.wrap ((ah l_ known hour void_)+1)))=.inl x_0_0→((0≤x_0_0.1∧x_0_0.1≤(x_0_0.2.length:Int))∧(0≤0∧0≤x_0_0.1∧x_0_0.1≤((sD .deed x_0_0.2 x_0_0.1 (x_0_0.2.length:Int)).length:Int))))))
noncomputable def c7:List SV→List Ob→Option HCon:=fA (fun x_:(List Deed)×Int×Int×(List (Int×Bool)) =>[.os 0,.fn 76 [] [.ptr 1 0,.ptr 2 0,.ptr 3 0]]) (fun x_=>[.row .deed x_.1,.cells [.v (.int .i64 x_.2.1)],.cells [.v (.int .i64 x_.2.2.1)],.cells [.os 4],.mp .int .bool x_.2.2.2 none]) (fun x_=>d8 (aS x_.1 x_.2.1 x_.2.2.1 x_.2.2.2) (.os 5) [.dead,.cells [.v (.int .i64 x_.2.1)],.cells [.v (.int .i64 x_.2.2.1)],.cells [.os 4],.mp .int .bool x_.2.2.2 none,.row .deed (aP x_.1 x_.2.1 x_.2.2.1 x_.2.2.2)])
@[go_sem] theorem mN (l_:List Deed)(known:Int)(hour:Int)(void_:List (Int×Bool)){p4_:Option (Nat×Option Tag.int.T)}(hp4_:p4_=none):c7 ([.os 0,.fn (76:Nat) [] [.ptr 1 0,.ptr 2 0,.ptr 3 0]]) ([.row .deed l_,.cells [.v (.int .i64 known)],.cells [.v (.int .i64 hour)],.cells [.os 4],.mp .int .bool void_ p4_])=some (d8 (aS l_ known hour void_) (.os 5) [.dead,.cells [.v (.int .i64 known)],.cells [.v (.int .i64 hour)],.cells [.os 4],.mp .int .bool void_ none,.row .deed (aP l_ known hour void_)]):=by
 subst hp4_;exact d5 (A:=fun x_:(List Deed)×Int×Int×(List (Int×Bool)) =>[.os 0,.fn 76 [] [.ptr 1 0,.ptr 2 0,.ptr 3 0]]) (H:=fun x_=>[.row .deed x_.1,.cells [.v (.int .i64 x_.2.1)],.cells [.v (.int .i64 x_.2.2.1)],.cells [.os 4],.mp .int .bool x_.2.2.2 none]) (K:=fun x_=>d8 (aS x_.1 x_.2.1 x_.2.2.1 x_.2.2.2) (.os 5) [.dead,.cells [.v (.int .i64 x_.2.1)],.cells [.v (.int .i64 x_.2.2.1)],.cells [.os 4],.mp .int .bool x_.2.2.2 none,.row .deed (aP x_.1 x_.2.1 x_.2.2.1 x_.2.2.2)]) (x:=(l_,known,hour,void_))
theorem gc:FnOkO Tryz.prog 75 (c7):=by
 have hG:ConsOk Tryz.prog (mkG [(65,fun l=>c6 (dN [.sl .deed,.o] l)),(76,fun l=>fO (dN [.st .deed,.o,.o,.o] l))] []):=aX (cgc (gb.norm [.sl .deed,.o]) (cgc (iI.norm [.st .deed,.o,.o,.o]) cg0)) cg0
 refine eU mixed aH hG (fn:=Tryz.f75) (c:=ae Tryz.f75) (by kernel_rfl) (by kernel_rfl) (by kernel_rfl) (by kernel_rfl) fun l o con h=>?_
 obtain⟨⟨l_,known,hour,void_⟩,rfl,rfl,rfl⟩:=da h
 clear h
 try dsimp only
 refine⟨_,_,_,rfl,fun hp=>?_⟩
 unfold aS at hp
 refine⟨Nat.le_of_ble_eq_true rfl,(fun id st=>bif Nat.beq id 0 then some (LCV (ρ:=(Int×List Deed)) (σ:=(List Deed×Int×Int)) 5 [] [0,1,2,3,4] (fun k_0 s_0=>⟨[(0,.os 0),(1,.fn 76 [] [.ptr 1 0,.ptr 2 0,.ptr 3 0]),(5,.v (.int .i64 s_0.2.1)),(6,.v (.int .i64 s_0.2.2))],[.row .deed s_0.1,.cells [.v (.int .i64 known)],.cells [.v (.int .i64 hour)],.cells [.os 4],.mp .int .bool void_ none]⟩) (aJ l_ known hour void_) (bu l_ known hour void_) (l_.length+1) (l_,(ah l_ known hour void_),(IntKind.i64.wrap ((ah l_ known hour void_)+1))) (fun _=>.normal) (fun x_0_0=>⟨[(0,.os 0),(5,.v (.int .i64 x_0_0.1))],[.row .deed x_0_0.2,.cells [.v (.int .i64 known)],.cells [.v (.int .i64 hour)],.cells [.os 4],.mp .int .bool void_ none]⟩) st)else none),?_,?_⟩
 ·unfold ae Tryz.f75
  simp only[ar,true_and,and_true,and_assoc]
  ·refine eV mixed aH hG (by kernel_rfl) (fun _=>rfl) fun k_0 s_0 hq0=>⟨L0,am _,?_⟩
   ·unfold bu at hq0
    exact Ep
 ·unfold ae Tryz.f75
  try unfold aP
  simp only[go_sem,Nat.reduceBEq,Nat.reduceLeDiff,Nat.reduceLT,decide_true,Nat.reduceAdd,Nat.reduceSub,Nat.reduceMul,Int.reduceLE,Int.reduceLT,Int.reduceToNat,Int.reduceNeg,reduceCtorEq,c6]
  all_goals exact Eo
end Go.Sx
end
section
namespace Go.Sx
open Go.Proofs
set_option maxRecDepth 100000
set_option linter.unusedSimpArgs false
theorem gf {p:Prop}(h:p:=by simp only[go_sem,Nat.reduceBEq,Nat.reduceLeDiff,Nat.reduceLT,decide_true,Nat.reduceAdd,Nat.reduceSub,Nat.reduceMul,Int.reduceLE,Int.reduceLT,Int.reduceToNat,Int.reduceNeg,reduceCtorEq];all_goals exact fF):p:=h
@[go_sem] def aG (a:Int)(l_:List Deed)(k_1:Nat)(s_1:List Deed×Int):(List Deed)⊕(List Deed×Int):=(bif((decide (s_1.2 > a))&&(decide ((cq (s_1.1.getD (Int.toNat s_1.2) (default:Deed)) (s_1.1.getD (Int.toNat (IntKind.i64.wrap (s_1.2 - 1))) (default:Deed))) <0)))then .inr (((s_1.1.set (Int.toNat s_1.2) (s_1.1.getD (Int.toNat (IntKind.i64.wrap (s_1.2 - 1))) (default:Deed))).set (Int.toNat (IntKind.i64.wrap (s_1.2 - 1))) (s_1.1.getD (Int.toNat s_1.2) (default:Deed))),(IntKind.i64.wrap (s_1.2 - 1)))else .inl s_1.1)
def aV (a:Int)(l_:List Deed)(k_1:Nat)(s_1:List Deed×Int):Prop:=(((decide (s_1.2 > a))=true→(0≤s_1.2∧s_1.2< (s_1.1.length:Int)))∧(((decide (s_1.2 > a))=true→(0≤(IntKind.i64.wrap (s_1.2 - 1))∧(IntKind.i64.wrap (s_1.2 - 1)) < (s_1.1.length:Int)))∧(((decide (s_1.2 > a))&&(decide ((cq (s_1.1.getD (Int.toNat s_1.2) (default:Deed)) (s_1.1.getD (Int.toNat (IntKind.i64.wrap (s_1.2 - 1))) (default:Deed))) <0)))=true→((0≤(IntKind.i64.wrap (s_1.2 - 1))∧(IntKind.i64.wrap (s_1.2 - 1)) < (s_1.1.length:Int))∧((0≤s_1.2∧s_1.2< (s_1.1.length:Int))∧((0≤s_1.2∧s_1.2< (s_1.1.length:Int))∧(0≤(IntKind.i64.wrap (s_1.2 - 1))∧(IntKind.i64.wrap (s_1.2 - 1)) < ((s_1.1.set (Int.toNat s_1.2) (s_1.1.getD (Int.toNat (IntKind.i64.wrap (s_1.2 - 1))) (default:Deed))).length:Int))))))))
@[go_sem] def aA (a:Int)(b:Int)(l_:List Deed)(k_0:Nat)(s_0:List Deed×Int):(List Deed)⊕(List Deed×Int):=(bif(decide (s_0.2<b))then(match ay (aG a l_) (l_.length+1) 0 (s_0.1,s_0.2)with| .inl x_1_0=>.inr (x_1_0,(IntKind.i64.wrap (s_0.2+1))) | .inr s_1=>.inr default)else .inl s_0.1)
def aM (a:Int)(b:Int)(l_:List Deed)(k_0:Nat)(s_0:List Deed×Int):Prop:=((decide (s_0.2<b))=true→(okI (aG a l_) (aV a l_) (l_.length+1) 0 (s_0.1,s_0.2)∧(∀ z_,ay (aG a l_) (l_.length+1) 0 (s_0.1,s_0.2)≠ .inr z_)))
def aq (a:Int)(b:Int)(l_:List Deed):List Deed:=(match ay (aA a b l_) (l_.length+1) 0 (l_,(IntKind.i64.wrap (a+1)))with| .inl x_0_0=>x_0_0| .inr s_0=>default)
def aK (a:Int)(b:Int)(l_:List Deed):Prop:=(okI (aA a b l_) (aM a b l_) (l_.length+1) 0 (l_,(IntKind.i64.wrap (a+1)))∧(∀ z_,ay (aA a b l_) (l_.length+1) 0 (l_,(IntKind.i64.wrap (a+1)))≠ .inr z_))
noncomputable def cO:List SV→List Ob→Option HCon:=fA (fun x_:Int×Int×(List Deed) =>[.os 0,.v (.int .i64 x_.1),.v (.int .i64 x_.2.1),.fn 78 [] []]) (fun x_=>[.row .deed x_.2.2]) (fun x_=>d8 (aK x_.1 x_.2.1 x_.2.2) (.tup []) [.row .deed (aq x_.1 x_.2.1 x_.2.2)])
@[go_sem] theorem mL (a:Int)(b:Int)(l_:List Deed):cO ([.os 0,.v (.int .i64 a),.v (.int .i64 b),.fn 78 [] []]) ([.row .deed l_])=some (d8 (aK a b l_) (.tup []) [.row .deed (aq a b l_)]):=d5 (A:=fun x_:Int×Int×(List Deed) =>[.os 0,.v (.int .i64 x_.1),.v (.int .i64 x_.2.1),.fn 78 [] []]) (H:=fun x_=>[.row .deed x_.2.2]) (K:=fun x_=>d8 (aK x_.1 x_.2.1 x_.2.2) (.tup []) [.row .deed (aq x_.1 x_.2.1 x_.2.2)]) (x:=(a,b,l_))
theorem fU:FnOkO Tryz.prog 134 (cO):=by
 have hG:ConsOk Tryz.prog (mkG [(78,fun l=>fP (dN [.st .deed,.st .deed] l))] []):=aX (cgc (iJ.norm [.st .deed,.st .deed]) cg0) cg0
 refine eU mixed aH hG (fn:=Tryz.f134) (c:=ae Tryz.f134) (by kernel_rfl) (by kernel_rfl) (by kernel_rfl) (by kernel_rfl) fun l o con h=>?_
 obtain⟨⟨a,b,l_⟩,rfl,rfl,rfl⟩:=da h
 clear h
 try dsimp only
 refine⟨_,_,_,rfl,fun hp=>?_⟩
 unfold aK at hp
 refine⟨Nat.le_of_ble_eq_true rfl,(fun id st=>bif Nat.beq id 0 then some (LCV (ρ:=(List Deed)) (σ:=(List Deed×Int)) 1 [] [0] (fun k_0 s_0=>⟨[(0,.os 0),(1,.v (.int .i64 a)),(2,.v (.int .i64 b)),(3,.fn 78 [] []),(8,.v (.int .i64 s_0.2))],[.row .deed s_0.1]⟩) (aA a b l_) (aM a b l_) (l_.length+1) (l_,(IntKind.i64.wrap (a+1))) (fun _=>.normal) (fun x_0_0=>⟨[],[.row .deed x_0_0]⟩) st)else none),?_,?_⟩
 ·unfold ae Tryz.f134
  simp only[ar,true_and,and_true,and_assoc]
  ·refine eV mixed aH hG (by kernel_rfl) (fun _=>rfl) fun k_0 s_0 hq0=>⟨(fun id st=>bif Nat.beq id 2 then some (LCV (ρ:=(List Deed)) (σ:=(List Deed×Int)) 1 [] [0] (fun k_1 s_1=>⟨[(0,.os 0),(1,.v (.int .i64 a)),(2,.v (.int .i64 b)),(3,.fn 78 [] []),(8,.v (.int .i64 s_0.2)),(9,.v (.int .i64 s_1.2))],[.row .deed s_1.1]⟩) (aG a l_) (aV a l_) (l_.length+1) (s_0.1,s_0.2) (fun _=>.normal) (fun x_1_0=>⟨[(0,.os 0),(1,.v (.int .i64 a)),(2,.v (.int .i64 b)),(3,.fn 78 [] []),(8,.v (.int .i64 s_0.2))],[.row .deed x_1_0]⟩) st)else none),?_,?_⟩
   ·simp only[ar,true_and,and_true]
    ·refine eV mixed aH hG (by kernel_rfl) (fun _=>rfl) fun k_1 s_1 hq1=>⟨L0,am _,?_⟩
     ·unfold aV at hq1
      exact gf
   ·unfold aM at hq0
    exact gf
 ·unfold ae Tryz.f134
  try unfold aq
  simp only[go_sem,Nat.reduceBEq,Nat.reduceLeDiff,Nat.reduceLT,decide_true,Nat.reduceAdd,Nat.reduceSub,Nat.reduceMul,Int.reduceLE,Int.reduceLT,Int.reduceToNat,Int.reduceNeg,reduceCtorEq]
  all_goals exact fF
@[go_sem] def bq (a:Int)(b:Int)(n:Int)(k_0:Nat)(s_0:List Deed):Empty⊕(List Deed):=.inr ((s_0.set (Int.toNat (IntKind.i64.wrap (a+(k_0:Int)))) (s_0.getD (Int.toNat (IntKind.i64.wrap (b+(k_0:Int)))) (default:Deed))).set (Int.toNat (IntKind.i64.wrap (b+(k_0:Int)))) (s_0.getD (Int.toNat (IntKind.i64.wrap (a+(k_0:Int)))) (default:Deed)))
def bN (a:Int)(b:Int)(n:Int)(k_0:Nat)(s_0:List Deed):Prop:=((0≤(IntKind.i64.wrap (b+(k_0:Int)))∧(IntKind.i64.wrap (b+(k_0:Int))) < (s_0.length:Int))∧((0≤(IntKind.i64.wrap (a+(k_0:Int)))∧(IntKind.i64.wrap (a+(k_0:Int))) < (s_0.length:Int))∧((0≤(IntKind.i64.wrap (a+(k_0:Int)))∧(IntKind.i64.wrap (a+(k_0:Int))) < (s_0.length:Int))∧(0≤(IntKind.i64.wrap (b+(k_0:Int)))∧(IntKind.i64.wrap (b+(k_0:Int))) < ((s_0.set (Int.toNat (IntKind.i64.wrap (a+(k_0:Int)))) (s_0.getD (Int.toNat (IntKind.i64.wrap (b+(k_0:Int)))) (default:Deed))).length:Int)))))
def aO (a:Int)(b:Int)(n:Int)(l_:List Deed):List Deed:=(match ay (bq a b n) (Int.toNat n) 0 l_ with| .inl x=>x.elim| .inr s_0=>s_0)
def aL (a:Int)(b:Int)(n:Int)(l_:List Deed):Prop:=((n<9223372036854775808)∧okI (bq a b n) (bN a b n) (Int.toNat n) 0 l_)
noncomputable def dq:List SV→List Ob→Option HCon:=fA (fun x_:Int×Int×Int×(List Deed) =>[.os 0,.v (.int .i64 x_.1),.v (.int .i64 x_.2.1),.v (.int .i64 x_.2.2.1),.fn 78 [] []]) (fun x_=>[.row .deed x_.2.2.2]) (fun x_=>d8 (aL x_.1 x_.2.1 x_.2.2.1 x_.2.2.2) (.tup []) [.row .deed (aO x_.1 x_.2.1 x_.2.2.1 x_.2.2.2)])
@[go_sem] theorem nT (a:Int)(b:Int)(n:Int)(l_:List Deed):dq ([.os 0,.v (.int .i64 a),.v (.int .i64 b),.v (.int .i64 n),.fn 78 [] []]) ([.row .deed l_])=some (d8 (aL a b n l_) (.tup []) [.row .deed (aO a b n l_)]):=d5 (A:=fun x_:Int×Int×Int×(List Deed) =>[.os 0,.v (.int .i64 x_.1),.v (.int .i64 x_.2.1),.v (.int .i64 x_.2.2.1),.fn 78 [] []]) (H:=fun x_=>[.row .deed x_.2.2.2]) (K:=fun x_=>d8 (aL x_.1 x_.2.1 x_.2.2.1 x_.2.2.2) (.tup []) [.row .deed (aO x_.1 x_.2.1 x_.2.2.1 x_.2.2.2)]) (x:=(a,b,n,l_))
theorem gY:FnOkO Tryz.prog 153 (dq):=by
 have hG:ConsOk Tryz.prog (mkG [] []):=aX cg0 cg0
 refine eU mixed aH hG (fn:=Tryz.f153) (c:=ae Tryz.f153) (by kernel_rfl) (by kernel_rfl) (by kernel_rfl) (by kernel_rfl) fun l o con h=>?_
 obtain⟨⟨a,b,n,l_⟩,rfl,rfl,rfl⟩:=da h
 clear h
 try dsimp only
 refine⟨_,_,_,rfl,fun hp=>?_⟩
 unfold aL at hp
 refine⟨Nat.le_of_ble_eq_true rfl,(fun id st=>bif Nat.beq id 0 then some (LCR (ρ:=Empty) (σ:=(List Deed)) 1 [] [0] (fun k_0 s_0=>⟨[(0,.os 0),(1,.v (.int .i64 a)),(2,.v (.int .i64 b)),(3,.v (.int .i64 n)),(10,.v (.int .i64 (k_0:Int)))],[.row .deed s_0]⟩) (bq a b n) (bN a b n) (Int.toNat n) l_ (n<9223372036854775808) ((·.elim)) ((·.elim)) st)else none),?_,?_⟩
 ·unfold ae Tryz.f153
  simp only[ar,true_and,and_true,and_assoc]
  ·refine dJ mixed aH hG (by kernel_rfl) (fun _=>rfl) n rfl id (fun hb0 k_0 s_0 hlt0 hq0 hw hc=>⟨L0,am _,?_⟩) (fun hb0 s_0 hc=>?_)
   ·unfold bN at hq0
    try simp only[hw,Int.toNat_natCast]at hq0
    exact kH
   ·exact kI
 ·unfold ae Tryz.f153
  try unfold aO
  simp only[go_sem,Nat.reduceBEq,Nat.reduceLeDiff,Nat.reduceLT,decide_true,Nat.reduceAdd,Nat.reduceSub,Nat.reduceMul,Int.reduceLE,Int.reduceLT,Int.reduceToNat,Int.reduceNeg,reduceCtorEq]
  all_goals exact fF
@[go_sem] def a7 (a:Int)(m:Int)(b:Int)(k_0:Nat)(s_0:List Deed×Int×Int):(Int×List Deed)⊕(List Deed×Int×Int):=(bif(s_0.2.1 !=s_0.2.2)then(bif(decide (s_0.2.1 > s_0.2.2))then .inr ((aO (IntKind.i64.wrap (m - s_0.2.1)) m s_0.2.2 s_0.1),(IntKind.i64.wrap (s_0.2.1 - s_0.2.2)),s_0.2.2)else .inr ((aO (IntKind.i64.wrap (m - s_0.2.1)) (IntKind.i64.wrap ((IntKind.i64.wrap (m+s_0.2.2)) - s_0.2.1)) s_0.2.1 s_0.1),s_0.2.1,(IntKind.i64.wrap (s_0.2.2 - s_0.2.1))))else .inl (s_0.2.1,s_0.1))
def bY (a:Int)(m:Int)(b:Int)(k_0:Nat)(s_0:List Deed×Int×Int):Prop:=((s_0.2.1 !=s_0.2.2)=true→(((decide (s_0.2.1 > s_0.2.2))=true→(aL (IntKind.i64.wrap (m - s_0.2.1)) m s_0.2.2 s_0.1))∧((decide (s_0.2.1 > s_0.2.2))=false→(aL (IntKind.i64.wrap (m - s_0.2.1)) (IntKind.i64.wrap ((IntKind.i64.wrap (m+s_0.2.2)) - s_0.2.1)) s_0.2.1 s_0.1))))
def ak (a:Int)(m:Int)(b:Int)(l_:List Deed):List Deed:=(match ay (a7 a m b) (Int.toNat (b - a)+1) 0 (l_,(IntKind.i64.wrap (m - a)),(IntKind.i64.wrap (b - m)))with| .inl x_0_0=>(aO (IntKind.i64.wrap (m - x_0_0.1)) m x_0_0.1 x_0_0.2) | .inr s_0=>default)
def be (a:Int)(m:Int)(b:Int)(l_:List Deed):Prop:=(okI (a7 a m b) (bY a m b) (Int.toNat (b - a)+1) 0 (l_,(IntKind.i64.wrap (m - a)),(IntKind.i64.wrap (b - m)))∧(∀ z_,ay (a7 a m b) (Int.toNat (b - a)+1) 0 (l_,(IntKind.i64.wrap (m - a)),(IntKind.i64.wrap (b - m)))≠ .inr z_)∧(∀ x_0_0,ay (a7 a m b) (Int.toNat (b - a)+1) 0 (l_,(IntKind.i64.wrap (m - a)),(IntKind.i64.wrap (b - m)))=.inl x_0_0→(aL (IntKind.i64.wrap (m - x_0_0.1)) m x_0_0.1 x_0_0.2)))
noncomputable def dH:List SV→List Ob→Option HCon:=fA (fun x_:Int×Int×Int×(List Deed) =>[.os 0,.v (.int .i64 x_.1),.v (.int .i64 x_.2.1),.v (.int .i64 x_.2.2.1),.fn 78 [] []]) (fun x_=>[.row .deed x_.2.2.2]) (fun x_=>d8 (be x_.1 x_.2.1 x_.2.2.1 x_.2.2.2) (.tup []) [.row .deed (ak x_.1 x_.2.1 x_.2.2.1 x_.2.2.2)])
@[go_sem] theorem oW (a:Int)(m:Int)(b:Int)(l_:List Deed):dH ([.os 0,.v (.int .i64 a),.v (.int .i64 m),.v (.int .i64 b),.fn 78 [] []]) ([.row .deed l_])=some (d8 (be a m b l_) (.tup []) [.row .deed (ak a m b l_)]):=d5 (A:=fun x_:Int×Int×Int×(List Deed) =>[.os 0,.v (.int .i64 x_.1),.v (.int .i64 x_.2.1),.v (.int .i64 x_.2.2.1),.fn 78 [] []]) (H:=fun x_=>[.row .deed x_.2.2.2]) (K:=fun x_=>d8 (be x_.1 x_.2.1 x_.2.2.1 x_.2.2.2) (.tup []) [.row .deed (ak x_.1 x_.2.1 x_.2.2.1 x_.2.2.2)]) (x:=(a,m,b,l_))
theorem iK:FnOkO Tryz.prog 148 (dH):=by
 have hG:ConsOk Tryz.prog (mkG [] [(153,dq)]):=aX cg0 (cgc gY cg0)
 refine eU mixed aH hG (fn:=Tryz.f148) (c:=ae Tryz.f148) (by kernel_rfl) (by kernel_rfl) (by kernel_rfl) (by kernel_rfl) fun l o con h=>?_
 obtain⟨⟨a,m,b,l_⟩,rfl,rfl,rfl⟩:=da h
 clear h
 try dsimp only
 refine⟨_,_,_,rfl,fun hp=>?_⟩
 unfold be at hp
 refine⟨Nat.le_of_ble_eq_true rfl,(fun id st=>bif Nat.beq id 0 then some (LCV (ρ:=(Int×List Deed)) (σ:=(List Deed×Int×Int)) 1 [] [0] (fun k_0 s_0=>⟨[(0,.os 0),(2,.v (.int .i64 m)),(4,.fn 78 [] []),(10,.v (.int .i64 s_0.2.1)),(11,.v (.int .i64 s_0.2.2))],[.row .deed s_0.1]⟩) (a7 a m b) (bY a m b) (Int.toNat (b - a)+1) (l_,(IntKind.i64.wrap (m - a)),(IntKind.i64.wrap (b - m))) (fun _=>.normal) (fun x_0_0=>⟨[(0,.os 0),(2,.v (.int .i64 m)),(4,.fn 78 [] []),(10,.v (.int .i64 x_0_0.1))],[.row .deed x_0_0.2]⟩) st)else none),?_,?_⟩
 ·unfold ae Tryz.f148
  simp only[ar,true_and,and_true,and_assoc]
  ·refine eV mixed aH hG (by kernel_rfl) (fun _=>rfl) fun k_0 s_0 hq0=>⟨L0,am _,?_⟩
   ·unfold bY at hq0
    exact gf
 ·unfold ae Tryz.f148
  try unfold ak
  simp only[go_sem,Nat.reduceBEq,Nat.reduceLeDiff,Nat.reduceLT,decide_true,Nat.reduceAdd,Nat.reduceSub,Nat.reduceMul,Int.reduceLE,Int.reduceLT,Int.reduceToNat,Int.reduceNeg,reduceCtorEq]
  all_goals exact fF
end Go.Sx
end
