/- Part of the proof that the law RegisterDivided returns true and leaves its arguments as they were, for all arguments of bulk at most 1048576 (the Upto form). -/
import Derived.Test.YthcbieoehjhjfaaGreatC607
import Derived.Test.YthcbieoehjhjfaaGreatC606
import Derived.Sort.Statements
import Derived.Shelf.SlSortCmp.Insertion
set_option linter.all false
set_option maxHeartbeats 4000000
section
namespace Go.Sx
open Go.RowKit
abbrev RF:= { r:Nat→Res // ∀ k,(r k).n=k}
def G8 (items:List (List SV))(r:RF):List SV→Res→Option YCon:=itY items r.1
@[go_sem] theorem PN {items:List (List SV)}{r:RF}{k:Nat}{args:List SV}:G8 items r args (r.1 (k+1))=some (xU (items[k]? =some args) r.1 (k+2)):=DI r.2 k args
section
variable {ρ σ:Type}
def lcy (pre:Prop)(run:ρ⊕σ)(exE:ρ→Ex)(outE:ρ→St)(outN:σ→St)(stp:St):LCon where
 α:=Option (ρ⊕σ)
 pre:=pre
 post:=fun|none=>True|some r=>r=run
 ex:=fun|none=>.ret|some (.inl x) =>exE x|some (.inr _) =>.normal
 out:=fun|none=>stp|some (.inl x) =>outE x|some (.inr s) =>outN s
def LCY (m:Nat)(ns:List NLoc)(js:List Nat)(D:Nat→σ→St)(step:Nat→σ→ρ⊕σ)(p:Nat→σ→Prop)(n:Nat)(s0:σ)(B:Prop)(exE:ρ→Ex)(outE:ρ→St)(stp:St)(st:St):LCon:=
 lcy (mn m ns js st (D 0 s0)∧B∧okI step p n 0 s0) (ay step n 0 s0) exE outE (D n) stp
variable {m:Nat}{ns:List NLoc}{js:List Nat}{step:Nat→σ→ρ⊕σ}{p:Nat→σ→Prop}{n:Nat}{s0:σ}{B:Prop}{exE:ρ→Ex}{outE:ρ→St}{stp st:St}{Q:Ex→St→Prop}{D:Nat→σ→St}
theorem Cb {pre:Prop}{run:ρ⊕σ}{outN:σ→St}:kn Q (some (lcy pre run exE outE outN stp))=(pre∧(∀ x,run=.inl x→Q (exE x) (outE x))∧(∀ s,run=.inr s→Q .normal (outN s))∧Q .ret stp):=by
 apply propext
 constructor
 ·rintro⟨h1,h2⟩
  exact⟨h1,fun x hx=>h2 (some (.inl x)) hx.symm,fun s hs=>h2 (some (.inr s)) hs.symm,h2 none trivial⟩
 ·rintro⟨h1,h2,h3,h4⟩
  refine⟨h1,fun r hr=>?_⟩
  match r,hr with
  |none,_=>exact h4
  |some (.inl x),hr=>exact h2 x hr.symm
  |some (.inr s),hr=>exact h3 s hr.symm
@[go_sem] theorem Mk:kn Q (some (LCY m ns js D step p n s0 B exE outE stp st))=((mn m ns js st (D 0 s0)∧B∧okI step p n 0 s0)∧(∀ x,ay step n 0 s0=.inl x→Q (exE x) (outE x))∧(∀ s,ay step n 0 s0=.inr s→Q .normal (D n s))∧Q .ret stp):=Cb
def cY (step:Nat→σ→ρ⊕σ)(exE:ρ→Ex)(outE:ρ→St)(D:Nat→σ→St)(stp:St)(m id k:Nat)(s:σ):Ex→St→Prop
 | .normal,st=>lK D m k st (step k s)
 | .exit j,st=>iz exE outE m (bif Nat.beq j id then .normal else .exit j) st (step k s)
 | .ret,st=>iz exE outE m .ret st (step k s)∨eW stp m st
 | .pan x,st=>iz exE outE m (.pan x) st (step k s)
variable {id k j:Nat}{s:σ}{x:Value}{e e':Ex}
@[go_sem] theorem Ml:cY step exE outE D stp m id k s .normal st=lK D m k st (step k s):=(rfl)
@[go_sem] theorem PO:cY step exE outE D stp m id k s (.exit j) st=iz exE outE m (bif Nat.beq j id then .normal else .exit j) st (step k s):=(rfl)
@[go_sem] theorem QH:cY step exE outE D stp m id k s .ret st=(iz exE outE m .ret st (step k s)∨eW stp m st):=(rfl)
@[go_sem] theorem QI:cY step exE outE D stp m id k s (.pan x) st=iz exE outE m (.pan x) st (step k s):=(rfl)
@[congr] theorem N9 {st':St}(h:st=st')(he:e=e'):cY step exE outE D stp m id k s e st=cY step exE outE D stp m id k s e' st':=by rw[h,he]
end
section
variable {P:Program}{ρ σ:Type}{ts:Tis}{G:Cons}{ro:Option Nat}{N:Nat}{id:Nat}{c:Code}{C:St→Option LCon}{m:Nat}{ns:List NLoc}{js:List Nat}{step:Nat→σ→ρ⊕σ}{p:Nat→σ→Prop}{n:Nat}{s0:σ}{exE:ρ→Ex}{outE:ρ→St}{D:Nat→σ→St}{stp:St}
theorem J0 {n0:Nat}(hn0:n0=m){s:σ}{k:Nat}(hlt:k<n){I:Nat×σ→Prop}{μ:Nat×σ→Nat}{outN:σ→St}{pre:Prop}{run:ρ⊕σ}
  (hI:∀ s',step k s=.inr s'→I (k+1,s')∧μ (k+1,s') <μ (k,s)) (hx:∀ x,step k s=.inl x→run=.inl x):
  ∀ e st',cY step exE outE D stp m id k s e st'→mf (fun x:Nat×σ=>D x.1 x.2) I μ n0 (k,s) id (fun e st'=>∃ r js,(lcy pre run exE outE outN stp).post r∧(lcy pre run exE outE outN stp).ex r=e∧n0≤((lcy pre run exE outE outN stp).out r).h.length∧Sub js n0 st' ((lcy pre run exE outE outN stp).out r)) e st':=by
 subst hn0
 have hfin:∀ e st',iz exE outE n0 e st' (step k s)→∃ r js,(lcy pre run exE outE outN stp).post r∧(lcy pre run exE outE outN stp).ex r=e∧n0≤((lcy pre run exE outE outN stp).out r).h.length∧Sub js n0 st' ((lcy pre run exE outE outN stp).out r):=by
  intro e st' q
  cases hs:step k s with
  |inr s'=>rw[hs]at q;exact q.elim
  |inl x=>
   rw[hs]at q
   obtain⟨q2,js,q3,q4⟩:=q
   exact⟨some (.inl x),js,(hx x hs).symm,q2,q3,q4⟩
 intro e st' hq
 cases e with
 |normal=>
  change lK D n0 k st' (step k s)at hq
  cases hs:step k s with
  |inl x=>rw[hs]at hq;exact hq.elim
  |inr s'=>
   rw[hs]at hq
   obtain⟨js,q3,q4⟩:=hq
   obtain⟨i1,i2⟩:=hI s' hs
   exact⟨(k+1,s'),js,i1,i2,q3,q4⟩
 |exit j=>
  change iz exE outE n0 (bif Nat.beq j id then .normal else .exit j) st' (step k s)at hq
  show bif Nat.beq j id then _ else _
  cases hb:Nat.beq j id with
  |true=>rw[hb]at hq;exact hfin _ _ hq
  |false=>rw[hb]at hq;exact hfin _ _ hq
 |ret=>
  rcases hq with hq|hq
  ·exact hfin _ _ hq
  ·obtain⟨js,q3,q4⟩:=hq
   exact⟨none,js,trivial,rfl,q3,q4⟩
 |pan x=>exact hfin _ _ hq
theorem D_ {B:Prop}(hm:P.follows .mixedOrders=true)(hts:ts.ok P)(hG:ConsOk P G)(hc:cd N c=true)(hC:∀ st,C st=some (LCY m ns js D step p n s0 B exE outE stp st))(M:Int)(hn:n=M.toNat)(hB:B→M<9223372036854775808)
  (h:B→∀ k s,k<n→p k s→IntKind.i64.wrap ((k:Int)+1)=((k+1:Nat):Int)→decide ((k:Int) <M)=true→∃ L,aw P ro N L c∧exec ts G L c (D k s) (cY step exE outE D stp m id k s))
  (h2:B→∀ s,decide ((n:Int) <M)=false→exec ts G L0 c (D n s) (cZ (D n s) m id)):gF P ro N id (.loop c) C:=by
 refine pA hm hts hG hc fun st lc hC' hp=>?_
 rw[hC st]at hC'
 cases hC'
 obtain⟨⟨hlen,hok,hle,hsub⟩,hB',h1⟩:=hp
 refine⟨Nat×σ,fun x=>D x.1 x.2,fun x=>x.1≤n∧okI step p (n - x.1) x.1 x.2∧ay step (n - x.1) x.1 x.2=ay step n 0 s0,fun x=>n - x.1,(0,s0),mkN ns st,js,⟨Nat.zero_le _,by simpa using h1,by simp⟩,oQ ns st st (.refl _) hok,by rw[hlen];exact hle,by rw[hlen];exact hsub,?_⟩
 rintro⟨k,s⟩ ⟨hk,hJ,hrun⟩
 simp only at hk hJ hrun
 rcases Nat.lt_or_ge k n with hlt|hge
 ·rw[show n - k=(n - k - 1)+1 by omega]at hrun hJ
  obtain⟨L,hl,hex⟩:=h hB' k s hlt hJ.1 (DM (hn▸hlt) (hB hB')) (decide_eq_true (by omega))
  have hI:∀ s',step k s=.inr s'→okI step p (n - (k+1)) (k+1) s'∧ay step (n - (k+1)) (k+1) s'=ay step n 0 s0:=fun s' hs=>by
   have:=hJ.2 s' hs
   rw[show n - k - 1=n - (k+1) by omega]at this hrun
   simp only[ay,hs]at hrun
   exact⟨this,hrun⟩
  have hx:∀ x,step k s=.inl x→ay step n 0 s0=.inl x:=fun x hs=>by
   simp only[ay,hs]at hrun
   exact hrun.symm
  exact⟨L,_,hl,fun e st' q=>J0 hlen hlt (fun s' hs=>⟨⟨hlt,hI s' hs⟩,by simp only;omega⟩) hx e st' q,hex⟩
 ·have hkn:k=n:=by omega
  subst hkn
  have hex:=h2 hB' s (by rw[decide_eq_false_iff_not];omega)
  refine⟨L0,_,an c,fun e st' hq=>?_,hex⟩
  simp only[Nat.sub_self,ay]at hrun
  cases e with
  |exit j=>
   change bif Nat.beq j id then eW (D k s) m st' else False at hq
   show bif Nat.beq j id then _ else _
   cases hb:Nat.beq j id with
   |true=>
    rw[hb]at hq
    obtain⟨js,q3,q4⟩:=hq
    exact⟨some (.inr s),js,hrun,rfl,by rw[hlen];exact q3,by rw[hlen];exact q4⟩
   |false=>rw[hb]at hq;exact hq.elim
  |_=>exact hq.elim
end
def jC (n:Nat):List Ob:=List.replicate n .dead
def Ea (items:List (List SV))(r:RF)(n:Nat):Ex→St→Prop
 | .normal,st=>eW ⟨[],.ab (r.1 0)::jC n⟩ (n+1) ⟨[],st.h⟩∨eW ⟨[],.ab (r.1 (items.length+1))::jC n⟩ (n+1) ⟨[],st.h⟩
 | .ret,st=>eW ⟨[],.ab (r.1 0)::jC n⟩ (n+1) ⟨[],st.h⟩∨eW ⟨[],.ab (r.1 (items.length+1))::jC n⟩ (n+1) ⟨[],st.h⟩
 |_,_=>False
section
variable {items:List (List SV)}{r:RF}{n:Nat}{st:St}{e e':Ex}
@[go_sem] theorem G9:Ea items r n .normal st=(eW ⟨[],.ab (r.1 0)::jC n⟩ (n+1) ⟨[],st.h⟩∨eW ⟨[],.ab (r.1 (items.length+1))::jC n⟩ (n+1) ⟨[],st.h⟩):=(rfl)
@[go_sem] theorem Mm:Ea items r n .ret st=(eW ⟨[],.ab (r.1 0)::jC n⟩ (n+1) ⟨[],st.h⟩∨eW ⟨[],.ab (r.1 (items.length+1))::jC n⟩ (n+1) ⟨[],st.h⟩):=(rfl)
@[go_sem] theorem PQ:jC 0=[]:=(rfl)
@[go_sem] theorem PR:jC 1=[.dead]:=(rfl)
@[go_sem] theorem PS:jC 2=[.dead,.dead]:=(rfl)
@[go_sem] theorem PT:jC 3=[.dead,.dead,.dead]:=(rfl)
@[go_sem] theorem PU:jC 4=[.dead,.dead,.dead,.dead]:=(rfl)
end
theorem xZ {js:List Nat}{n0:Nat}{h h':List Ob}(q:Sub js n0 ⟨[],h⟩ ⟨[],h'⟩):Sub js n0 ⟨[(0,.tup [])],h⟩ ⟨[(0,.tup [])],h'⟩:=by
 refine⟨q.1,?_,q.2.2⟩
 simp only[Bv,lk]
 exact⟨⟨rfl,rfl⟩,trivial⟩
open Classical in
theorem J1 {P:Program} {ts:Tis} {G:RF→Cons} (hm:P.follows .mixedOrders=true) (hts:ts.ok P) {f:FuncId} {fn:Func} {c:Code} (hf:P.funcs[f]? =some fn) (hb:fn.body=some c) (hname:(fn.name== "runtime.NumGoroutine")=false) (hc:cd fn.ntmps c=true) (hr:fn.results.toList=[])
  {items:List (List SV)} {mk:SV→List SV} {hs:List Ob} {n:Nat} (hn:hs.length=n)
  (h:∀ r:RF,YOk P (G8 items r)→ConsOk P (G r)∧(mk (.os 0)).length≤fn.ntmps∧∃ L,aw P none fn.ntmps L c∧exec ts (G r) L c ⟨ir 0 (mk (.os 0)),.ab (r.1 1)::hs⟩ (Ea items r n))
  (he:∀ (args:Array Value) (w:World),(callFunc f args).run P w=.ok (.enter f args) w):zH P f mk hs items:=by
 refine Ia (fun r0 hr0 hy=>?_) he
 obtain⟨hG,h1,L,h2,h3⟩:=h ⟨r0,hr0⟩ hy
 refine⟨fun l o=>if l=mk (.os 0)∧o=.ab (r0 1)::hs then some { α:=Bool,pre:=True,post:=fun _=>True,res:=fun b=>.ret (.tup []) (.ab (r0 (if b then items.length+1 else 0))::jC n)}else none,?_,_,if_pos ⟨rfl,rfl⟩,trivial,fun b _=>⟨_,_,_,rfl,by cases b <;>simp⟩⟩
 refine tp hm hts hG hf hb hname hc fun l o con hC _=>?_
 split at hC
 rotate_left
 ·cases hC
 rename_i hlo
 obtain⟨rfl,rfl⟩:=hlo
 cases hC
 refine⟨h1,L,_,h2,fun e st hq=>?_,h3⟩
 have key:∀ st:St,(eW ⟨[],.ab (r0 0)::jC n⟩ (n+1) ⟨[],st.h⟩∨eW ⟨[],.ab (r0 (items.length+1))::jC n⟩ (n+1) ⟨[],st.h⟩)→pb (Ob.ab (r0 1)::hs).length { α:=Bool,pre:=True,post:=fun _=>True,res:=fun b=>.ret (.tup []) (.ab (r0 (if b then items.length+1 else 0))::jC n)} (iS (g_ ts st fn.results.toList)) st.h:=fun st q=>by
  rw[hr]
  show ∃ r s' h' js,_
  rcases q with⟨js,q1,q2⟩ | ⟨js,q1,q2⟩
  ·exact⟨false,_,_,js,trivial,rfl,by rw[List.length_cons,hn];exact q1,by rw[List.length_cons,hn];exact xZ q2⟩
  ·exact⟨true,_,_,js,trivial,rfl,by rw[List.length_cons,hn];exact q1,by rw[List.length_cons,hn];exact xZ q2⟩
 cases e with
 |normal=>exact key st hq
 |ret=>exact key st hq
 |exit j=>exact hq.elim
 |pan x=>exact hq.elim
section
variable {ρ σ τ:Type}
theorem qR {step:τ→σ→ρ⊕σ}:∀ {a b:List τ} {s s':σ},eT step a s=.inr s'→eT step (a++b) s=eT step b s'
 | [],_,_,_,h=>by simp only[eT,Sum.inr.injEq]at h;subst h;rfl
 |x::a,b,s,s',h=>by
  simp only[List.cons_append,eT]at h ⊢
  cases hs:step x s with
  |inl y=>rw[hs]at h;cases h
  |inr s1=>rw[hs]at h;simp only at h ⊢;exact qR h
theorem x7 {step:τ→σ→ρ⊕σ}{p:τ→σ→Prop}:∀ {a b:List τ} {s s':σ},eT step a s=.inr s'→okL step p (a++b) s→okL step p b s'
 | [],_,_,_,h,hk=>by simp only[eT,Sum.inr.injEq]at h;subst h;exact hk
 |x::a,b,s,s',h,hk=>by
  simp only[List.cons_append,eT]at h hk
  cases hs:step x s with
  |inl y=>rw[hs]at h;cases h
  |inr s1=>rw[hs]at h;exact x7 h (hk.2 s1 hs)
def LCP (m:Nat)(ns:List NLoc)(js:List Nat)(D:List Nat→Option Nat→σ→St)(step:τ→σ→ρ⊕σ)(p:τ→σ→Prop)(l:List τ)(s0:σ)(exE:ρ→Ex)(outE:ρ→St)(outN:σ→St)(st:St):LCon where
 α:=ρ⊕σ
 pre:=mn m ns js st (D (List.range l.length) none s0)∧∀ L,L.Perm l→okL step p L s0
 post:=fun r=>∃ L,L.Perm l∧eT step L s0=r
 ex:=fun| .inl x=>exE x| .inr _=>.normal
 out:=fun| .inl x=>outE x| .inr s=>outN s
variable {m:Nat}{ns:List NLoc}{js:List Nat}{step:τ→σ→ρ⊕σ}{p:τ→σ→Prop}{l:List τ}{s0:σ}{exE:ρ→Ex}{outE:ρ→St}{outN:σ→St}{st:St}{Q:Ex→St→Prop}{D:List Nat→Option Nat→σ→St}
@[go_sem] theorem Mn:kn Q (some (LCP m ns js D step p l s0 exE outE outN st))=((mn m ns js st (D (List.range l.length) none s0)∧∀ L,L.Perm l→okL step p L s0)∧∀ L,L.Perm l→(∀ x,eT step L s0=.inl x→Q (exE x) (outE x))∧∀ s,eT step L s0=.inr s→Q .normal (outN s)):=by
 apply propext
 constructor
 ·rintro⟨h1,h2⟩
  exact⟨h1,fun L hL=>⟨fun x hx=>h2 (.inl x) ⟨L,hL,hx⟩,fun s hs=>h2 (.inr s) ⟨L,hL,hs⟩⟩⟩
 ·rintro⟨h1,h2⟩
  refine⟨h1,fun r ⟨L,hL,hr⟩ =>?_⟩
  cases r with
  |inl x=>exact(h2 L hL).1 x hr
  |inr s=>exact(h2 L hL).2 s hr
variable {P:Program}{ts:Tis}{G:Cons}{ro:Option Nat}{N id:Nat}{c:Code}{C:St→Option LCon}
theorem Eb (d:τ)(it:Nat)(hm:P.follows .mixedOrders=true)(hts:ts.ok P)(hG:ConsOk P G)(hc:cd N c=true)(hC:∀ st,C st=some (LCP m ns js D step p l s0 exE outE outN st))
  (h:∀ left cur s,(∀ j,j∈left→j<l.length∧p (l.getD j d) s)→∃ L,aw P ro N L c∧exec ts G L c (D left cur s) (cM step l d exE outE outN D m id it left s)):gF P ro N id (.loop c) C:=by
 refine pA hm hts hG hc fun st lc hC' hp=>?_
 rw[hC st]at hC'
 cases hC'
 obtain⟨⟨hlen,hok,hle,hsub⟩,hO⟩:=hp
 subst hlen
 have hfix:∀ q:List Nat,q.Perm (List.range l.length)→(q.map fun j=>l.getD j d).Perm l:=fun q hq=>by
  have:=hq.map (fun j=>l.getD j d)
  rwa[tx]at this
 refine⟨List Nat×Option Nat×σ,fun x=>D x.1 x.2.1 x.2.2,fun x=>∃ q:List Nat,(q++x.1).Perm (List.range l.length)∧eT step (q.map fun j=>l.getD j d) s0=.inr x.2.2,fun x=>x.1.length,(List.range l.length,none,s0),mkN ns st,js,⟨[],.refl _,rfl⟩,oQ ns st st (.refl _) hok,hle,hsub,?_⟩
 rintro⟨left,cur,s⟩ ⟨q,hq,hrun⟩
 simp only at hq hrun
 have hmem:∀ j,j∈left→(q++j::left.erase j).Perm (List.range l.length):=fun j hj=>((List.perm_cons_erase hj).symm.append_left q).trans hq
 have hp0:∀ j,j∈left→j<l.length∧p (l.getD j d) s:=fun j hj=>by
  refine⟨List.mem_range.1 (hq.mem_iff.1 (List.mem_append_right _ hj)),?_⟩
  have:=hO _ (hfix _ (hmem j hj))
  rw[List.map_append]at this
  exact(x7 hrun this).1
 obtain⟨L,hl,hex⟩:=h left cur s hp0
 refine⟨L,_,hl,?_,hex⟩
 have hfin:∀ e st' o,exC step l d exE outE st.h.length left s e st' o→∃ r js,(LCP st.h.length ns js D step p l s0 exE outE outN st).post r∧(LCP st.h.length ns js D step p l s0 exE outE outN st).ex r=e∧st.h.length≤((LCP st.h.length ns js D step p l s0 exE outE outN st).out r).h.length∧Sub js st.h.length st' ((LCP st.h.length ns js D step p l s0 exE outE outN st).out r):=by
  intro e st' o z
  cases o with
  |none=>exact z.elim
  |some j=>
   obtain⟨hj,z⟩:=z
   cases hs:step (l.getD j d) s with
   |inr s'=>rw[hs]at z;exact z.elim
   |inl x=>
    rw[hs]at z
    obtain⟨q2,js2,q3,q4⟩:=z
    refine⟨.inl x,js2,⟨_,hfix _ (hmem j hj),?_⟩,q2,q3,q4⟩
    rw[List.map_append,qR hrun]
    simp only[List.map_cons,eT,hs]
 intro e st' hz
 cases e with
 |normal=>
  change nxC step l d D st.h.length left s st' (oP (ag st'.h it))at hz
  cases ho:oP (ag st'.h it)with
  |none=>rw[ho]at hz;exact hz.elim
  |some j=>
   rw[ho]at hz
   obtain⟨hj,hz⟩:=hz
   cases hs:step (l.getD j d) s with
   |inl x=>rw[hs]at hz;exact hz.elim
   |inr s'=>
    rw[hs]at hz
    obtain⟨js2,q3,q4⟩:=hz
    refine⟨(left.erase j,some j,s'),js2,⟨q++[j],?_,?_⟩,?_,q3,q4⟩
    ·rw[List.append_assoc];exact hmem j hj
    ·rw[List.map_append,qR hrun]
     simp only[List.map_cons,List.map_nil,eT,hs]
    ·have:=List.length_pos_of_mem hj
     simp only[List.length_erase_of_mem hj];omega
 |exit j=>
  have hz':(bif Nat.beq j id then(left=[]→eW (outN s) st.h.length st')∧(left≠[]→exC step l d exE outE st.h.length left s .normal st' (oP (ag st'.h it)))else exC step l d exE outE st.h.length left s (.exit j) st' (oP (ag st'.h it))):=hz
  show bif Nat.beq j id then _ else _
  cases hb:Nat.beq j id with
  |true=>
   rw[hb]at hz'
   simp only[cond_true]at hz' ⊢
   by_cases hlt:left=[]
   ·obtain⟨js2,q3,q4⟩:=hz'.1 hlt
    refine⟨.inr s,js2,⟨_,hfix q (by rw[hlt,List.append_nil]at hq;exact hq),hrun⟩,rfl,q3,q4⟩
   ·exact hfin _ _ _ (hz'.2 hlt)
  |false=>
   rw[hb]at hz'
   exact hfin _ _ _ hz'
 |ret=>exact hfin _ _ _ hz
 |pan x=>exact hfin _ _ _ hz
end
theorem fkY {st2 st:St}{n0:Nat}(js:List Nat)(h1:n0≤st2.h.length:=by(first|(show _≤_;decide) |(simp only[*,go_sem,Nat.reduceBEq,Nat.reduceLeDiff,Nat.reduceAdd,Nat.reduceSub,Nat.reduceMul,Int.reduceLE,Int.reduceLT,Int.reduceToNat,Int.reduceNeg,reduceCtorEq];done) |(simp only[*,go_sem,Nat.reduceBEq,Nat.reduceLeDiff,Nat.reduceAdd,Nat.reduceSub,Nat.reduceMul,Int.reduceLE,Int.reduceLT,Int.reduceToNat,Int.reduceNeg,reduceCtorEq];(repeat' (first|with_reducible refine And.intro ?_ ?_|((with_reducible show _≠_);first|assumption|omega|(simp_all [b8,cq];done) |grind) |with_reducible intro _)) <;>(first|rfl|decide|assumption|omega|(simp_all [b8,cq];done) |fail))))(h2:Sub js n0 st st2:=by(first|(show _≤_;decide) |(simp only[*,go_sem,Nat.reduceBEq,Nat.reduceLeDiff,Nat.reduceAdd,Nat.reduceSub,Nat.reduceMul,Int.reduceLE,Int.reduceLT,Int.reduceToNat,Int.reduceNeg,reduceCtorEq];done) |(simp only[*,go_sem,Nat.reduceBEq,Nat.reduceLeDiff,Nat.reduceAdd,Nat.reduceSub,Nat.reduceMul,Int.reduceLE,Int.reduceLT,Int.reduceToNat,Int.reduceNeg,reduceCtorEq];(repeat' (first|with_reducible refine And.intro ?_ ?_|((with_reducible show _≠_);first|assumption|omega|(simp_all [b8,cq];done) |grind) |with_reducible intro _)) <;>(first|rfl|decide|assumption|omega|(simp_all [b8,cq];done) |fail)))):eW st2 n0 st:=wp js h1 h2
theorem J2 {α:Type 1}{G:List SV→α→Prop}{X:SV}{k:List SV→Option α}(h:∀ l c,k l=some c→G (X::l) c):∀ l c,pQ X k l=some c→G l c:=fun l c hc=>by
 obtain⟨r,rfl,h1⟩:=JU hc;exact h r c h1
end Go.Sx
end
section
namespace Go.Sx
open Go.Proofs
set_option maxRecDepth 100000
set_option linter.unusedSimpArgs false
def i_ (n:Int)(d:Int):Int:=(IntKind.i64.wrap (Int.tdiv (IntKind.i64.wrap (n - (Int.tmod (IntKind.i64.wrap ((Int.tmod n d)+d)) d))) d))
def j5 (n:Int)(d:Int):Prop:=(d≠0∧(d≠0∧d≠0))
@[go_sem] def pG:List SV→Option Con:=(pI fun n=>(pI fun d=>(pE (.det (j5 n d) (.v (.int .i64 (i_ n d)))))))
theorem ug:FnOk Tryz.prog 61 pG:=by
 have hG:ConsOk Tryz.prog (mkG [] []):=a_ cg0 cg0
 refine cr [.o] mixed aH hG (fn:=Tryz.f61) (c:=ae Tryz.f61) (by kernel_rfl) (by kernel_rfl) (by kernel_rfl) (by kernel_rfl) (d8 fun n=>(d8 fun d=>(bH (fun hp=>?_))))
 dsimp only[bp]at hp
 unfold j5 at hp
 refine⟨Nat.le_of_ble_eq_true rfl,L0,an _,?_⟩
 ·unfold ae Tryz.f61
  try unfold i_
  simp only[go_sem,Nat.reduceBEq,Nat.reduceLeDiff,Nat.reduceLT,decide_true,Nat.reduceAdd,Nat.reduceSub,Nat.reduceMul,Int.reduceLE,Int.reduceLT,Int.reduceToNat,Int.reduceNeg,reduceCtorEq]
  all_goals exact cl
def aT (a:Ratio)(n:Int):Int×Int×Int:=(bif((bA a) !=0)then(0,0,(bA a))else(bif((decide (n< (-1073741824))) ||(decide (n > 1073741824)))then(0,0,1)else((i_ (IntKind.i64.wrap (a.n*n)) a.d),(IntKind.i64.wrap (0 - (i_ (IntKind.i64.wrap ((IntKind.i64.wrap (0 - a.n))*n)) a.d))),0)))
def ou (a:Ratio)(n:Int):Prop:=(((bA a) !=0)=false→(((decide (n< (-1073741824))) ||(decide (n > 1073741824)))=false→((j5 (IntKind.i64.wrap (a.n*n)) a.d)∧(j5 (IntKind.i64.wrap ((IntKind.i64.wrap (0 - a.n))*n)) a.d))))
theorem uh {a:Ratio}(h:(bA a !=0)=false):1≤a.d:=by
 unfold bA at h
 by_cases hd:a.d<1
 ·simp[hd]at h
 ·omega
theorem tE (a:Ratio)(n:Int):ou a n:=fun h _=>by
 have:=uh h
 exact⟨⟨by omega,by omega,by omega⟩,⟨by omega,by omega,by omega⟩⟩
@[go_sem] def lh:List SV→Option Con:=(pD .ratio fun a=>(pI fun n=>(pE (.det True (.tup [.v (.int .i64 ((aT a n).1)),.v (.int .i64 ((aT a n).2.1)),.v (.int .i64 ((aT a n).2.2))])))))
theorem nr:FnOk Tryz.prog 32 lh:=by
 have hG:ConsOk Tryz.prog (mkG [(60,jk),(61,pG)] []):=a_ (cgc kB (cgc ug cg0)) cg0
 refine cr [.o,.o,.o] mixed aH hG (fn:=Tryz.f32) (c:=ae Tryz.f32) (by kernel_rfl) (by kernel_rfl) (by kernel_rfl) (by kernel_rfl) (cF fun a=>(d8 fun n=>(bH (fun hp=>?_))))
 dsimp only[bp]at hp
 have hp:=tE a n
 unfold ou at hp
 refine⟨Nat.le_of_ble_eq_true rfl,L0,an _,?_⟩
 ·unfold ae Tryz.f32
  try unfold aT
  simp only[go_sem,Nat.reduceBEq,Nat.reduceLeDiff,Nat.reduceLT,decide_true,Nat.reduceAdd,Nat.reduceSub,Nat.reduceMul,Int.reduceLE,Int.reduceLT,Int.reduceToNat,Int.reduceNeg,reduceCtorEq]
  all_goals exact cl
def ic (n:Int)(d:Int):Ratio×Int:=(bif(d==0)then(({ n:=0,d:=0}:Ratio),120)else(bif(decide ((if(IntKind.u64.wrap (Int.tdiv (ai n) ((n8 (Int.toNat (ai n)) (Int.toNat (ai d)):Nat):Int))) < (IntKind.u64.wrap (Int.tdiv (ai d) ((n8 (Int.toNat (ai n)) (Int.toNat (ai d)):Nat):Int)))then(IntKind.u64.wrap (Int.tdiv (ai d) ((n8 (Int.toNat (ai n)) (Int.toNat (ai d)):Nat):Int)))else(IntKind.u64.wrap (Int.tdiv (ai n) ((n8 (Int.toNat (ai n)) (Int.toNat (ai d)):Nat):Int)))) > 1073741824))then(({ n:=0,d:=0}:Ratio),2)else(bif((decide (n<0)) !=(decide (d<0)))then(({ n:=(IntKind.i64.wrap (0 - (IntKind.i64.wrap (IntKind.u64.wrap (Int.tdiv (ai n) ((n8 (Int.toNat (ai n)) (Int.toNat (ai d)):Nat):Int)))))),d:=(IntKind.i64.wrap (IntKind.u64.wrap (Int.tdiv (ai d) ((n8 (Int.toNat (ai n)) (Int.toNat (ai d)):Nat):Int))))}:Ratio),0)else(({ n:=(IntKind.i64.wrap (IntKind.u64.wrap (Int.tdiv (ai n) ((n8 (Int.toNat (ai n)) (Int.toNat (ai d)):Nat):Int)))),d:=(IntKind.i64.wrap (IntKind.u64.wrap (Int.tdiv (ai d) ((n8 (Int.toNat (ai n)) (Int.toNat (ai d)):Nat):Int))))}:Ratio),0))))
def j6 (n:Int)(d:Int):Prop:=((d==0)=false→((0≤(ai n)∧0≤(ai d))∧(((n8 (Int.toNat (ai n)) (Int.toNat (ai d)):Nat):Int)≠0∧((n8 (Int.toNat (ai n)) (Int.toNat (ai d)):Nat):Int)≠0)))
@[go_sem] def pH:List SV→Option Con:=(pI fun n=>(pI fun d=>(pE (.det (j6 n d) (.tup [.agg (cellsOf .ratio ((ic n d).1)),.v (.int .i64 ((ic n d).2))])))))
theorem ui:FnOk Tryz.prog 143 pH:=by
 have hG:ConsOk Tryz.prog (mkG [(88,C83),(89,iA)] []):=a_ (cgc D3 (cgc kA cg0)) cg0
 refine cr [.st .ratio,.o] mixed aH hG (fn:=Tryz.f143) (c:=ae Tryz.f143) (by kernel_rfl) (by kernel_rfl) (by kernel_rfl) (by kernel_rfl) (d8 fun n=>(d8 fun d=>(bH (fun hp=>?_))))
 dsimp only[bp]at hp
 unfold j6 at hp
 refine⟨Nat.le_of_ble_eq_true rfl,L0,an _,?_⟩
 ·unfold ae Tryz.f143
  try unfold ic
  simp only[go_sem,Nat.reduceBEq,Nat.reduceLeDiff,Nat.reduceLT,decide_true,Nat.reduceAdd,Nat.reduceSub,Nat.reduceMul,Int.reduceLE,Int.reduceLT,Int.reduceToNat,Int.reduceNeg,reduceCtorEq,C83]
  all_goals exact cl
def dR (a:Ratio)(b:Ratio):Int×Int:=((IntKind.i64.wrap ((IntKind.i64.wrap (a.n*b.d))+(IntKind.i64.wrap (b.n*a.d)))),(IntKind.i64.wrap (a.d*b.d)))
@[go_sem] def ov:List SV→Option Con:=(pD .ratio fun a=>(pD .ratio fun b=>(pE (.det True (.tup [.v (.int .i64 ((dR a b).1)),.v (.int .i64 ((dR a b).2))])))))
theorem tF:FnOk Tryz.prog 118 ov:=by
 have hG:ConsOk Tryz.prog (mkG [] []):=a_ cg0 cg0
 refine cr [.o,.o] mixed aH hG (fn:=Tryz.f118) (c:=ae Tryz.f118) (by kernel_rfl) (by kernel_rfl) (by kernel_rfl) (by kernel_rfl) (cF fun a=>(cF fun b=>(bH (fun hp=>?_))))
 dsimp only[bp]at hp
 refine⟨Nat.le_of_ble_eq_true rfl,L0,an _,?_⟩
 ·unfold ae Tryz.f118
  try unfold dR
  simp only[go_sem,Nat.reduceBEq,Nat.reduceLeDiff,Nat.reduceLT,decide_true,Nat.reduceAdd,Nat.reduceSub,Nat.reduceMul,Int.reduceLE,Int.reduceLT,Int.reduceToNat,Int.reduceNeg,reduceCtorEq]
  all_goals exact cl
def dL (a:Ratio)(b:Ratio):Ratio×Int:=(bif(((bA a) !=0) ||((bA b) !=0))then(({ n:=0,d:=0}:Ratio),120)else(((ic ((dR a b).1) ((dR a b).2)).1),(ic ((dR a b).1) ((dR a b).2)).2))
def fY (a:Ratio)(b:Ratio):Prop:=((((bA a) !=0) ||((bA b) !=0))=false→(j6 ((dR a b).1) ((dR a b).2)))
@[go_sem] noncomputable def jD:List SV→Option Con:=(pQ (.agg [.fn 118 [] []]) (pD .ratio fun a=>(pD .ratio fun b=>(pE (.det (fY a b) (.tup [.agg (cellsOf .ratio ((dL a b).1)),.v (.int .i64 ((dL a b).2))]))))))
theorem mK:FnOk Tryz.prog 119 jD:=by
 have hG:ConsOk Tryz.prog (mkG [(60,jk),(118,ov),(143,pH)] []):=a_ (cgc kB (cgc tF (cgc ui cg0))) cg0
 refine cr [.st .ratio,.o] mixed aH hG (fn:=Tryz.f119) (c:=ae Tryz.f119) (by kernel_rfl) (by kernel_rfl) (by kernel_rfl) (by kernel_rfl) (J2 (cF fun a=>(cF fun b=>(bH (fun hp=>?_)))))
 dsimp only[bp]at hp
 unfold fY at hp
 refine⟨Nat.le_of_ble_eq_true rfl,L0,an _,?_⟩
 ·unfold ae Tryz.f119
  try unfold dL
  simp only[go_sem,Nat.reduceBEq,Nat.reduceLeDiff,Nat.reduceLT,decide_true,Nat.reduceAdd,Nat.reduceSub,Nat.reduceMul,Int.reduceLE,Int.reduceLT,Int.reduceToNat,Int.reduceNeg,reduceCtorEq]
  all_goals exact cl
def eD (a:Ratio)(b:Ratio):Ratio×Int:=(((dL a b).1),(dL a b).2)
def kZ (a:Ratio)(b:Ratio):Prop:=(fY a b)
@[go_sem] def rE:List SV→Option Con:=(pD .ratio fun a=>(pD .ratio fun b=>(pE (.det (kZ a b) (.tup [.agg (cellsOf .ratio ((eD a b).1)),.v (.int .i64 ((eD a b).2))])))))
theorem wv:FnOk Tryz.prog 91 rE:=by
 have hG:ConsOk Tryz.prog (mkG [(119,jD)] []):=a_ (cgc mK cg0) cg0
 refine cr [.st .ratio,.o] mixed aH hG (fn:=Tryz.f91) (c:=ae Tryz.f91) (by kernel_rfl) (by kernel_rfl) (by kernel_rfl) (by kernel_rfl) (cF fun a=>(cF fun b=>(bH (fun hp=>?_))))
 dsimp only[bp]at hp
 unfold kZ at hp
 refine⟨Nat.le_of_ble_eq_true rfl,L0,an _,?_⟩
 ·unfold ae Tryz.f91
  try unfold eD
  simp only[go_sem,Nat.reduceBEq,Nat.reduceLeDiff,Nat.reduceLT,decide_true,Nat.reduceAdd,Nat.reduceSub,Nat.reduceMul,Int.reduceLE,Int.reduceLT,Int.reduceToNat,Int.reduceNeg,reduceCtorEq]
  all_goals exact cl
end Go.Sx
end
section
namespace Go.Sx
open Go.Proofs
set_option maxRecDepth 100000
set_option linter.unusedSimpArgs false
theorem qS {p:Prop}(h:p:=by(first|done|(repeat' (first|with_reducible refine And.intro ?_ ?_|((with_reducible show _≠_);first|assumption|omega|(simp_all [b8,cq];done) |grind) |with_reducible intro _)) <;>(first|done|with_reducible exact Empty.elim ‹Empty› |with_reducible assumption|rfl|omega|assumption|decide|exact fk [] |exact czl|(simp only[*,cond_true,cond_false,Bool.not_true,Bool.not_false,go_sem,Nat.reduceBEq,Nat.reduceLeDiff,Nat.reduceLT,decide_true,Nat.reduceAdd,Nat.reduceSub,Nat.reduceMul,Int.reduceLE,Int.reduceLT,Int.reduceToNat,Int.reduceNeg,reduceCtorEq];(repeat' (first|with_reducible refine And.intro ?_ ?_|((with_reducible show _≠_);first|assumption|omega|(simp_all [b8,cq];done) |grind) |with_reducible intro _)) <;>(first|done|assumption|rfl|omega|decide|exact fk [] |(simp_all [b8,cq];done))) |(simp_all [okI,b8,cq];done) |(simp_all [b8,cq];(first|done|exact fk2 [])) |exact fk2 []))):p:=h
theorem nO {p:Prop}(h:p:=by simp only[go_sem,Nat.reduceBEq,Nat.reduceLeDiff,Nat.reduceLT,decide_true,Nat.reduceAdd,Nat.reduceSub,Nat.reduceMul,Int.reduceLE,Int.reduceLT,Int.reduceToNat,Int.reduceNeg,reduceCtorEq,hc,hw];all_goals exact qS):p:=h
theorem nP {p:Prop}(h:p:=by simp only[go_sem,Nat.reduceBEq,Nat.reduceLeDiff,Nat.reduceLT,decide_true,Nat.reduceAdd,Nat.reduceSub,Nat.reduceMul,Int.reduceLE,Int.reduceLT,Int.reduceToNat,Int.reduceNeg,reduceCtorEq,hc];all_goals exact qS):p:=h
@[go_sem] def ow (bY:List Int)(k_0:Nat)(s_0:Unit):Int⊕Unit:=(bif((bY.getD k_0 (0:Int)) !=0)then .inl (bY.getD k_0 (0:Int))else .inr ())
def fB (bY:List Int):Int:=(match ay (ow bY) bY.length 0 ()with| .inl x_0_0=>x_0_0| .inr s_0=>0)
@[go_sem] def pJ:List SV→Option Con:=(pR .int fun bY=>(pE (.det True (.v (.int .i64 (fB bY))))))
theorem uj:FnOk Tryz.prog 52 pJ:=by
 have hG:ConsOk Tryz.prog (mkG [] []):=a_ cg0 cg0
 refine cr [.o] mixed aH hG (fn:=Tryz.f52) (c:=ae Tryz.f52) (by kernel_rfl) (by kernel_rfl) (by kernel_rfl) (by kernel_rfl) (fX fun bY=>(bH (fun hp=>?_)))
 dsimp only[bp]at hp
 refine⟨Nat.le_of_ble_eq_true rfl,(fun id st=>bif Nat.beq id 0 then some (LCR (ρ:=Int) (σ:=Unit) 0 [] [] (fun k_0 s_0=>⟨[(3,.v (.int .i64 0)),(6,.rs .int bY),(7,.v (.int .i64 (bY.length:Int))),(8,.v (.int .i64 (k_0:Int)))],[]⟩) (ow bY) pT bY.length () (bY.length≤cp) (fun _=>.ret) (fun x_0_0=>⟨[(2,.v (.int .i64 x_0_0))],[]⟩) st)else none),?_,?_⟩
 ·unfold ae Tryz.f52
  simp only[aw,true_and,and_true]
  ·refine dQ mixed aH hG (by kernel_rfl) (fun _=>rfl) (bY.length:Int) rfl lL (fun hb0 k_0 s_0 hlt0 _ hw hc=>⟨L0,an _,?_⟩) (fun hb0 s_0 hc=>?_)
   ·exact nO
   ·exact nP
 ·unfold ae Tryz.f52
  try unfold fB
  simp only[go_sem,Nat.reduceBEq,Nat.reduceLeDiff,Nat.reduceLT,decide_true,Nat.reduceAdd,Nat.reduceSub,Nat.reduceMul,Int.reduceLE,Int.reduceLT,Int.reduceToNat,Int.reduceNeg,reduceCtorEq]
  all_goals exact cl
def bQ (x:Holding)(y:Holding):Int:=(fB ([(cX x.right y.right),(cX x.farm y.farm)]))
@[go_sem] def mF:List SV→Option Con:=(pD .holding fun x=>(pD .holding fun y=>(pE (.det True (.v (.int .i64 (bQ x y)))))))
theorem qT:FnOk Tryz.prog 51 mF:=by
 have hG:ConsOk Tryz.prog (mkG [(38,eI),(52,fun l=>pJ (dN [.sl .int] l))] []):=a_ (cgc fz (cgc (uj.norm [.sl .int]) cg0)) cg0
 refine cr [.o] mixed aH hG (fn:=Tryz.f51) (c:=ae Tryz.f51) (by kernel_rfl) (by kernel_rfl) (by kernel_rfl) (by kernel_rfl) (cF fun x=>(cF fun y=>(bH (fun hp=>?_))))
 dsimp only[bp]at hp
 refine⟨Nat.le_of_ble_eq_true rfl,L0,an _,?_⟩
 ·unfold ae Tryz.f51
  try unfold bQ
  simp only[go_sem,Nat.reduceBEq,Nat.reduceLeDiff,Nat.reduceLT,decide_true,Nat.reduceAdd,Nat.reduceSub,Nat.reduceMul,Int.reduceLE,Int.reduceLT,Int.reduceToNat,Int.reduceNeg,reduceCtorEq]
  all_goals exact cl
end Go.Sx
end
section
namespace Go.Sx
open Go.Proofs
theorem k9 (x y:Int):cX x y=if x<y then -1 else if x > y then 1 else 0:=by
 unfold cX fK
 simp[Bool.cond_eq_ite]
theorem zO (x:Int)(l:List Int):fB (x::l)=if x=0 then fB l else x:=by
 have key:∀ l:List Int,fB l=match eT (ρ:=Int) (fun(x:Int) (_:Unit) =>bif(x !=0)then .inl x else .inr ()) l ()with| .inl y=>y| .inr _=>0:=fun l=>by
  unfold fB
  have:=wj (ρ:=Int) (fun(x:Int) (_:Unit) =>bif(x !=0)then .inl x else .inr ()) 0 l ()
  rw[←this]
  rfl
 rw[key,key]
 simp only[eT]
 by_cases h:x=0
 ·subst h;rfl
 ·have:(x !=0)=true:=by simpa using h
  rw[if_neg h,this];rfl
theorem Cc:fB []=0:=rfl
def qU:List (Int×Int)→Prop
 | [] =>False
 |(a,b)::r=>a<b∨a=b∧qU r
theorem u5:∀ l:List (Int×Int),(fB (l.map fun p=>cX p.1 p.2) <0↔qU l)
 | [] =>by simp[Cc,qU]
 |(a,b)::r=>by
  have hc:=k9 a b
  simp only[List.map_cons,zO,hc,qU]
  rcases Int.lt_trichotomy a b with h|h|h
  ·simp[h]
  ·subst h
   simp only[Int.lt_irrefl,if_false,if_true,true_and,false_or,gt_iff_lt]
   exact u5 r
  ·have h1:¬a<b:=by omega
   have h2:a≠b:=by omega
   simp[h1,h2,h]
def hlt (a b:Holding):Prop:=qU [(a.right,b.right),(a.farm,b.farm)]
theorem tG (a b:Holding):bQ a b<0↔hlt a b:=u5 [(a.right,b.right),(a.farm,b.farm)]
open Go.Shelf Go.Sort in
theorem J3 {α:Type}{f:α→α→Int}{r:α→α→Prop}(e:∀ x y,f x y<0↔r x y)(h1:∀ x,¬r x x)(h2:∀ x y z,r x y→r y z→r x z)(h3:∀ x y z,¬r x y→¬r y z→¬r x z):SWO (ltOf f):=by
 have e1:∀ x y,ltOf f x y=true↔r x y:=fun x y=>by unfold ltOf;rw[decide_eq_true_eq,e]
 have e2:∀ x y,ltOf f x y=false↔¬r x y:=fun x y=>by rw[←e1];simp
 exact⟨fun x=>(e2 x x).2 (h1 x),fun x y z a b=>(e1 x z).2 (h2 x y z ((e1 x y).1 a) ((e1 y z).1 b)),fun x y z a b=>(e2 x z).2 (h3 x y z ((e2 x y).1 a) ((e2 y z).1 b))⟩
open Go.Shelf Go.Sort in
theorem rF:SWO (ltOf bQ):=J3 tG (fun x=>by simp only[hlt,qU,and_false,or_false];omega) (fun x y z h1 h2=>by simp only[hlt,qU,and_false,or_false]at *;omega) (fun x y z h1 h2=>by simp only[hlt,qU,and_false,or_false]at *;omega)
end Go.Sx
end
section
namespace Go.Sx
open Go.RowKit
def orC {α:Type 1}:Option α→Option α→Option α
 |some x,_=>some x
 |none,y=>y
@[go_sem] theorem N_ {α:Type 1}{x:α}{y:Option α}:orC (some x) y=some x:=(rfl)
@[go_sem] theorem Oa {α:Type 1}{y:Option α}:orC none y=y:=(rfl)
theorem nQ {α:Type 1}{a b:Option α}{c:α}(h:orC a b=some c):a=some c∨b=some c:=by
 cases a with
 |none=>exact .inr h
 |some x=>exact .inl h
theorem FnOkO.or {P:Program}{f:FuncId}{C D:List SV→List Ob→Option HCon}(h1:FnOkO P f C)(h2:FnOkO P f D):FnOkO P f (fun l h=>orC (C l h) (D l h)):=
 ⟨fun l h c hc=>by rcases nQ hc with e|e;exact h1.enter l h c e;exact h2.enter l h c e,
  fun l h c hc=>by rcases nQ hc with e|e;exact h1.calls l h c e;exact h2.calls l h c e⟩
theorem FnOk.or {P:Program}{f:FuncId}{C D:List SV→Option Con}(h1:FnOk P f C)(h2:FnOk P f D):FnOk P f (fun l=>orC (C l) (D l)):=
 ⟨fun l c hc=>by rcases nQ hc with e|e;exact h1.enter l c e;exact h2.enter l c e,
  fun l c hc=>by rcases nQ hc with e|e;exact h1.calls l c e;exact h2.calls l c e⟩
end Go.Sx
end
section
namespace Go.Sx
open Go.Proofs
set_option maxRecDepth 100000
set_option linter.unusedSimpArgs false
theorem x8 {p:Prop}(h:p:=by(first|done|(repeat' (first|with_reducible refine And.intro ?_ ?_|((with_reducible show _≠_);first|assumption|omega|(simp_all [b8,cq];done) |grind) |with_reducible intro _)) <;>(first|done|with_reducible exact Empty.elim ‹Empty› |with_reducible assumption|rfl|omega|assumption|decide|exact fk [0,1,2] |exact czl|(simp only[*,cond_true,cond_false,Bool.not_true,Bool.not_false,go_sem,Nat.reduceBEq,Nat.reduceLeDiff,Nat.reduceLT,decide_true,Nat.reduceAdd,Nat.reduceSub,Nat.reduceMul,Int.reduceLE,Int.reduceLT,Int.reduceToNat,Int.reduceNeg,reduceCtorEq];(repeat' (first|with_reducible refine And.intro ?_ ?_|((with_reducible show _≠_);first|assumption|omega|(simp_all [b8,cq];done) |grind) |with_reducible intro _)) <;>(first|done|assumption|rfl|omega|decide|exact fk [0,1,2] |(simp_all [b8,cq];done))) |(simp_all [okI,b8,cq];done) |(simp_all [b8,cq];(first|done|exact fk2 [0,1,2])) |exact fk2 [0,1,2]))):p:=h
theorem tH {p:Prop}(h:p:=by(first|done|(repeat' (first|with_reducible refine And.intro ?_ ?_|((with_reducible show _≠_);first|assumption|omega|(simp_all [b8,cq];done) |grind) |with_reducible intro _)) <;>(first|done|with_reducible exact Empty.elim ‹Empty› |with_reducible assumption|rfl|omega|assumption|decide|exact fk [0,1] |exact czl|(simp only[*,cond_true,cond_false,Bool.not_true,Bool.not_false,go_sem,Nat.reduceBEq,Nat.reduceLeDiff,Nat.reduceLT,decide_true,Nat.reduceAdd,Nat.reduceSub,Nat.reduceMul,Int.reduceLE,Int.reduceLT,Int.reduceToNat,Int.reduceNeg,reduceCtorEq];(repeat' (first|with_reducible refine And.intro ?_ ?_|((with_reducible show _≠_);first|assumption|omega|(simp_all [b8,cq];done) |grind) |with_reducible intro _)) <;>(first|done|assumption|rfl|omega|decide|exact fk [0,1] |(simp_all [b8,cq];done))) |(simp_all [okI,b8,cq];done) |(simp_all [b8,cq];(first|done|exact fk2 [0,1])) |exact fk2 [0,1]))):p:=h
theorem Ec {p:Prop}(h:p:=by simp only[go_sem,Nat.reduceBEq,Nat.reduceLeDiff,Nat.reduceLT,decide_true,Nat.reduceAdd,Nat.reduceSub,Nat.reduceMul,Int.reduceLE,Int.reduceLT,Int.reduceToNat,Int.reduceNeg,reduceCtorEq,hc,hw];all_goals exact x8):p:=h
theorem Ed {p:Prop}(h:p:=by simp only[go_sem,Nat.reduceBEq,Nat.reduceLeDiff,Nat.reduceLT,decide_true,Nat.reduceAdd,Nat.reduceSub,Nat.reduceMul,Int.reduceLE,Int.reduceLT,Int.reduceToNat,Int.reduceNeg,reduceCtorEq,hc];all_goals exact x8):p:=h
theorem pK {p:Prop}(h:p:=by simp only[go_sem,Nat.reduceBEq,Nat.reduceLeDiff,Nat.reduceLT,decide_true,Nat.reduceAdd,Nat.reduceSub,Nat.reduceMul,Int.reduceLE,Int.reduceLT,Int.reduceToNat,Int.reduceNeg,reduceCtorEq,hc,hw];all_goals exact tH):p:=h
theorem pL {p:Prop}(h:p:=by simp only[go_sem,Nat.reduceBEq,Nat.reduceLeDiff,Nat.reduceLT,decide_true,Nat.reduceAdd,Nat.reduceSub,Nat.reduceMul,Int.reduceLE,Int.reduceLT,Int.reduceToNat,Int.reduceNeg,reduceCtorEq,hc];all_goals exact tH):p:=h
def aC (n:Int)(lo:Int)(hi:Int):Bool:=((decide (n≥lo))&&(decide (n≤hi)))
@[go_sem] def gR:List SV→Option Con:=(pI fun n=>(pI fun lo=>(pI fun hi=>(pE (.det True (.v (.bool (aC n lo hi))))))))
theorem iD:FnOk Tryz.prog 47 gR:=by
 have hG:ConsOk Tryz.prog (mkG [] []):=a_ cg0 cg0
 refine cr [.o] mixed aH hG (fn:=Tryz.f47) (c:=ae Tryz.f47) (by kernel_rfl) (by kernel_rfl) (by kernel_rfl) (by kernel_rfl) (d8 fun n=>(d8 fun lo=>(d8 fun hi=>(bH (fun hp=>?_)))))
 dsimp only[bp]at hp
 refine⟨Nat.le_of_ble_eq_true rfl,L0,an _,?_⟩
 ·unfold ae Tryz.f47
  try unfold aC
  simp only[go_sem,Nat.reduceBEq,Nat.reduceLeDiff,Nat.reduceLT,decide_true,Nat.reduceAdd,Nat.reduceSub,Nat.reduceMul,Int.reduceLE,Int.reduceLT,Int.reduceToNat,Int.reduceNeg,reduceCtorEq]
  all_goals exact cl
def gS (x:Deed):Bool:=(bif(x.kind==1)then(((x.parts.length:Int) ==0)&&(x.of_==0))else(bif(x.kind==2)then((x.to==0)&&(x.of_==0))else(bif(x.kind==3)then(((x.to==0)&&((x.parts.length:Int) ==0))&&(x.of_==0))else(bif(x.kind==4)then((((x.right==0)&&(x.since==0))&&(x.to==0))&&((x.parts.length:Int) ==0))else(((((x.right==0)&&(x.since==0))&&(x.to==0))&&((x.parts.length:Int) ==0))&&(x.of_==0))))))
@[go_sem] def mG:List SV→Option Con:=(pD .deed fun x=>(pE (.det True (.v (.bool (gS x))))))
theorem qV:FnOk Tryz.prog 66 mG:=by
 have hG:ConsOk Tryz.prog (mkG [] []):=a_ cg0 cg0
 refine cr [.o] mixed aH hG (fn:=Tryz.f66) (c:=ae Tryz.f66) (by kernel_rfl) (by kernel_rfl) (by kernel_rfl) (by kernel_rfl) (cF fun x=>(bH (fun hp=>?_)))
 dsimp only[bp]at hp
 refine⟨Nat.le_of_ble_eq_true rfl,L0,an _,?_⟩
 ·unfold ae Tryz.f66
  try unfold gS
  simp only[go_sem,Nat.reduceBEq,Nat.reduceLeDiff,Nat.reduceLT,decide_true,Nat.reduceAdd,Nat.reduceSub,Nat.reduceMul,Int.reduceLE,Int.reduceLT,Int.reduceToNat,Int.reduceNeg,reduceCtorEq]
  all_goals exact cl
@[go_sem] def eL (d:District)(l_:List Part)(k_0:Nat)(s_0:Int×Int×List (Int×Bool)):Unit⊕(Int×Int×List (Int×Bool)):=(bif(((!(aC ((l_.getD k_0 (default:Part)).farm) 0 (IntKind.i64.wrap ((d.farms.length:Int) - 1)))) ||(cn .int .bool s_0.2.2 ((l_.getD k_0 (default:Part)).farm))) ||(decide ((l_.getD k_0 (default:Part)).share.n≤0)))then .inl ()else(bif((eD ({ n:=s_0.1,d:=s_0.2.1}:Ratio) ((l_.getD k_0 (default:Part)).share)).2 !=0)then .inl ()else .inr (((eD ({ n:=s_0.1,d:=s_0.2.1}:Ratio) ((l_.getD k_0 (default:Part)).share)).1).n,((eD ({ n:=s_0.1,d:=s_0.2.1}:Ratio) ((l_.getD k_0 (default:Part)).share)).1).d,(d_ .int .bool s_0.2.2 ((l_.getD k_0 (default:Part)).farm) true))))
def gG (d:District)(l_:List Part)(k_0:Nat)(s_0:Int×Int×List (Int×Bool)):Prop:=(d.farms.length≤cp→((((!(aC ((l_.getD k_0 (default:Part)).farm) 0 (IntKind.i64.wrap ((d.farms.length:Int) - 1)))) ||(cn .int .bool s_0.2.2 ((l_.getD k_0 (default:Part)).farm))) ||(decide ((l_.getD k_0 (default:Part)).share.n≤0)))=false→(kZ ({ n:=s_0.1,d:=s_0.2.1}:Ratio) ((l_.getD k_0 (default:Part)).share))))
def fZ (d:District)(l_:List Part):Bool:=(match ay (eL d l_) l_.length 0 (0,1,[])with| .inl x_0_0=>false| .inr s_0=>((aC (l_.length:Int) 1 16)&&((s_0.1==1)&&(s_0.2.1==1))))
def gq (d:District)(l_:List Part):Prop:=(l_.length≤cp→okI (eL d l_) (gG d l_) l_.length 0 (0,1,[]))
@[go_sem] def lP:List SV→Option Con:=(pD .district fun d=>(pR .part fun l_=>(pE (.det (gq d l_) (.v (.bool (fZ d l_)))))))
theorem pN:FnOk Tryz.prog 67 lP:=by
 have hG:ConsOk Tryz.prog (mkG [(47,gR),(91,rE)] []):=a_ (cgc iD (cgc wv cg0)) cg0
 refine cr [.o] mixed aH hG (fn:=Tryz.f67) (c:=ae Tryz.f67) (by kernel_rfl) (by kernel_rfl) (by kernel_rfl) (by kernel_rfl) (cF fun d=>(fX fun l_=>(bH (fun hp=>?_))))
 dsimp only[bp]at hp
 unfold gq at hp
 refine⟨Nat.le_of_ble_eq_true rfl,(fun id st=>bif Nat.beq id 0 then some (LCR (ρ:=Unit) (σ:=(Int×Int×List (Int×Bool))) 3 [] [0,1,2] (fun k_0 s_0=>⟨[(1,.rs .part l_),(2,.ptr 0 0),(5,.ptr 2 0),(6,.os 1),(13,.rs .part l_),(14,.v (.int .i64 (l_.length:Int))),(15,.v (.int .i64 (k_0:Int)))],[.cells (cellsOf .district d),.mp .int .bool s_0.2.2 none,.cells [.v (.int .i64 s_0.1),.v (.int .i64 s_0.2.1)]]⟩) (eL d l_) (gG d l_) l_.length (0,1,[]) (l_.length≤cp) (fun _=>.ret) (fun x_0_0=>⟨[(4,.v (.bool false))],[.dead,.dead,.dead]⟩) st)else none),?_,?_⟩
 ·unfold ae Tryz.f67
  simp only[aw,true_and,and_true]
  ·refine dQ mixed aH hG (by kernel_rfl) (fun _=>rfl) (l_.length:Int) rfl lL (fun hb0 k_0 s_0 hlt0 hq0 hw hc=>⟨L0,an _,?_⟩) (fun hb0 s_0 hc=>?_)
   ·unfold gG at hq0
    try simp only[hw,Int.toNat_natCast]at hq0
    exact Ec
   ·exact Ed
 ·unfold ae Tryz.f67
  try unfold fZ
  simp only[go_sem,Nat.reduceBEq,Nat.reduceLeDiff,Nat.reduceLT,decide_true,Nat.reduceAdd,Nat.reduceSub,Nat.reduceMul,Int.reduceLE,Int.reduceLT,Int.reduceToNat,Int.reduceNeg,reduceCtorEq]
  all_goals exact cl
def cy (a0:District)(a1:List (Int×Deed))(a2:Deed):Bool:=(bif((((!(aC a2.no 0 1048576)) ||(!(aC a2.at_ 0 4096))) ||(!(aC a2.known 0 1048576))) ||(!(gS a2)))then false else(bif(a2.kind==1)then(((((aC a2.right 0 (IntKind.i64.wrap ((a0.rights.length:Int) - 1)))&&((a0.rights.getD (Int.toNat a2.right) (default:Right)).kind==1))&&(aC a2.since 0 (IntKind.i64.wrap ((a0.farms.length:Int) - 1))))&&(aC a2.to 0 (IntKind.i64.wrap ((a0.farms.length:Int) - 1))))&&(a2.to !=a2.since))else(bif(a2.kind==2)then((((aC a2.right 0 (IntKind.i64.wrap ((a0.rights.length:Int) - 1)))&&((a0.rights.getD (Int.toNat a2.right) (default:Right)).kind==1))&&(aC a2.since 0 (IntKind.i64.wrap ((a0.farms.length:Int) - 1))))&&(fZ a0 a2.parts))else(bif(a2.kind==3)then(((aC a2.right 0 (IntKind.i64.wrap ((a0.rights.length:Int) - 1)))&&((a0.rights.getD (Int.toNat a2.right) (default:Right)).kind==1))&&(aC a2.since 0 (IntKind.i64.wrap ((a0.farms.length:Int) - 1))))else(bif(a2.kind==4)then(((mP .int .deed a1 a2.of_)&&((cn .int .deed a1 a2.of_).kind !=4))&&(decide (a2.known≥(cn .int .deed a1 a2.of_).known)))else false)))))
def g8 (a0:District)(a1:List (Int×Deed))(a2:Deed):Prop:=(((((!(aC a2.no 0 1048576)) ||(!(aC a2.at_ 0 4096))) ||(!(aC a2.known 0 1048576))) ||(!(gS a2)))=false→(a0.farms.length≤cp→(a0.rights.length≤cp→(((aC a2.right 0 (IntKind.i64.wrap ((a0.rights.length:Int) - 1)))=true→(0≤a2.right∧a2.right< (a0.rights.length:Int)))∧((a2.kind==1)=false→((a2.kind==2)=true→((((aC a2.right 0 (IntKind.i64.wrap ((a0.rights.length:Int) - 1)))&&((a0.rights.getD (Int.toNat a2.right) (default:Right)).kind==1))&&(aC a2.since 0 (IntKind.i64.wrap ((a0.farms.length:Int) - 1))))=true→(gq a0 a2.parts))))))))
@[go_sem] def mH:List SV→Option Con:=(pD .district fun a0=>(pM .int .deed fun a1=>(pD .deed fun a2=>(pE (.det (g8 a0 a1 a2) (.v (.bool (cy a0 a1 a2))))))))
theorem qW:FnOk Tryz.prog 43 mH:=by
 have hG:ConsOk Tryz.prog (mkG [(47,gR),(66,fun l=>mG (dN [.st .deed] l)),(67,fun l=>lP (dN [.st .district,.sl .part] l))] []):=a_ (cgc iD (cgc (qV.norm [.st .deed]) (cgc (pN.norm [.st .district,.sl .part]) cg0))) cg0
 refine cr [.o] mixed aH hG (fn:=Tryz.f43) (c:=ae Tryz.f43) (by kernel_rfl) (by kernel_rfl) (by kernel_rfl) (by kernel_rfl) (cF fun a0=>(JZ fun a1=>(cF fun a2=>(bH (fun hp=>?_)))))
 dsimp only[bp]at hp
 unfold g8 at hp
 refine⟨Nat.le_of_ble_eq_true rfl,L0,an _,?_⟩
 ·unfold ae Tryz.f43
  try unfold cy
  simp only[go_sem,Nat.reduceBEq,Nat.reduceLeDiff,Nat.reduceLT,decide_true,Nat.reduceAdd,Nat.reduceSub,Nat.reduceMul,Int.reduceLE,Int.reduceLT,Int.reduceToNat,Int.reduceNeg,reduceCtorEq]
  all_goals exact cl
def cK (x:Deed):Bool:=(decide ((x.parts.length:Int) > 16))
@[go_sem] def kD:List SV→Option Con:=(pD .deed fun x=>(pE (.det True (.v (.bool (cK x))))))
theorem n9:FnOk Tryz.prog 42 kD:=by
 have hG:ConsOk Tryz.prog (mkG [] []):=a_ cg0 cg0
 refine cr [.o] mixed aH hG (fn:=Tryz.f42) (c:=ae Tryz.f42) (by kernel_rfl) (by kernel_rfl) (by kernel_rfl) (by kernel_rfl) (cF fun x=>(bH (fun hp=>?_)))
 dsimp only[bp]at hp
 refine⟨Nat.le_of_ble_eq_true rfl,L0,an _,?_⟩
 ·unfold ae Tryz.f42
  try unfold cK
  simp only[go_sem,Nat.reduceBEq,Nat.reduceLeDiff,Nat.reduceLT,decide_true,Nat.reduceAdd,Nat.reduceSub,Nat.reduceMul,Int.reduceLE,Int.reduceLT,Int.reduceToNat,Int.reduceNeg,reduceCtorEq]
  all_goals exact cl
@[go_sem] def bO (s_:List Deed)(k_0:Nat)(s_0:Unit):Int⊕Unit:=(bif(cK (s_.getD k_0 (default:Deed)))then .inl (k_0:Int)else .inr ())
def cD (s_:List Deed):Int:=(match ay (bO s_) s_.length 0 ()with| .inl x_0_0=>x_0_0| .inr s_0=>(-1))
@[go_sem] def dc:List SV→Option Con:=(pR .deed fun s_=>(pFn 42 (pE ((pE (.det True (.v (.int .i64 (cD s_)))))))))
theorem dZ:FnOk Tryz.prog 65 dc:=by
 have hG:ConsOk Tryz.prog (mkG [(42,fun l=>kD (dN [.st .deed] l))] []):=a_ (cgc (n9.norm [.st .deed]) cg0) cg0
 refine cr [.o] mixed aH hG (fn:=Tryz.f65) (c:=ae Tryz.f65) (by kernel_rfl) (by kernel_rfl) (by kernel_rfl) (by kernel_rfl) (fX fun s_=>(pC (bH ((bH (fun hp=>?_))))))
 dsimp only[bp]at hp
 refine⟨Nat.le_of_ble_eq_true rfl,(fun id st=>bif Nat.beq id 0 then some (LCR (ρ:=Int) (σ:=Unit) 0 [] [] (fun k_0 s_0=>⟨[(0,.rs .deed s_),(1,.fn 42 [] []),(7,.v (.int .i64 (s_.length:Int))),(8,.v (.int .i64 (k_0:Int)))],[]⟩) (bO s_) pT s_.length () (s_.length≤cp) (fun _=>.ret) (fun x_0_0=>⟨[(4,.v (.int .i64 x_0_0))],[]⟩) st)else none),?_,?_⟩
 ·unfold ae Tryz.f65
  simp only[aw,true_and,and_true]
  ·refine dQ mixed aH hG (by kernel_rfl) (fun _=>rfl) (s_.length:Int) rfl lL (fun hb0 k_0 s_0 hlt0 _ hw hc=>⟨L0,an _,?_⟩) (fun hb0 s_0 hc=>?_)
   ·exact nO
   ·exact nP
 ·unfold ae Tryz.f65
  try unfold cD
  simp only[go_sem,Nat.reduceBEq,Nat.reduceLeDiff,Nat.reduceLT,decide_true,Nat.reduceAdd,Nat.reduceSub,Nat.reduceMul,Int.reduceLE,Int.reduceLT,Int.reduceToNat,Int.reduceNeg,reduceCtorEq]
  all_goals exact cl
@[go_sem] noncomputable def c7:List SV→Option Con:=fun l=>(dc l)
theorem f9:FnOk Tryz.prog 65 c7:=dZ
def aR (s_:List Deed):Bool:=(decide ((cD s_)≥0))
@[go_sem] def dM:List SV→Option Con:=(pR .deed fun s_=>(pFn 42 (pE ((pE (.det True (.v (.bool (aR s_)))))))))
theorem fM:FnOk Tryz.prog 41 dM:=by
 have hG:ConsOk Tryz.prog (mkG [(65,fun l=>c7 (dN [.sl .deed,.o] l))] []):=a_ (cgc (f9.norm [.sl .deed,.o]) cg0) cg0
 refine cr [.o] mixed aH hG (fn:=Tryz.f41) (c:=ae Tryz.f41) (by kernel_rfl) (by kernel_rfl) (by kernel_rfl) (by kernel_rfl) (fX fun s_=>(pC (bH ((bH (fun hp=>?_))))))
 dsimp only[bp]at hp
 refine⟨Nat.le_of_ble_eq_true rfl,L0,an _,?_⟩
 ·unfold ae Tryz.f41
  try unfold aR
  simp only[go_sem,Nat.reduceBEq,Nat.reduceLeDiff,Nat.reduceLT,decide_true,Nat.reduceAdd,Nat.reduceSub,Nat.reduceMul,Int.reduceLE,Int.reduceLT,Int.reduceToNat,Int.reduceNeg,reduceCtorEq,c7]
  all_goals exact cl
@[go_sem] def dD (d:District)(l_:List Deed)(k_0:Nat)(s_0:List (Int×Deed)):Unit⊕(List (Int×Deed)):=(bif(((decide ((k_0:Int) > 0))&&(decide ((l_.getD k_0 (default:Deed)).no≤(l_.getD (Int.toNat (IntKind.i64.wrap ((k_0:Int) - 1))) (default:Deed)).no))) ||(!(cy d s_0 (l_.getD k_0 (default:Deed)))))then .inl ()else .inr (d_ .int .deed s_0 ((l_.getD k_0 (default:Deed)).no) (l_.getD k_0 (default:Deed))))
def gH (d:District)(l_:List Deed)(k_0:Nat)(s_0:List (Int×Deed)):Prop:=(((decide ((k_0:Int) > 0))=true→(0≤(IntKind.i64.wrap ((k_0:Int) - 1))∧(IntKind.i64.wrap ((k_0:Int) - 1)) < (l_.length:Int)))∧(((decide ((k_0:Int) > 0))&&(decide ((l_.getD k_0 (default:Deed)).no≤(l_.getD (Int.toNat (IntKind.i64.wrap ((k_0:Int) - 1))) (default:Deed)).no)))=false→(g8 d s_0 (l_.getD k_0 (default:Deed)))))
def ak (d:District)(l_:List Deed):Int:=(bif((bf d) !=0)then(bf d)else(bif((decide ((l_.length:Int) > 512)) ||(aR l_))then 2 else(match ay (dD d l_) l_.length 0 ([])with| .inl x_0_0=>250| .inr s_0=>0)))
def c8 (d:District)(l_:List Deed):Prop:=(((bf d) !=0)=false→(l_.length≤cp→(((decide ((l_.length:Int) > 512)) ||(aR l_))=false→(l_.length≤cp→okI (dD d l_) (gH d l_) l_.length 0 ([])))))
@[go_sem] def eh:List SV→Option Con:=(pD .district fun d=>(pR .deed fun l_=>(pE (.det (c8 d l_) (.v (.int .i64 (ak d l_)))))))
theorem eM:FnOk Tryz.prog 15 eh:=by
 have hG:ConsOk Tryz.prog (mkG [(24,fun l=>kC (dN [.st .district] l)),(41,fun l=>dM (dN [.sl .deed,.o] l)),(43,fun l=>mH (dN [.st .district,.mp .int .deed,.st .deed] l))] []):=a_ (cgc (mE.norm [.st .district]) (cgc (fM.norm [.sl .deed,.o]) (cgc (qW.norm [.st .district,.mp .int .deed,.st .deed]) cg0))) cg0
 refine cr [.o] mixed aH hG (fn:=Tryz.f15) (c:=ae Tryz.f15) (by kernel_rfl) (by kernel_rfl) (by kernel_rfl) (by kernel_rfl) (cF fun d=>(fX fun l_=>(bH (fun hp=>?_))))
 dsimp only[bp]at hp
 unfold c8 at hp
 refine⟨Nat.le_of_ble_eq_true rfl,(fun id st=>bif Nat.beq id 0 then some (LCR (ρ:=Unit) (σ:=(List (Int×Deed))) 2 [] [0,1] (fun k_0 s_0=>⟨[(1,.rs .deed l_),(2,.ptr 0 0),(5,.os 1),(21,.rs .deed l_),(22,.v (.int .i64 (l_.length:Int))),(23,.v (.int .i64 (k_0:Int)))],[.cells (cellsOf .district d),.mp .int .deed s_0 none]⟩) (dD d l_) (gH d l_) l_.length ([]) (l_.length≤cp) (fun _=>.ret) (fun x_0_0=>⟨[(4,.v (.int .i64 250))],[.dead,.dead]⟩) st)else none),?_,?_⟩
 ·unfold ae Tryz.f15
  simp only[aw,true_and,and_true]
  ·refine dQ mixed aH hG (by kernel_rfl) (fun _=>rfl) (l_.length:Int) rfl lL (fun hb0 k_0 s_0 hlt0 hq0 hw hc=>⟨L0,an _,?_⟩) (fun hb0 s_0 hc=>?_)
   ·unfold gH at hq0
    try simp only[hw,Int.toNat_natCast]at hq0
    exact pK
   ·exact pL
 ·unfold ae Tryz.f15
  try unfold ak
  simp only[go_sem,Nat.reduceBEq,Nat.reduceLeDiff,Nat.reduceLT,decide_true,Nat.reduceAdd,Nat.reduceSub,Nat.reduceMul,Int.reduceLE,Int.reduceLT,Int.reduceToNat,Int.reduceNeg,reduceCtorEq]
  all_goals exact cl
end Go.Sx
end
section
namespace Go.Sx
open Go.RowKit
def pXM {α:Type 1}(t t2:Tag)(k:List (t.T×t2.T)→List SV→Option α):List SV→Option α
 | .ep [s] 0::r=>pM t t2 k (s::r)
 |_=>none
@[go_sem] theorem Oc {α:Type 1}{t t2:Tag}{k:List (t.T×t2.T)→List SV→Option α}{s:SV}{r:List SV}:pXM t t2 k (.ep [s] 0::r)=pM t t2 k (s::r):=(rfl)
theorem A4 {α:Type 1}{G:List SV→α→Prop}{t t2:Tag}{k:List (t.T×t2.T)→List SV→Option α}(h:∀ n l c,k n l=some c→G (.ep [.rm t t2 n] 0::l) c):∀ l c,pXM t t2 k l=some c→G l c:=fun l c hc=>by
 unfold pXM at hc
 split at hc
 ·obtain⟨x,r,e,h1⟩:=DH hc
  simp only[List.cons.injEq]at e
  obtain⟨rfl,rfl⟩:=e
  exact h x _ c h1
 ·cases hc
section
universe u
variable {α:Type u}{G:List SV→α→Prop}
def pLS (k:List SV→Option (List SV→Option α)):List SV→Option α
 | .ls l::r=>apO (k l) r
 |_=>none
@[go_sem] theorem QJ {k:List SV→Option (List SV→Option α)}{l r:List SV}:pLS k (.ls l::r)=apO (k l) r:=(rfl)
end
end Go.Sx
end
section
namespace Go.Sx
open Go.RowKit
open Classical in
noncomputable def fC {τ:Type}(A:τ→List SV)(H:τ→List Ob)(K:τ→HCon):List SV→List Ob→Option HCon:=fun l h=>if e:∃ x,l=A x∧h=H x then some (K e.choose)else none
theorem Ee (x:Deed):(⟨x.no,x.kind,x.right,x.since,x.to,x.parts,x.of_,x.at_,x.known⟩:Deed)=x:=rfl
theorem ww (d:District):(⟨d.name,d.hours,⟨d.tank.cap,d.tank.start⟩,d.reaches,d.farms,d.crops,d.rights,d.duties,d.wells⟩:District)=d:=rfl
theorem Cd {k:Tag}{x y:k.T}:cellsOf k x=cellsOf k y↔x=y:=⟨fun h=>by
 have h1:=nF x
 rw[h,nF y]at h1
 exact(Option.some.inj h1).symm,fun h=>by rw[h]⟩
theorem d4 {τ:Type}{A:τ→List SV}{H:τ→List Ob}{K:τ→HCon}{x:τ}(inj:∀ x y,A x=A y→H x=H y→x=y:=by
 intro x y h1 h2
 simp only[List.cons.injEq,SV.agg.injEq,SV.ep.injEq,SV.v.injEq,Value.int.injEq,Value.bool.injEq,Value.string.injEq,SV.fn.injEq,SV.rs.injEq,SV.rm.injEq,Ob.row.injEq,Ob.mp.injEq,Ob.cells.injEq,Ob.grid.injEq,heq_eq_eq,Cd,true_and,and_true]at h1 h2
 first|exact h2|exact h1|(simp_all [Prod.ext_iff];done)):fC A H K (A x) (H x)=some (K x):=by
 have e:∃ y,A x=A y∧H x=H y:=⟨x,rfl,rfl⟩
 unfold fC
 rw[dif_pos e]
 have:=inj _ _ e.choose_spec.1 e.choose_spec.2
 rw[←this]
theorem df {τ:Type}{A:τ→List SV}{H:τ→List Ob}{K:τ→HCon}{l:List SV}{h:List Ob}{c:HCon}(hh:fC A H K l h=some c):∃ x,l=A x∧h=H x∧c=K x:=by
 unfold fC at hh
 split at hh
 ·rename_i e
  simp only[Option.some.injEq]at hh
  exact⟨e.choose,e.choose_spec.1,e.choose_spec.2,hh.symm⟩
 ·cases hh
end Go.Sx
end
section
namespace Go.Sx
open Go.RowKit
def Ce (k:Tag)(i:Nat)(t:List (Nat×SV))(h:List Ob):SV→St
 | .v (.slice none 0 0) =>⟨(i,.os h.length)::t,h++[.row k []]⟩
 |_=>⟨t,h⟩
def Ef (k:Tag)(id off:Nat)(t:List (Nat×SV))(h:List Ob)(l:List SV):Option SV→St
 |some (.v (.slice none 0 0)) =>⟨t,bu h id (.cells (l.set off (.os h.length)))++[.row k []]⟩
 |_=>⟨t,h⟩
def G_ (k:Tag)(id off:Nat)(t:List (Nat×SV))(h:List Ob):Ob→St
 | .cells l=>Ef k id off t h l (nth l off)
 |_=>⟨t,h⟩
def Eg (k:Tag)(t:List (Nat×SV))(h:List Ob):SV→St
 | .ptr id off=>G_ k id off t h (ag h id)
 |_=>⟨t,h⟩
def x9 (k:Tag):ResultVar→List (Nat×SV)→List Ob→St
 | .tmp i,t,h=>Ce k i t h (lk i t)
 | .cell i _,t,h=>Eg k t h (lk i t)
def tI:List (ResultVar×Tag)→St→St
 | [],st=>st
 |x::r,st=>tI r (x9 x.2 x.1 st.t st.h)
theorem Ha (k:Tag)(r:ResultVar)(st:St):NilS st (x9 k r st.t st.h):=by
 obtain⟨t,h⟩:=st
 cases r with
 |tmp i=>
  show NilS _ (Ce k i t h (lk i t))
  unfold Ce
  split
  ·rename_i e
   exact .slot _ (.refl _) e (.inl ⟨_,rfl⟩)
  ·exact .refl _
 |cell i _=>
  show NilS _ (Eg k t h (lk i t))
  unfold Eg
  split
  ·unfold G_
   split
   ·rename_i e
    unfold Ef
    split
    ·rename_i e2
     exact .cell _ (.refl _) e (by rw[←dI];exact e2) (.inl ⟨_,rfl⟩)
    ·exact .refl _
   ·exact .refl _
  ·exact .refl _
theorem NilS.trans {a b c:St}(h1:NilS a b)(h2:NilS b c):NilS a c:=by
 induction h2 with
 |refl=>exact h1
 |cell o _ e1 e2 ho ih=>exact .cell o ih e1 e2 ho
 |slot o _ e1 ho ih=>exact .slot o ih e1 ho
 |slotE k _ e1 ih=>exact .slotE k ih e1
theorem J4 (l:List (ResultVar×Tag)):∀ st,NilS st (tI l st):=by
 induction l with
 |nil=>exact fun st=>.refl _
 |cons x r ih=>exact fun st=>(Ha x.2 x.1 st).trans (ih _)
def A5 (l:List (ResultVar×Tag))(rs:List ResultVar)(ts:Tis)(post:SV→Prop)(pp:Value→Prop):Ex→St→Prop
 | .exit _,_=>False
 | .normal,st=>db post (oE true rs ts (tI l st))
 | .ret,st=>db post (oE true rs ts (tI l st))
 | .pan x,_=>pp x
section
variable {l:List (ResultVar×Tag)}{rs:List ResultVar}{ts:Tis}{post:SV→Prop}{pp:Value→Prop}{st:St}{k:Tag}{i id off:Nat}{t:List (Nat×SV)}{h:List Ob}{m:List SV}
@[go_sem] theorem Mo:A5 l rs ts post pp .ret st=db post (oE true rs ts (tI l st)):=(rfl)
@[go_sem] theorem Hb:A5 l rs ts post pp .normal st=db post (oE true rs ts (tI l st)):=(rfl)
@[go_sem] theorem Mq {x:Value}:A5 l rs ts post pp (.pan x) st=pp x:=(rfl)
@[go_sem] theorem Od:tI [] st=st:=(rfl)
@[go_sem] theorem Mr {r:ResultVar}:tI ((r,k)::l) ⟨t,h⟩=tI l (x9 k r t h):=(rfl)
@[go_sem] theorem Ms:x9 k (.tmp i) t h=Ce k i t h (lk i t):=(rfl)
@[go_sem] theorem J5 {ty:TypeId}:x9 k (.cell i ty) t h=Eg k t h (lk i t):=(rfl)
@[go_sem] theorem Oe:Ce k i t h (.v (.slice none 0 0))=⟨(i,.os h.length)::t,h++[.row k []]⟩:=(rfl)
@[go_sem] theorem PV:Ce k i t h (.os id)=⟨t,h⟩:=(rfl)
@[go_sem] theorem Of:Eg k t h (.ptr id off)=G_ k id off t h (ag h id):=(rfl)
@[go_sem] theorem J6:G_ k id off t h (.cells m)=Ef k id off t h m (nth m off):=(rfl)
@[go_sem] theorem Og:Ef k id off t h m (some (.v (.slice none 0 0)))=⟨t,bu h id (.cells (m.set off (.os h.length)))++[.row k []]⟩:=(rfl)
@[go_sem] theorem PW:Ef k id off t h m (some (.os i))=⟨t,h⟩:=(rfl)
attribute [go_sem] List.set_cons_zero
end
section
variable {P:Program}{ts:Tis}{G:Cons}
theorem qX (l:List (ResultVar×Tag)) (hm:P.follows .mixedOrders=true) (hts:ts.ok P) (hG:ConsOk P G) {f:FuncId} {fn:Func} {c:Code} (hf:P.funcs[f]? =some fn) (hb:fn.body=some c) (hname:(fn.name== "runtime.NumGoroutine")=false)
  (hc:cd fn.ntmps c=true) {C:List SV→Option Con}
  (h:∀ l0 con,C l0=some con→bp con→l0.length≤fn.ntmps∧∃ L,aw P none fn.ntmps L c∧exec ts G L c ⟨ir 0 l0,[]⟩ (A5 l fn.results.toList ts (cO con) (ia con))):FnOk P f C:=by
 refine⟨fun l con _ args w=>?_,fun l0 con hcon hpre F w vs hF hvs=>?_⟩
 ·have hn:¬fn.name= "runtime.NumGoroutine":=by simpa using hname
  simp[callFunc,hf,hn,hb]
 ·obtain⟨hlen,L,hl,hx⟩:=h l0 con hcon hpre
  refine kv (n:=0) (callsIn_of_wp_marks hf hb trivial ?_)
  have hr:StRel F { w:=w,own:=ce} fn.ntmps ce ⟨ir 0 l0,[]⟩ { tmps:=vs++Array.replicate (fn.ntmps - vs.size) undef,defers:=[]} w:=
   ⟨by have:=hvs.1;simp;omega,Dfr.nil,py hF,Fr.refl _,fun t=>jB hvs _ t⟩
  refine wpIn_mono (jY hm hts hG c hc hl F _ _ hx ce _ w hr) ?_
  intro e a' w' hq
  have key:∀ F1 own st,(∀ b,F b→F1 b)→StRel F1 { w:=w,own:=ce} fn.ntmps own st a' w'→db (cO con) (oE true fn.results.toList ts (tI l st))→LeavesInM (rd none) 0 P fn a'.tmps
    (fun e w'=>(∃ s u own',cO con s∧e=.returned u∧Handed F w own' w' s u∧Below w.heap.size w w')∨(∃ x,ia con x∧e=.panicked [{ v:=x,recovered:=false}]∧Below w.heap.size w w')) a'.defers .returning w':=by
   intro F1 own0' st0 hF1 hst0 hdone
   obtain⟨own,hst⟩:=(J4 l st0).rel hst0
   generalize tI l st0=st at hst hdone
   refine gQ hst (by simp) fun w2 hst2=>?_
   have hst3:=hst2.less hF1 rfl
   unfold oE at hdone
   cases hs:iS (g_ ts st fn.results.toList)with
   |none=>
    simp only[cond_true,Bu]at hdone;rw[hs]at hdone;exact hdone.elim
   |some s=>
    obtain⟨u,e1,e2⟩:=px (P:=P) hts hst3 hs
    refine⟨u,e1,.inl ?_⟩
    simp only[cond_true,Bu]at hdone
    rw[hs]at hdone
    change db (cO con) (rj st.h s)at hdone
    cases hg:rj st.h s with
    |none=>rw[hg]at hdone;exact hdone.elim
    |some s2=>
     rw[hg]at hdone
     obtain⟨own',hh⟩:=AM hst3 e2 hg
     exact⟨_,u,own',hdone,rfl,hh,jA hst3.fr⟩
  cases e with
  |normal=>obtain⟨F1,own,st,h0,h1,h2⟩:=hq;exact key F1 own st h0 h1 h2
  |ret=>obtain⟨F1,own,st,h0,h1,h2⟩:=hq;exact key F1 own st h0 h1 h2
  |exit id=>obtain⟨F1,own,st,h0,h1,h2⟩:=hq;exact h2.elim
  |panic ch=>
   obtain⟨x,F1,own,st,h0,h1,h2,rfl⟩:=hq
   exact gQ h1 (by simp) fun w2 hst2=>.inr ⟨x,h2,rfl,jA hst2.fr⟩
  |_=>exact hq.elim
end
end Go.Sx
end
section
namespace Go.Sx
open Go.Proofs
set_option maxRecDepth 100000
set_option linter.unusedSimpArgs false
theorem Eh {p:Prop}(h:p:=by(first|done|(repeat' (first|with_reducible refine And.intro ?_ ?_|((with_reducible show _≠_);first|assumption|omega|(simp_all [b8,cq];done) |grind) |with_reducible intro _)) <;>(first|done|with_reducible exact Empty.elim ‹Empty› |with_reducible assumption|rfl|omega|assumption|decide|exact fk [0,1,0] |exact fk [0,1,2] |exact czl|(simp only[*,cond_true,cond_false,Bool.not_true,Bool.not_false,go_sem,Nat.reduceBEq,Nat.reduceLeDiff,Nat.reduceLT,decide_true,Nat.reduceAdd,Nat.reduceSub,Nat.reduceMul,Int.reduceLE,Int.reduceLT,Int.reduceToNat,Int.reduceNeg,reduceCtorEq];(repeat' (first|with_reducible refine And.intro ?_ ?_|((with_reducible show _≠_);first|assumption|omega|(simp_all [b8,cq];done) |grind) |with_reducible intro _)) <;>(first|done|assumption|rfl|omega|decide|exact fk [0,1,0] |exact fk [0,1,2] |(simp_all [b8,cq];done))) |(simp_all [okI,b8,cq];done) |(simp_all [b8,cq];(first|done|exact fk2 [0,1,0] |exact fk2 [0,1,2])) |exact fk2 [0,1,0] |exact fk2 [0,1,2]))):p:=h
theorem Ei {p:Prop}(h:p:=by simp only[go_sem,Nat.reduceBEq,Nat.reduceLeDiff,Nat.reduceLT,decide_true,Nat.reduceAdd,Nat.reduceSub,Nat.reduceMul,Int.reduceLE,Int.reduceLT,Int.reduceToNat,Int.reduceNeg,reduceCtorEq];all_goals exact qS):p:=h
@[go_sem] def gI:List SV→Option Con:=pR .deed fun l=>pE (.det (l.length*88≤jL) (.nw .deed l))
theorem jE:FnOk Tryz.prog 40 gI:=by
 have hG:ConsOk Tryz.prog (mkG [] []):=a_ cg0 cg0
 refine qX [(.tmp 2,.deed)] mixed aH hG (fn:=Tryz.f40) (c:=ae Tryz.f40) (by kernel_rfl) (by kernel_rfl) (by kernel_rfl) (by kernel_rfl) (fX fun l=>bH fun hp=>?_)
 dsimp only[bp]at hp
 refine⟨Nat.le_of_ble_eq_true rfl,L0,an _,?_⟩
 unfold ae Tryz.f40
 simp only[go_sem,Nat.reduceBEq,Nat.reduceLeDiff,Nat.reduceAdd,Nat.reduceSub,Nat.reduceMul,Int.reduceLE,Int.reduceLT,Int.reduceToNat,Int.reduceNeg,reduceCtorEq]
 intro b hb
 refine⟨fun h=>?_,fun _=>⟨hp,fun _=>rfl⟩⟩
 have hl:=hb h
 subst hl
 rfl
def dS (z:Deed)(no:Int):Int:=(cX z.no no)
@[go_sem] def lQ:List SV→Option Con:=(pD .deed fun z=>(pI fun no=>(pE (.det True (.v (.int .i64 (dS z no)))))))
theorem pO:FnOk Tryz.prog 37 lQ:=by
 have hG:ConsOk Tryz.prog (mkG [(38,eI)] []):=a_ (cgc fz cg0) cg0
 refine cr [.o] mixed aH hG (fn:=Tryz.f37) (c:=ae Tryz.f37) (by kernel_rfl) (by kernel_rfl) (by kernel_rfl) (by kernel_rfl) (cF fun z=>(d8 fun no=>(bH (fun hp=>?_))))
 dsimp only[bp]at hp
 refine⟨Nat.le_of_ble_eq_true rfl,L0,an _,?_⟩
 ·unfold ae Tryz.f37
  try unfold dS
  simp only[go_sem,Nat.reduceBEq,Nat.reduceLeDiff,Nat.reduceLT,decide_true,Nat.reduceAdd,Nat.reduceSub,Nat.reduceMul,Int.reduceLE,Int.reduceLT,Int.reduceToNat,Int.reduceNeg,reduceCtorEq]
  all_goals exact cl
@[go_sem] def aj (x:List Deed)(target:Int)(k_0:Nat)(s_0:Int×Int):Int⊕(Int×Int):=(bif(decide (s_0.1<s_0.2))then(bif(decide ((dS (x.getD (Int.toNat (IntKind.i64.wrap (bh .u64 (IntKind.u64.wrap (IntKind.i64.wrap (s_0.1+s_0.2))) 1))) (default:Deed)) target) <0))then .inr ((IntKind.i64.wrap ((IntKind.i64.wrap (bh .u64 (IntKind.u64.wrap (IntKind.i64.wrap (s_0.1+s_0.2))) 1))+1)),s_0.2)else .inr (s_0.1,(IntKind.i64.wrap (bh .u64 (IntKind.u64.wrap (IntKind.i64.wrap (s_0.1+s_0.2))) 1))))else .inl s_0.1)
def aD (x:List Deed)(target:Int)(k_0:Nat)(s_0:Int×Int):Prop:=((decide (s_0.1<s_0.2))=true→(0≤(IntKind.i64.wrap (bh .u64 (IntKind.u64.wrap (IntKind.i64.wrap (s_0.1+s_0.2))) 1))∧(IntKind.i64.wrap (bh .u64 (IntKind.u64.wrap (IntKind.i64.wrap (s_0.1+s_0.2))) 1)) < (x.length:Int)))
def am (x:List Deed)(target:Int):Int×Bool:=(match ay (aj x target) (x.length+1) 0 (0,(x.length:Int))with| .inl x_0_0=>(x_0_0,((decide (x_0_0< (x.length:Int)))&&((dS (x.getD (Int.toNat x_0_0) (default:Deed)) target) ==0))) | .inr s_0=>default)
def bB (x:List Deed)(target:Int):Prop:=(x.length≤cp→(okI (aj x target) (aD x target) (x.length+1) 0 (0,(x.length:Int))∧(∀ z_,ay (aj x target) (x.length+1) 0 (0,(x.length:Int))≠ .inr z_)∧(∀ x_0_0,ay (aj x target) (x.length+1) 0 (0,(x.length:Int))=.inl x_0_0→((decide (x_0_0< (x.length:Int)))=true→(0≤x_0_0∧x_0_0< (x.length:Int))))))
@[go_sem] def dh:List SV→Option Con:=(pR .deed fun x=>(pI fun target=>(pFn 37 (pE ((pE (.det (bB x target) (.tup [.v (.int .i64 ((am x target).1)),.v (.bool ((am x target).2))]))))))))
theorem eB:FnOk Tryz.prog 36 dh:=by
 have hG:ConsOk Tryz.prog (mkG [(37,fun l=>lQ (dN [.st .deed,.o] l))] []):=a_ (cgc (pO.norm [.st .deed,.o]) cg0) cg0
 refine cr [.o,.o] mixed aH hG (fn:=Tryz.f36) (c:=ae Tryz.f36) (by kernel_rfl) (by kernel_rfl) (by kernel_rfl) (by kernel_rfl) (fX fun x=>(d8 fun target=>(pC (bH ((bH (fun hp=>?_)))))))
 dsimp only[bp]at hp
 unfold bB at hp
 refine⟨Nat.le_of_ble_eq_true rfl,(fun id st=>bif Nat.beq id 0 then some (LCV (ρ:=Int) (σ:=(Int×Int)) 0 [] [] (fun k_0 s_0=>⟨[(0,.rs .deed x),(1,.v (.int .i64 target)),(2,.fn 37 [] []),(8,.v (.int .i64 (x.length:Int))),(9,.v (.int .i64 s_0.1)),(10,.v (.int .i64 s_0.2))],[]⟩) (aj x target) (aD x target) (x.length+1) (0,(x.length:Int)) (fun _=>.normal) (fun x_0_0=>⟨[(0,.rs .deed x),(1,.v (.int .i64 target)),(2,.fn 37 [] []),(8,.v (.int .i64 (x.length:Int))),(9,.v (.int .i64 x_0_0))],[]⟩) st)else none),?_,?_⟩
 ·unfold ae Tryz.f36
  simp only[aw,true_and,and_true]
  ·refine eY mixed aH hG (by kernel_rfl) (fun _=>rfl) fun k_0 s_0 hq0=>⟨L0,an _,?_⟩
   ·unfold aD at hq0
    exact Ei
 ·unfold ae Tryz.f36
  try unfold am
  simp only[go_sem,Nat.reduceBEq,Nat.reduceLeDiff,Nat.reduceLT,decide_true,Nat.reduceAdd,Nat.reduceSub,Nat.reduceMul,Int.reduceLE,Int.reduceLT,Int.reduceToNat,Int.reduceNeg,reduceCtorEq]
  all_goals exact cl
def bb (l_:List Deed)(v_:List Deed):List Deed:=(bif((v_.length:Int) ==0)then l_ else(l_++v_))
def bI (l_:List Deed)(v_:List Deed):Prop:=((0≤(l_.length:Int)∧(l_.length:Int)≤(l_.length:Int))∧(v_.length≤cp→(((v_.length:Int) ==0)=false→(l_.length≤cp→((l_++v_).length*88≤jL)))))
noncomputable def dA:List SV→List Ob→Option HCon:=fC (fun x_:Int×(List Deed)×(List Deed) =>[.os 0,.v (.int .i64 x_.1),.os 1]) (fun x_=>[.row .deed x_.2.1,.row .deed x_.2.2]) (fun x_=>d7 (x_.1=(x_.2.1.length:Int)∧(bI x_.2.1 x_.2.2)) (.os 2) [.dead,.row .deed x_.2.2,.row .deed (bb x_.2.1 x_.2.2)])
@[go_sem] theorem n_ (i:Int)(l_:List Deed)(v_:List Deed):dA ([.os 0,.v (.int .i64 i),.os 1]) ([.row .deed l_,.row .deed v_])=some (d7 (i=(l_.length:Int)∧(bI l_ v_)) (.os 2) [.dead,.row .deed v_,.row .deed (bb l_ v_)]):=d4 (A:=fun x_:Int×(List Deed)×(List Deed) =>[.os 0,.v (.int .i64 x_.1),.os 1]) (H:=fun x_=>[.row .deed x_.2.1,.row .deed x_.2.2]) (K:=fun x_=>d7 (x_.1=(x_.2.1.length:Int)∧(bI x_.2.1 x_.2.2)) (.os 2) [.dead,.row .deed x_.2.2,.row .deed (bb x_.2.1 x_.2.2)]) (x:=(i,l_,v_))
theorem ig:FnOkO Tryz.prog 39 (dA):=by
 have hG:ConsOk Tryz.prog (mkG [] []):=a_ cg0 cg0
 refine eX mixed aH hG (fn:=Tryz.f39) (c:=ae Tryz.f39) (by kernel_rfl) (by kernel_rfl) (by kernel_rfl) (by kernel_rfl) fun l o con h=>?_
 obtain⟨⟨i,l_,v_⟩,rfl,rfl,rfl⟩:=df h
 clear h
 try dsimp only
 refine⟨_,_,_,rfl,fun hp=>?_⟩
 obtain⟨rfl,hp⟩:=hp
 unfold bI at hp
 refine⟨Nat.le_of_ble_eq_true rfl,L0,?_,?_⟩
 ·unfold ae Tryz.f39
  simp only[aw,and_self,true_and,and_true]
 ·unfold ae Tryz.f39
  try unfold bb
  simp only[go_sem,Nat.reduceBEq,Nat.reduceLeDiff,Nat.reduceLT,decide_true,Nat.reduceAdd,Nat.reduceSub,Nat.reduceMul,Int.reduceLE,Int.reduceLT,Int.reduceToNat,Int.reduceNeg,reduceCtorEq,beq_self_eq_true]
  all_goals exact Eh
def iE (d:District)(l_:List Deed)(x:Deed):List Deed×Int:=(bif((ak d l_) !=0)then([],(ak d l_))else(bif(am l_ x.no).2 then([],171)else(bif((ak d (bb l_ ([x]))) !=0)then([],(ak d (bb l_ ([x]))))else((bb l_ ([x])),0))))
def eZ (d:District)(l_:List Deed)(x:Deed):Prop:=((c8 d l_)∧(((ak d l_) !=0)=false→((bB l_ x.no)∧((am l_ x.no).2=false→((l_.length*88≤jL)∧(((am l_ x.no).1=(l_.length:Int))∧((bI l_ ([x]))∧(c8 d (bb l_ ([x]))))))))))
@[go_sem] def kE:List SV→Option Con:=(pD .district fun d=>(pR .deed fun l_=>(pD .deed fun x=>(pE (.det (eZ d l_ x) (.tup [.nw .deed ((iE d l_ x).1),.v (.int .i64 ((iE d l_ x).2))]))))))
theorem mI:FnOk Tryz.prog 13 kE:=by
 have hG:ConsOk Tryz.prog (mkG [(15,fun l=>eh (dN [.st .district,.sl .deed] l)),(36,fun l=>dh (dN [.sl .deed,.o,.o] l)),(40,fun l=>gI (dN [.sl .deed] l))] [(39,dA)]):=a_ (cgc (eM.norm [.st .district,.sl .deed]) (cgc (eB.norm [.sl .deed,.o,.o]) (cgc (jE.norm [.sl .deed]) cg0))) (cgc ig cg0)
 refine qX [(.tmp 6,.deed)] mixed aH hG (fn:=Tryz.f13) (c:=ae Tryz.f13) (by kernel_rfl) (by kernel_rfl) (by kernel_rfl) (by kernel_rfl) (cF fun d=>(fX fun l_=>(cF fun x=>(bH (fun hp=>?_)))))
 dsimp only[bp]at hp
 unfold eZ at hp
 refine⟨Nat.le_of_ble_eq_true rfl,L0,an _,?_⟩
 ·unfold ae Tryz.f13
  try unfold iE
  simp only[go_sem,Nat.reduceBEq,Nat.reduceLeDiff,Nat.reduceLT,decide_true,Nat.reduceAdd,Nat.reduceSub,Nat.reduceMul,Int.reduceLE,Int.reduceLT,Int.reduceToNat,Int.reduceNeg,reduceCtorEq]
  all_goals exact cl3
end Go.Sx
end
section
namespace Go.Sx
open Go.Proofs
set_option maxRecDepth 100000
set_option linter.unusedSimpArgs false
theorem Ej {p:Prop}(h:p:=by(first|done|(repeat' (first|with_reducible refine And.intro ?_ ?_|((with_reducible show _≠_);first|assumption|omega|(simp_all [b8,cq];done) |grind) |with_reducible intro _)) <;>(first|done|with_reducible exact Empty.elim ‹Empty› |with_reducible assumption|rfl|omega|assumption|decide|exact fk [0,1,2,3,4] |exact czl|(simp only[*,cond_true,cond_false,Bool.not_true,Bool.not_false,go_sem,Nat.reduceBEq,Nat.reduceLeDiff,Nat.reduceLT,decide_true,Nat.reduceAdd,Nat.reduceSub,Nat.reduceMul,Int.reduceLE,Int.reduceLT,Int.reduceToNat,Int.reduceNeg,reduceCtorEq];(repeat' (first|with_reducible refine And.intro ?_ ?_|((with_reducible show _≠_);first|assumption|omega|(simp_all [b8,cq];done) |grind) |with_reducible intro _)) <;>(first|done|assumption|rfl|omega|decide|exact fk [0,1,2,3,4] |(simp_all [b8,cq];done))) |(simp_all [okI,b8,cq];done) |(simp_all [b8,cq];(first|done|exact fk2 [0,1,2,3,4])) |exact fk2 [0,1,2,3,4]))):p:=h
theorem Ek {p:Prop}(h:p:=by(first|done|(repeat' (first|with_reducible refine And.intro ?_ ?_|((with_reducible show _≠_);first|assumption|omega|(simp_all [b8,cq];done) |grind) |with_reducible intro _)) <;>(first|done|with_reducible exact Empty.elim ‹Empty› |with_reducible assumption|rfl|omega|assumption|decide|exact fk [0,1,2,3,4,0] |exact fk [0,1,2,3,4,5] |exact czl|(simp only[*,cond_true,cond_false,Bool.not_true,Bool.not_false,go_sem,Nat.reduceBEq,Nat.reduceLeDiff,Nat.reduceLT,decide_true,Nat.reduceAdd,Nat.reduceSub,Nat.reduceMul,Int.reduceLE,Int.reduceLT,Int.reduceToNat,Int.reduceNeg,reduceCtorEq];(repeat' (first|with_reducible refine And.intro ?_ ?_|((with_reducible show _≠_);first|assumption|omega|(simp_all [b8,cq];done) |grind) |with_reducible intro _)) <;>(first|done|assumption|rfl|omega|decide|exact fk [0,1,2,3,4,0] |exact fk [0,1,2,3,4,5] |(simp_all [b8,cq];done))) |(simp_all [okI,b8,cq];done) |(simp_all [b8,cq];(first|done|exact fk2 [0,1,2,3,4,0] |exact fk2 [0,1,2,3,4,5])) |exact fk2 [0,1,2,3,4,0] |exact fk2 [0,1,2,3,4,5]))):p:=h
theorem El {p:Prop}(h:p:=by simp only[go_sem,Nat.reduceBEq,Nat.reduceLeDiff,Nat.reduceLT,decide_true,Nat.reduceAdd,Nat.reduceSub,Nat.reduceMul,Int.reduceLE,Int.reduceLT,Int.reduceToNat,Int.reduceNeg,reduceCtorEq];all_goals exact Ej):p:=h
def aM (x:Deed)(known:Int)(hour:Int)(void_:List (Int×Bool)):Bool:=((((x.kind==4) ||(decide (x.known > known))) ||(decide (x.at_ > hour))) ||(cn .int .bool void_ x.no))
@[go_sem] def fN:List SV→Option Con:=(pD .deed fun x=>(pX .int fun known=>(pX .int fun hour=>(pXM .int .bool fun void_=>(pE (.det True (.v (.bool (aM x known hour void_)))))))))
theorem iF:FnOk Tryz.prog 76 fN:=by
 have hG:ConsOk Tryz.prog (mkG [] []):=a_ cg0 cg0
 refine cr [.o] mixed aH hG (fn:=Tryz.f76) (c:=ae Tryz.f76) (by kernel_rfl) (by kernel_rfl) (by kernel_rfl) (by kernel_rfl) (cF fun x=>(wq fun known=>(wq fun hour=>(A4 fun void_=>(bH (fun hp=>?_))))))
 dsimp only[bp]at hp
 refine⟨Nat.le_of_ble_eq_true rfl,L0,an _,?_⟩
 ·unfold ae Tryz.f76
  try unfold aM
  simp only[go_sem,Nat.reduceBEq,Nat.reduceLeDiff,Nat.reduceLT,decide_true,Nat.reduceAdd,Nat.reduceSub,Nat.reduceMul,Int.reduceLE,Int.reduceLT,Int.reduceToNat,Int.reduceNeg,reduceCtorEq]
  all_goals exact cl
def cw (a:Deed)(b:Deed):Int:=(cX a.at_ b.at_)
@[go_sem] def fO:List SV→Option Con:=(pD .deed fun a=>(pD .deed fun b=>(pE (.det True (.v (.int .i64 (cw a b)))))))
theorem iG:FnOk Tryz.prog 78 fO:=by
 have hG:ConsOk Tryz.prog (mkG [(38,eI)] []):=a_ (cgc fz cg0) cg0
 refine cr [.o] mixed aH hG (fn:=Tryz.f78) (c:=ae Tryz.f78) (by kernel_rfl) (by kernel_rfl) (by kernel_rfl) (by kernel_rfl) (cF fun a=>(cF fun b=>(bH (fun hp=>?_))))
 dsimp only[bp]at hp
 refine⟨Nat.le_of_ble_eq_true rfl,L0,an _,?_⟩
 ·unfold ae Tryz.f78
  try unfold cw
  simp only[go_sem,Nat.reduceBEq,Nat.reduceLeDiff,Nat.reduceLT,decide_true,Nat.reduceAdd,Nat.reduceSub,Nat.reduceMul,Int.reduceLE,Int.reduceLT,Int.reduceToNat,Int.reduceNeg,reduceCtorEq]
  all_goals exact cl
@[go_sem] def cP (s_:List Deed)(known:Int)(hour:Int)(void_:List (Int×Bool))(k_0:Nat)(s_0:Unit):Int⊕Unit:=(bif(aM (s_.getD k_0 (default:Deed)) known hour void_)then .inl (k_0:Int)else .inr ())
def ah (s_:List Deed)(known:Int)(hour:Int)(void_:List (Int×Bool)):Int:=(match ay (cP s_ known hour void_) s_.length 0 ()with| .inl x_0_0=>x_0_0| .inr s_0=>(-1))
@[go_sem] def dT:List SV→Option Con:=(pR .deed fun s_=>(pFn 76 (pX .int fun known=>(pX .int fun hour=>(pXM .int .bool fun void_=>(pE ((pE (.det True (.v (.int .i64 (ah s_ known hour void_))))))))))))
theorem fR:FnOk Tryz.prog 65 dT:=by
 have hG:ConsOk Tryz.prog (mkG [(76,fun l=>fN (dN [.st .deed,.o,.o,.o] l))] []):=a_ (cgc (iF.norm [.st .deed,.o,.o,.o]) cg0) cg0
 refine cr [.o] mixed aH hG (fn:=Tryz.f65) (c:=ae Tryz.f65) (by kernel_rfl) (by kernel_rfl) (by kernel_rfl) (by kernel_rfl) (fX fun s_=>(pC (wq fun known=>(wq fun hour=>(A4 fun void_=>(bH ((bH (fun hp=>?_)))))))))
 dsimp only[bp]at hp
 refine⟨Nat.le_of_ble_eq_true rfl,(fun id st=>bif Nat.beq id 0 then some (LCR (ρ:=Int) (σ:=Unit) 0 [] [] (fun k_0 s_0=>⟨[(0,.rs .deed s_),(1,.fn 76 [] [.ep [.v (.int .i64 known)] 0,.ep [.v (.int .i64 hour)] 0,.ep [.rm .int .bool void_] 0]),(7,.v (.int .i64 (s_.length:Int))),(8,.v (.int .i64 (k_0:Int)))],[]⟩) (cP s_ known hour void_) pT s_.length () (s_.length≤cp) (fun _=>.ret) (fun x_0_0=>⟨[(4,.v (.int .i64 x_0_0))],[]⟩) st)else none),?_,?_⟩
 ·unfold ae Tryz.f65
  simp only[aw,true_and,and_true]
  ·refine dQ mixed aH hG (by kernel_rfl) (fun _=>rfl) (s_.length:Int) rfl lL (fun hb0 k_0 s_0 hlt0 _ hw hc=>⟨L0,an _,?_⟩) (fun hb0 s_0 hc=>?_)
   ·exact nO
   ·exact nP
 ·unfold ae Tryz.f65
  try unfold ah
  simp only[go_sem,Nat.reduceBEq,Nat.reduceLeDiff,Nat.reduceLT,decide_true,Nat.reduceAdd,Nat.reduceSub,Nat.reduceMul,Int.reduceLE,Int.reduceLT,Int.reduceToNat,Int.reduceNeg,reduceCtorEq]
  all_goals exact cl
@[go_sem] noncomputable def c9:List SV→Option Con:=fun l=>(orC (dc l) (dT l))
theorem f_:FnOk Tryz.prog 65 c9:=(FnOk.or dZ fR)
@[go_sem] def aI (l_:List Deed)(known:Int)(hour:Int)(void_:List (Int×Bool))(k_0:Nat)(s_0:List Deed×Int×Int):(Int×List Deed)⊕(List Deed×Int×Int):=(bif(decide (s_0.2.2< (s_0.1.length:Int)))then(bif(!(aM (s_0.1.getD (Int.toNat s_0.2.2) (default:Deed)) known hour void_))then .inr ((s_0.1.set (Int.toNat s_0.2.1) (s_0.1.getD (Int.toNat s_0.2.2) (default:Deed))),(IntKind.i64.wrap (s_0.2.1+1)),(IntKind.i64.wrap (s_0.2.2+1)))else .inr (s_0.1,s_0.2.1,(IntKind.i64.wrap (s_0.2.2+1))))else .inl (s_0.2.1,s_0.1))
def bv (l_:List Deed)(known:Int)(hour:Int)(void_:List (Int×Bool))(k_0:Nat)(s_0:List Deed×Int×Int):Prop:=(s_0.1.length≤cp→((decide (s_0.2.2< (s_0.1.length:Int)))=true→((0≤s_0.2.2∧s_0.2.2< (s_0.1.length:Int))∧((!(aM (s_0.1.getD (Int.toNat s_0.2.2) (default:Deed)) known hour void_))=true→(0≤s_0.2.1∧s_0.2.1< (s_0.1.length:Int))))))
def aP (l_:List Deed)(known:Int)(hour:Int)(void_:List (Int×Bool)):List Deed:=(bif((ah l_ known hour void_) ==(-1))then l_ else(match ay (aI l_ known hour void_) (l_.length+1) 0 (l_,(ah l_ known hour void_),(IntKind.i64.wrap ((ah l_ known hour void_)+1)))with| .inl x_0_0=>(((su .deed x_0_0.2 x_0_0.1 (x_0_0.2.length:Int)).take (Int.toNat x_0_0.1)).drop 0) | .inr s_0=>default))
def aS (l_:List Deed)(known:Int)(hour:Int)(void_:List (Int×Bool)):Prop:=(((ah l_ known hour void_) ==(-1))=false→(okI (aI l_ known hour void_) (bv l_ known hour void_) (l_.length+1) 0 (l_,(ah l_ known hour void_),(IntKind.i64.wrap ((ah l_ known hour void_)+1)))∧(∀ z_,ay (aI l_ known hour void_) (l_.length+1) 0 (l_,(ah l_ known hour void_),(IntKind.i64.wrap ((ah l_ known hour void_)+1)))≠ .inr z_)∧(∀ x_0_0,ay (aI l_ known hour void_) (l_.length+1) 0 (l_,(ah l_ known hour void_),(IntKind.i64.wrap ((ah l_ known hour void_)+1)))=.inl x_0_0→((0≤x_0_0.1∧x_0_0.1≤(x_0_0.2.length:Int))∧(0≤0∧0≤x_0_0.1∧x_0_0.1≤((su .deed x_0_0.2 x_0_0.1 (x_0_0.2.length:Int)).length:Int))))))
noncomputable def c_:List SV→List Ob→Option HCon:=fC (fun x_:(List Deed)×Int×Int×(List (Int×Bool)) =>[.os 0,.fn 76 [] [.ptr 1 0,.ptr 2 0,.ptr 3 0]]) (fun x_=>[.row .deed x_.1,.cells [.v (.int .i64 x_.2.1)],.cells [.v (.int .i64 x_.2.2.1)],.cells [.os 4],.mp .int .bool x_.2.2.2 none]) (fun x_=>d7 (aS x_.1 x_.2.1 x_.2.2.1 x_.2.2.2) (.os 5) [.dead,.cells [.v (.int .i64 x_.2.1)],.cells [.v (.int .i64 x_.2.2.1)],.cells [.os 4],.mp .int .bool x_.2.2.2 none,.row .deed (aP x_.1 x_.2.1 x_.2.2.1 x_.2.2.2)])
@[go_sem] theorem mL (l_:List Deed)(known:Int)(hour:Int)(void_:List (Int×Bool)){p4_:Option (Nat×Option Tag.int.T)}(hp4_:p4_=none):c_ ([.os 0,.fn (76:Nat) [] [.ptr 1 0,.ptr 2 0,.ptr 3 0]]) ([.row .deed l_,.cells [.v (.int .i64 known)],.cells [.v (.int .i64 hour)],.cells [.os 4],.mp .int .bool void_ p4_])=some (d7 (aS l_ known hour void_) (.os 5) [.dead,.cells [.v (.int .i64 known)],.cells [.v (.int .i64 hour)],.cells [.os 4],.mp .int .bool void_ none,.row .deed (aP l_ known hour void_)]):=by
 subst hp4_;exact d4 (A:=fun x_:(List Deed)×Int×Int×(List (Int×Bool)) =>[.os 0,.fn 76 [] [.ptr 1 0,.ptr 2 0,.ptr 3 0]]) (H:=fun x_=>[.row .deed x_.1,.cells [.v (.int .i64 x_.2.1)],.cells [.v (.int .i64 x_.2.2.1)],.cells [.os 4],.mp .int .bool x_.2.2.2 none]) (K:=fun x_=>d7 (aS x_.1 x_.2.1 x_.2.2.1 x_.2.2.2) (.os 5) [.dead,.cells [.v (.int .i64 x_.2.1)],.cells [.v (.int .i64 x_.2.2.1)],.cells [.os 4],.mp .int .bool x_.2.2.2 none,.row .deed (aP x_.1 x_.2.1 x_.2.2.1 x_.2.2.2)]) (x:=(l_,known,hour,void_))
theorem ga:FnOkO Tryz.prog 75 (c_):=by
 have hG:ConsOk Tryz.prog (mkG [(65,fun l=>c9 (dN [.sl .deed,.o] l)),(76,fun l=>fN (dN [.st .deed,.o,.o,.o] l))] []):=a_ (cgc (f_.norm [.sl .deed,.o]) (cgc (iF.norm [.st .deed,.o,.o,.o]) cg0)) cg0
 refine eX mixed aH hG (fn:=Tryz.f75) (c:=ae Tryz.f75) (by kernel_rfl) (by kernel_rfl) (by kernel_rfl) (by kernel_rfl) fun l o con h=>?_
 obtain⟨⟨l_,known,hour,void_⟩,rfl,rfl,rfl⟩:=df h
 clear h
 try dsimp only
 refine⟨_,_,_,rfl,fun hp=>?_⟩
 unfold aS at hp
 refine⟨Nat.le_of_ble_eq_true rfl,(fun id st=>bif Nat.beq id 0 then some (LCV (ρ:=(Int×List Deed)) (σ:=(List Deed×Int×Int)) 5 [] [0,1,2,3,4] (fun k_0 s_0=>⟨[(0,.os 0),(1,.fn 76 [] [.ptr 1 0,.ptr 2 0,.ptr 3 0]),(5,.v (.int .i64 s_0.2.1)),(6,.v (.int .i64 s_0.2.2))],[.row .deed s_0.1,.cells [.v (.int .i64 known)],.cells [.v (.int .i64 hour)],.cells [.os 4],.mp .int .bool void_ none]⟩) (aI l_ known hour void_) (bv l_ known hour void_) (l_.length+1) (l_,(ah l_ known hour void_),(IntKind.i64.wrap ((ah l_ known hour void_)+1))) (fun _=>.normal) (fun x_0_0=>⟨[(0,.os 0),(5,.v (.int .i64 x_0_0.1))],[.row .deed x_0_0.2,.cells [.v (.int .i64 known)],.cells [.v (.int .i64 hour)],.cells [.os 4],.mp .int .bool void_ none]⟩) st)else none),?_,?_⟩
 ·unfold ae Tryz.f75
  simp only[aw,true_and,and_true,and_assoc]
  ·refine eY mixed aH hG (by kernel_rfl) (fun _=>rfl) fun k_0 s_0 hq0=>⟨L0,an _,?_⟩
   ·unfold bv at hq0
    exact El
 ·unfold ae Tryz.f75
  try unfold aP
  simp only[go_sem,Nat.reduceBEq,Nat.reduceLeDiff,Nat.reduceLT,decide_true,Nat.reduceAdd,Nat.reduceSub,Nat.reduceMul,Int.reduceLE,Int.reduceLT,Int.reduceToNat,Int.reduceNeg,reduceCtorEq,c9]
  all_goals exact Ek
end Go.Sx
end
section
namespace Go.Sx
open Go.Proofs
set_option maxRecDepth 100000
set_option linter.unusedSimpArgs false
theorem gb {p:Prop}(h:p:=by simp only[go_sem,Nat.reduceBEq,Nat.reduceLeDiff,Nat.reduceLT,decide_true,Nat.reduceAdd,Nat.reduceSub,Nat.reduceMul,Int.reduceLE,Int.reduceLT,Int.reduceToNat,Int.reduceNeg,reduceCtorEq];all_goals exact fH):p:=h
@[go_sem] def aF (a:Int)(l_:List Deed)(k_1:Nat)(s_1:List Deed×Int):(List Deed)⊕(List Deed×Int):=(bif((decide (s_1.2 > a))&&(decide ((cw (s_1.1.getD (Int.toNat s_1.2) (default:Deed)) (s_1.1.getD (Int.toNat (IntKind.i64.wrap (s_1.2 - 1))) (default:Deed))) <0)))then .inr (((s_1.1.set (Int.toNat s_1.2) (s_1.1.getD (Int.toNat (IntKind.i64.wrap (s_1.2 - 1))) (default:Deed))).set (Int.toNat (IntKind.i64.wrap (s_1.2 - 1))) (s_1.1.getD (Int.toNat s_1.2) (default:Deed))),(IntKind.i64.wrap (s_1.2 - 1)))else .inl s_1.1)
def aW (a:Int)(l_:List Deed)(k_1:Nat)(s_1:List Deed×Int):Prop:=(((decide (s_1.2 > a))=true→(0≤s_1.2∧s_1.2< (s_1.1.length:Int)))∧(((decide (s_1.2 > a))=true→(0≤(IntKind.i64.wrap (s_1.2 - 1))∧(IntKind.i64.wrap (s_1.2 - 1)) < (s_1.1.length:Int)))∧(((decide (s_1.2 > a))&&(decide ((cw (s_1.1.getD (Int.toNat s_1.2) (default:Deed)) (s_1.1.getD (Int.toNat (IntKind.i64.wrap (s_1.2 - 1))) (default:Deed))) <0)))=true→((0≤(IntKind.i64.wrap (s_1.2 - 1))∧(IntKind.i64.wrap (s_1.2 - 1)) < (s_1.1.length:Int))∧((0≤s_1.2∧s_1.2< (s_1.1.length:Int))∧((0≤s_1.2∧s_1.2< (s_1.1.length:Int))∧(0≤(IntKind.i64.wrap (s_1.2 - 1))∧(IntKind.i64.wrap (s_1.2 - 1)) < ((s_1.1.set (Int.toNat s_1.2) (s_1.1.getD (Int.toNat (IntKind.i64.wrap (s_1.2 - 1))) (default:Deed))).length:Int))))))))
@[go_sem] def aA (a:Int)(b:Int)(l_:List Deed)(k_0:Nat)(s_0:List Deed×Int):(List Deed)⊕(List Deed×Int):=(bif(decide (s_0.2<b))then(match ay (aF a l_) (l_.length+1) 0 (s_0.1,s_0.2)with| .inl x_1_0=>.inr (x_1_0,(IntKind.i64.wrap (s_0.2+1))) | .inr s_1=>.inr default)else .inl s_0.1)
def aL (a:Int)(b:Int)(l_:List Deed)(k_0:Nat)(s_0:List Deed×Int):Prop:=((decide (s_0.2<b))=true→(okI (aF a l_) (aW a l_) (l_.length+1) 0 (s_0.1,s_0.2)∧(∀ z_,ay (aF a l_) (l_.length+1) 0 (s_0.1,s_0.2)≠ .inr z_)))
def aq (a:Int)(b:Int)(l_:List Deed):List Deed:=(match ay (aA a b l_) (l_.length+1) 0 (l_,(IntKind.i64.wrap (a+1)))with| .inl x_0_0=>x_0_0| .inr s_0=>default)
def aJ (a:Int)(b:Int)(l_:List Deed):Prop:=(okI (aA a b l_) (aL a b l_) (l_.length+1) 0 (l_,(IntKind.i64.wrap (a+1)))∧(∀ z_,ay (aA a b l_) (l_.length+1) 0 (l_,(IntKind.i64.wrap (a+1)))≠ .inr z_))
noncomputable def cT:List SV→List Ob→Option HCon:=fC (fun x_:Int×Int×(List Deed) =>[.os 0,.v (.int .i64 x_.1),.v (.int .i64 x_.2.1),.fn 78 [] []]) (fun x_=>[.row .deed x_.2.2]) (fun x_=>d7 (aJ x_.1 x_.2.1 x_.2.2) (.tup []) [.row .deed (aq x_.1 x_.2.1 x_.2.2)])
@[go_sem] theorem mJ (a:Int)(b:Int)(l_:List Deed):cT ([.os 0,.v (.int .i64 a),.v (.int .i64 b),.fn 78 [] []]) ([.row .deed l_])=some (d7 (aJ a b l_) (.tup []) [.row .deed (aq a b l_)]):=d4 (A:=fun x_:Int×Int×(List Deed) =>[.os 0,.v (.int .i64 x_.1),.v (.int .i64 x_.2.1),.fn 78 [] []]) (H:=fun x_=>[.row .deed x_.2.2]) (K:=fun x_=>d7 (aJ x_.1 x_.2.1 x_.2.2) (.tup []) [.row .deed (aq x_.1 x_.2.1 x_.2.2)]) (x:=(a,b,l_))
theorem fS:FnOkO Tryz.prog 134 (cT):=by
 have hG:ConsOk Tryz.prog (mkG [(78,fun l=>fO (dN [.st .deed,.st .deed] l))] []):=a_ (cgc (iG.norm [.st .deed,.st .deed]) cg0) cg0
 refine eX mixed aH hG (fn:=Tryz.f134) (c:=ae Tryz.f134) (by kernel_rfl) (by kernel_rfl) (by kernel_rfl) (by kernel_rfl) fun l o con h=>?_
 obtain⟨⟨a,b,l_⟩,rfl,rfl,rfl⟩:=df h
 clear h
 try dsimp only
 refine⟨_,_,_,rfl,fun hp=>?_⟩
 unfold aJ at hp
 refine⟨Nat.le_of_ble_eq_true rfl,(fun id st=>bif Nat.beq id 0 then some (LCV (ρ:=(List Deed)) (σ:=(List Deed×Int)) 1 [] [0] (fun k_0 s_0=>⟨[(0,.os 0),(1,.v (.int .i64 a)),(2,.v (.int .i64 b)),(3,.fn 78 [] []),(8,.v (.int .i64 s_0.2))],[.row .deed s_0.1]⟩) (aA a b l_) (aL a b l_) (l_.length+1) (l_,(IntKind.i64.wrap (a+1))) (fun _=>.normal) (fun x_0_0=>⟨[],[.row .deed x_0_0]⟩) st)else none),?_,?_⟩
 ·unfold ae Tryz.f134
  simp only[aw,true_and,and_true,and_assoc]
  ·refine eY mixed aH hG (by kernel_rfl) (fun _=>rfl) fun k_0 s_0 hq0=>⟨(fun id st=>bif Nat.beq id 2 then some (LCV (ρ:=(List Deed)) (σ:=(List Deed×Int)) 1 [] [0] (fun k_1 s_1=>⟨[(0,.os 0),(1,.v (.int .i64 a)),(2,.v (.int .i64 b)),(3,.fn 78 [] []),(8,.v (.int .i64 s_0.2)),(9,.v (.int .i64 s_1.2))],[.row .deed s_1.1]⟩) (aF a l_) (aW a l_) (l_.length+1) (s_0.1,s_0.2) (fun _=>.normal) (fun x_1_0=>⟨[(0,.os 0),(1,.v (.int .i64 a)),(2,.v (.int .i64 b)),(3,.fn 78 [] []),(8,.v (.int .i64 s_0.2))],[.row .deed x_1_0]⟩) st)else none),?_,?_⟩
   ·simp only[aw,true_and,and_true]
    ·refine eY mixed aH hG (by kernel_rfl) (fun _=>rfl) fun k_1 s_1 hq1=>⟨L0,an _,?_⟩
     ·unfold aW at hq1
      exact gb
   ·unfold aL at hq0
    exact gb
 ·unfold ae Tryz.f134
  try unfold aq
  simp only[go_sem,Nat.reduceBEq,Nat.reduceLeDiff,Nat.reduceLT,decide_true,Nat.reduceAdd,Nat.reduceSub,Nat.reduceMul,Int.reduceLE,Int.reduceLT,Int.reduceToNat,Int.reduceNeg,reduceCtorEq]
  all_goals exact fH
@[go_sem] def br (a:Int)(b:Int)(n:Int)(k_0:Nat)(s_0:List Deed):Empty⊕(List Deed):=.inr ((s_0.set (Int.toNat (IntKind.i64.wrap (a+(k_0:Int)))) (s_0.getD (Int.toNat (IntKind.i64.wrap (b+(k_0:Int)))) (default:Deed))).set (Int.toNat (IntKind.i64.wrap (b+(k_0:Int)))) (s_0.getD (Int.toNat (IntKind.i64.wrap (a+(k_0:Int)))) (default:Deed)))
def bP (a:Int)(b:Int)(n:Int)(k_0:Nat)(s_0:List Deed):Prop:=((0≤(IntKind.i64.wrap (b+(k_0:Int)))∧(IntKind.i64.wrap (b+(k_0:Int))) < (s_0.length:Int))∧((0≤(IntKind.i64.wrap (a+(k_0:Int)))∧(IntKind.i64.wrap (a+(k_0:Int))) < (s_0.length:Int))∧((0≤(IntKind.i64.wrap (a+(k_0:Int)))∧(IntKind.i64.wrap (a+(k_0:Int))) < (s_0.length:Int))∧(0≤(IntKind.i64.wrap (b+(k_0:Int)))∧(IntKind.i64.wrap (b+(k_0:Int))) < ((s_0.set (Int.toNat (IntKind.i64.wrap (a+(k_0:Int)))) (s_0.getD (Int.toNat (IntKind.i64.wrap (b+(k_0:Int)))) (default:Deed))).length:Int)))))
def aO (a:Int)(b:Int)(n:Int)(l_:List Deed):List Deed:=(match ay (br a b n) (Int.toNat n) 0 l_ with| .inl x=>x.elim| .inr s_0=>s_0)
def aK (a:Int)(b:Int)(n:Int)(l_:List Deed):Prop:=((n<9223372036854775808)∧okI (br a b n) (bP a b n) (Int.toNat n) 0 l_)
noncomputable def dw:List SV→List Ob→Option HCon:=fC (fun x_:Int×Int×Int×(List Deed) =>[.os 0,.v (.int .i64 x_.1),.v (.int .i64 x_.2.1),.v (.int .i64 x_.2.2.1),.fn 78 [] []]) (fun x_=>[.row .deed x_.2.2.2]) (fun x_=>d7 (aK x_.1 x_.2.1 x_.2.2.1 x_.2.2.2) (.tup []) [.row .deed (aO x_.1 x_.2.1 x_.2.2.1 x_.2.2.2)])
@[go_sem] theorem nR (a:Int)(b:Int)(n:Int)(l_:List Deed):dw ([.os 0,.v (.int .i64 a),.v (.int .i64 b),.v (.int .i64 n),.fn 78 [] []]) ([.row .deed l_])=some (d7 (aK a b n l_) (.tup []) [.row .deed (aO a b n l_)]):=d4 (A:=fun x_:Int×Int×Int×(List Deed) =>[.os 0,.v (.int .i64 x_.1),.v (.int .i64 x_.2.1),.v (.int .i64 x_.2.2.1),.fn 78 [] []]) (H:=fun x_=>[.row .deed x_.2.2.2]) (K:=fun x_=>d7 (aK x_.1 x_.2.1 x_.2.2.1 x_.2.2.2) (.tup []) [.row .deed (aO x_.1 x_.2.1 x_.2.2.1 x_.2.2.2)]) (x:=(a,b,n,l_))
theorem gT:FnOkO Tryz.prog 153 (dw):=by
 have hG:ConsOk Tryz.prog (mkG [] []):=a_ cg0 cg0
 refine eX mixed aH hG (fn:=Tryz.f153) (c:=ae Tryz.f153) (by kernel_rfl) (by kernel_rfl) (by kernel_rfl) (by kernel_rfl) fun l o con h=>?_
 obtain⟨⟨a,b,n,l_⟩,rfl,rfl,rfl⟩:=df h
 clear h
 try dsimp only
 refine⟨_,_,_,rfl,fun hp=>?_⟩
 unfold aK at hp
 refine⟨Nat.le_of_ble_eq_true rfl,(fun id st=>bif Nat.beq id 0 then some (LCR (ρ:=Empty) (σ:=(List Deed)) 1 [] [0] (fun k_0 s_0=>⟨[(0,.os 0),(1,.v (.int .i64 a)),(2,.v (.int .i64 b)),(3,.v (.int .i64 n)),(10,.v (.int .i64 (k_0:Int)))],[.row .deed s_0]⟩) (br a b n) (bP a b n) (Int.toNat n) l_ (n<9223372036854775808) ((·.elim)) ((·.elim)) st)else none),?_,?_⟩
 ·unfold ae Tryz.f153
  simp only[aw,true_and,and_true,and_assoc]
  ·refine dQ mixed aH hG (by kernel_rfl) (fun _=>rfl) n rfl id (fun hb0 k_0 s_0 hlt0 hq0 hw hc=>⟨L0,an _,?_⟩) (fun hb0 s_0 hc=>?_)
   ·unfold bP at hq0
    try simp only[hw,Int.toNat_natCast]at hq0
    exact ky
   ·exact kz
 ·unfold ae Tryz.f153
  try unfold aO
  simp only[go_sem,Nat.reduceBEq,Nat.reduceLeDiff,Nat.reduceLT,decide_true,Nat.reduceAdd,Nat.reduceSub,Nat.reduceMul,Int.reduceLE,Int.reduceLT,Int.reduceToNat,Int.reduceNeg,reduceCtorEq]
  all_goals exact fH
@[go_sem] def aZ (a:Int)(m:Int)(b:Int)(k_0:Nat)(s_0:List Deed×Int×Int):(Int×List Deed)⊕(List Deed×Int×Int):=(bif(s_0.2.1 !=s_0.2.2)then(bif(decide (s_0.2.1 > s_0.2.2))then .inr ((aO (IntKind.i64.wrap (m - s_0.2.1)) m s_0.2.2 s_0.1),(IntKind.i64.wrap (s_0.2.1 - s_0.2.2)),s_0.2.2)else .inr ((aO (IntKind.i64.wrap (m - s_0.2.1)) (IntKind.i64.wrap ((IntKind.i64.wrap (m+s_0.2.2)) - s_0.2.1)) s_0.2.1 s_0.1),s_0.2.1,(IntKind.i64.wrap (s_0.2.2 - s_0.2.1))))else .inl (s_0.2.1,s_0.1))
def bZ (a:Int)(m:Int)(b:Int)(k_0:Nat)(s_0:List Deed×Int×Int):Prop:=((s_0.2.1 !=s_0.2.2)=true→(((decide (s_0.2.1 > s_0.2.2))=true→(aK (IntKind.i64.wrap (m - s_0.2.1)) m s_0.2.2 s_0.1))∧((decide (s_0.2.1 > s_0.2.2))=false→(aK (IntKind.i64.wrap (m - s_0.2.1)) (IntKind.i64.wrap ((IntKind.i64.wrap (m+s_0.2.2)) - s_0.2.1)) s_0.2.1 s_0.1))))
def al (a:Int)(m:Int)(b:Int)(l_:List Deed):List Deed:=(match ay (aZ a m b) (Int.toNat (b - a)+1) 0 (l_,(IntKind.i64.wrap (m - a)),(IntKind.i64.wrap (b - m)))with| .inl x_0_0=>(aO (IntKind.i64.wrap (m - x_0_0.1)) m x_0_0.1 x_0_0.2) | .inr s_0=>default)
def be (a:Int)(m:Int)(b:Int)(l_:List Deed):Prop:=(okI (aZ a m b) (bZ a m b) (Int.toNat (b - a)+1) 0 (l_,(IntKind.i64.wrap (m - a)),(IntKind.i64.wrap (b - m)))∧(∀ z_,ay (aZ a m b) (Int.toNat (b - a)+1) 0 (l_,(IntKind.i64.wrap (m - a)),(IntKind.i64.wrap (b - m)))≠ .inr z_)∧(∀ x_0_0,ay (aZ a m b) (Int.toNat (b - a)+1) 0 (l_,(IntKind.i64.wrap (m - a)),(IntKind.i64.wrap (b - m)))=.inl x_0_0→(aK (IntKind.i64.wrap (m - x_0_0.1)) m x_0_0.1 x_0_0.2)))
noncomputable def dJ:List SV→List Ob→Option HCon:=fC (fun x_:Int×Int×Int×(List Deed) =>[.os 0,.v (.int .i64 x_.1),.v (.int .i64 x_.2.1),.v (.int .i64 x_.2.2.1),.fn 78 [] []]) (fun x_=>[.row .deed x_.2.2.2]) (fun x_=>d7 (be x_.1 x_.2.1 x_.2.2.1 x_.2.2.2) (.tup []) [.row .deed (al x_.1 x_.2.1 x_.2.2.1 x_.2.2.2)])
@[go_sem] theorem oR (a:Int)(m:Int)(b:Int)(l_:List Deed):dJ ([.os 0,.v (.int .i64 a),.v (.int .i64 m),.v (.int .i64 b),.fn 78 [] []]) ([.row .deed l_])=some (d7 (be a m b l_) (.tup []) [.row .deed (al a m b l_)]):=d4 (A:=fun x_:Int×Int×Int×(List Deed) =>[.os 0,.v (.int .i64 x_.1),.v (.int .i64 x_.2.1),.v (.int .i64 x_.2.2.1),.fn 78 [] []]) (H:=fun x_=>[.row .deed x_.2.2.2]) (K:=fun x_=>d7 (be x_.1 x_.2.1 x_.2.2.1 x_.2.2.2) (.tup []) [.row .deed (al x_.1 x_.2.1 x_.2.2.1 x_.2.2.2)]) (x:=(a,m,b,l_))
theorem iH:FnOkO Tryz.prog 148 (dJ):=by
 have hG:ConsOk Tryz.prog (mkG [] [(153,dw)]):=a_ cg0 (cgc gT cg0)
 refine eX mixed aH hG (fn:=Tryz.f148) (c:=ae Tryz.f148) (by kernel_rfl) (by kernel_rfl) (by kernel_rfl) (by kernel_rfl) fun l o con h=>?_
 obtain⟨⟨a,m,b,l_⟩,rfl,rfl,rfl⟩:=df h
 clear h
 try dsimp only
 refine⟨_,_,_,rfl,fun hp=>?_⟩
 unfold be at hp
 refine⟨Nat.le_of_ble_eq_true rfl,(fun id st=>bif Nat.beq id 0 then some (LCV (ρ:=(Int×List Deed)) (σ:=(List Deed×Int×Int)) 1 [] [0] (fun k_0 s_0=>⟨[(0,.os 0),(2,.v (.int .i64 m)),(4,.fn 78 [] []),(10,.v (.int .i64 s_0.2.1)),(11,.v (.int .i64 s_0.2.2))],[.row .deed s_0.1]⟩) (aZ a m b) (bZ a m b) (Int.toNat (b - a)+1) (l_,(IntKind.i64.wrap (m - a)),(IntKind.i64.wrap (b - m))) (fun _=>.normal) (fun x_0_0=>⟨[(0,.os 0),(2,.v (.int .i64 m)),(4,.fn 78 [] []),(10,.v (.int .i64 x_0_0.1))],[.row .deed x_0_0.2]⟩) st)else none),?_,?_⟩
 ·unfold ae Tryz.f148
  simp only[aw,true_and,and_true,and_assoc]
  ·refine eY mixed aH hG (by kernel_rfl) (fun _=>rfl) fun k_0 s_0 hq0=>⟨L0,an _,?_⟩
   ·unfold bZ at hq0
    exact gb
 ·unfold ae Tryz.f148
  try unfold al
  simp only[go_sem,Nat.reduceBEq,Nat.reduceLeDiff,Nat.reduceLT,decide_true,Nat.reduceAdd,Nat.reduceSub,Nat.reduceMul,Int.reduceLE,Int.reduceLT,Int.reduceToNat,Int.reduceNeg,reduceCtorEq]
  all_goals exact fH
end Go.Sx
end
