/- Part of the proof that the law RegisterVoid returns true and leaves its arguments as they were, for all arguments of bulk at most 1048576 (the Upto form). -/
import Derived.Test.YthcbieoehjhjfaaGreatC107
import Derived.Test.YthcbieoehjhjfaaGreatC106
import Derived.Sort.Statements
import Derived.Shelf.SlSortCmp.Insertion
set_option linter.all false
set_option maxHeartbeats 4000000
section
namespace Go.Sx
open Go.RowKit
abbrev RF:= { r:Nat→Res // ∀ k,(r k).n=k}
def Hj (items:List (List SV))(r:RF):List SV→Res→Option YCon:=itY items r.1
@[go_sem] theorem P0 {items:List (List SV)}{r:RF}{k:Nat}{args:List SV}:Hj items r args (r.1 (k+1))=some (x5 (items[k]? =some args) r.1 (k+2)):=DR r.2 k args
section
variable {ρ σ:Type}
def lcy (pre:Prop)(run:ρ⊕σ)(exE:ρ→Ex)(outE:ρ→St)(outN:σ→St)(stp:St):LCon where
 α:=Option (ρ⊕σ)
 pre:=pre
 post:=fun|none=>True|some r=>r=run
 ex:=fun|none=>.ret|some (.inl x) =>exE x|some (.inr _) =>.normal
 out:=fun|none=>stp|some (.inl x) =>outE x|some (.inr s) =>outN s
def LCY (m:Nat)(ns:List NLoc)(js:List Nat)(D:Nat→σ→St)(step:Nat→σ→ρ⊕σ)(p:Nat→σ→Prop)(n:Nat)(s0:σ)(B:Prop)(exE:ρ→Ex)(outE:ρ→St)(stp:St)(st:St):LCon:=
 lcy (mv m ns js st (D 0 s0)∧B∧okI step p n 0 s0) (ay step n 0 s0) exE outE (D n) stp
variable {m:Nat}{ns:List NLoc}{js:List Nat}{step:Nat→σ→ρ⊕σ}{p:Nat→σ→Prop}{n:Nat}{s0:σ}{B:Prop}{exE:ρ→Ex}{outE:ρ→St}{stp st:St}{Q:Ex→St→Prop}{D:Nat→σ→St}
theorem Cj {pre:Prop}{run:ρ⊕σ}{outN:σ→St}:ky Q (some (lcy pre run exE outE outN stp))=(pre∧(∀ x,run=.inl x→Q (exE x) (outE x))∧(∀ s,run=.inr s→Q .normal (outN s))∧Q .ret stp):=by
 apply propext
 constructor
 ·rintro⟨h1,h2⟩
  exact⟨h1,fun x hx=>h2 (some (.inl x)) hx.symm,fun s hs=>h2 (some (.inr s)) hs.symm,h2 none trivial⟩
 ·rintro⟨h1,h2,h3,h4⟩
  refine⟨h1,fun r hr=>?_⟩
  match r,hr with
  |none,_=>exact h4
  |some (.inl x),hr=>exact h2 x hr.symm
  |some (.inr s),hr=>exact h3 s hr.symm
@[go_sem] theorem Mx:ky Q (some (LCY m ns js D step p n s0 B exE outE stp st))=((mv m ns js st (D 0 s0)∧B∧okI step p n 0 s0)∧(∀ x,ay step n 0 s0=.inl x→Q (exE x) (outE x))∧(∀ s,ay step n 0 s0=.inr s→Q .normal (D n s))∧Q .ret stp):=Cj
def cY (step:Nat→σ→ρ⊕σ)(exE:ρ→Ex)(outE:ρ→St)(D:Nat→σ→St)(stp:St)(m id k:Nat)(s:σ):Ex→St→Prop
 | .normal,st=>lO D m k st (step k s)
 | .exit j,st=>iA exE outE m (bif Nat.beq j id then .normal else .exit j) st (step k s)
 | .ret,st=>iA exE outE m .ret st (step k s)∨eV stp m st
 | .pan x,st=>iA exE outE m (.pan x) st (step k s)
variable {id k j:Nat}{s:σ}{x:Value}{e e':Ex}
@[go_sem] theorem My:cY step exE outE D stp m id k s .normal st=lO D m k st (step k s):=(rfl)
@[go_sem] theorem P1:cY step exE outE D stp m id k s (.exit j) st=iA exE outE m (bif Nat.beq j id then .normal else .exit j) st (step k s):=(rfl)
@[go_sem] theorem QT:cY step exE outE D stp m id k s .ret st=(iA exE outE m .ret st (step k s)∨eV stp m st):=(rfl)
@[go_sem] theorem QU:cY step exE outE D stp m id k s (.pan x) st=iA exE outE m (.pan x) st (step k s):=(rfl)
@[congr] theorem Ol {st':St}(h:st=st')(he:e=e'):cY step exE outE D stp m id k s e st=cY step exE outE D stp m id k s e' st':=by rw[h,he]
end
section
variable {P:Program}{ρ σ:Type}{ts:Tis}{G:Cons}{ro:Option Nat}{N:Nat}{id:Nat}{c:Code}{C:St→Option LCon}{m:Nat}{ns:List NLoc}{js:List Nat}{step:Nat→σ→ρ⊕σ}{p:Nat→σ→Prop}{n:Nat}{s0:σ}{exE:ρ→Ex}{outE:ρ→St}{D:Nat→σ→St}{stp:St}
theorem Ka {n0:Nat}(hn0:n0=m){s:σ}{k:Nat}(hlt:k<n){I:Nat×σ→Prop}{μ:Nat×σ→Nat}{outN:σ→St}{pre:Prop}{run:ρ⊕σ}
  (hI:∀ s',step k s=.inr s'→I (k+1,s')∧μ (k+1,s') <μ (k,s)) (hx:∀ x,step k s=.inl x→run=.inl x):
  ∀ e st',cY step exE outE D stp m id k s e st'→mn (fun x:Nat×σ=>D x.1 x.2) I μ n0 (k,s) id (fun e st'=>∃ r js,(lcy pre run exE outE outN stp).post r∧(lcy pre run exE outE outN stp).ex r=e∧n0≤((lcy pre run exE outE outN stp).out r).h.length∧Sub js n0 st' ((lcy pre run exE outE outN stp).out r)) e st':=by
 subst hn0
 have hfin:∀ e st',iA exE outE n0 e st' (step k s)→∃ r js,(lcy pre run exE outE outN stp).post r∧(lcy pre run exE outE outN stp).ex r=e∧n0≤((lcy pre run exE outE outN stp).out r).h.length∧Sub js n0 st' ((lcy pre run exE outE outN stp).out r):=by
  intro e st' q
  cases hs:step k s with
  |inr s'=>rw[hs]at q;exact q.elim
  |inl x=>
   rw[hs]at q
   obtain⟨q2,js,q3,q4⟩:=q
   exact⟨some (.inl x),js,(hx x hs).symm,q2,q3,q4⟩
 intro e st' hq
 cases e with
 |normal=>
  change lO D n0 k st' (step k s)at hq
  cases hs:step k s with
  |inl x=>rw[hs]at hq;exact hq.elim
  |inr s'=>
   rw[hs]at hq
   obtain⟨js,q3,q4⟩:=hq
   obtain⟨i1,i2⟩:=hI s' hs
   exact⟨(k+1,s'),js,i1,i2,q3,q4⟩
 |exit j=>
  change iA exE outE n0 (bif Nat.beq j id then .normal else .exit j) st' (step k s)at hq
  show bif Nat.beq j id then _ else _
  cases hb:Nat.beq j id with
  |true=>rw[hb]at hq;exact hfin _ _ hq
  |false=>rw[hb]at hq;exact hfin _ _ hq
 |ret=>
  rcases hq with hq|hq
  ·exact hfin _ _ hq
  ·obtain⟨js,q3,q4⟩:=hq
   exact⟨none,js,trivial,rfl,q3,q4⟩
 |pan x=>exact hfin _ _ hq
theorem Ei {B:Prop}(hm:P.follows .mixedOrders=true)(hts:ts.ok P)(hG:ConsOk P G)(hc:cb N c=true)(hC:∀ st,C st=some (LCY m ns js D step p n s0 B exE outE stp st))(M:Int)(hn:n=M.toNat)(hB:B→M<9223372036854775808)
  (h:B→∀ k s,k<n→p k s→IntKind.i64.wrap ((k:Int)+1)=((k+1:Nat):Int)→decide ((k:Int) <M)=true→∃ L,aq P ro N L c∧exec ts G L c (D k s) (cY step exE outE D stp m id k s))
  (h2:B→∀ s,decide ((n:Int) <M)=false→exec ts G L0 c (D n s) (cZ (D n s) m id)):gH P ro N id (.loop c) C:=by
 refine pL hm hts hG hc fun st lc hC' hp=>?_
 rw[hC st]at hC'
 cases hC'
 obtain⟨⟨hlen,hok,hle,hsub⟩,hB',h1⟩:=hp
 refine⟨Nat×σ,fun x=>D x.1 x.2,fun x=>x.1≤n∧okI step p (n - x.1) x.1 x.2∧ay step (n - x.1) x.1 x.2=ay step n 0 s0,fun x=>n - x.1,(0,s0),mkN ns st,js,⟨Nat.zero_le _,by simpa using h1,by simp⟩,oY ns st st (.refl _) hok,by rw[hlen];exact hle,by rw[hlen];exact hsub,?_⟩
 rintro⟨k,s⟩ ⟨hk,hJ,hrun⟩
 simp only at hk hJ hrun
 rcases Nat.lt_or_ge k n with hlt|hge
 ·rw[show n - k=(n - k - 1)+1 by omega]at hrun hJ
  obtain⟨L,hl,hex⟩:=h hB' k s hlt hJ.1 (DV (hn▸hlt) (hB hB')) (decide_eq_true (by omega))
  have hI:∀ s',step k s=.inr s'→okI step p (n - (k+1)) (k+1) s'∧ay step (n - (k+1)) (k+1) s'=ay step n 0 s0:=fun s' hs=>by
   have:=hJ.2 s' hs
   rw[show n - k - 1=n - (k+1) by omega]at this hrun
   simp only[ay,hs]at hrun
   exact⟨this,hrun⟩
  have hx:∀ x,step k s=.inl x→ay step n 0 s0=.inl x:=fun x hs=>by
   simp only[ay,hs]at hrun
   exact hrun.symm
  exact⟨L,_,hl,fun e st' q=>Ka hlen hlt (fun s' hs=>⟨⟨hlt,hI s' hs⟩,by simp only;omega⟩) hx e st' q,hex⟩
 ·have hkn:k=n:=by omega
  subst hkn
  have hex:=h2 hB' s (by rw[decide_eq_false_iff_not];omega)
  refine⟨L0,_,al c,fun e st' hq=>?_,hex⟩
  simp only[Nat.sub_self,ay]at hrun
  cases e with
  |exit j=>
   change bif Nat.beq j id then eV (D k s) m st' else False at hq
   show bif Nat.beq j id then _ else _
   cases hb:Nat.beq j id with
   |true=>
    rw[hb]at hq
    obtain⟨js,q3,q4⟩:=hq
    exact⟨some (.inr s),js,hrun,rfl,by rw[hlen];exact q3,by rw[hlen];exact q4⟩
   |false=>rw[hb]at hq;exact hq.elim
  |_=>exact hq.elim
end
def jG (n:Nat):List Ob:=List.replicate n .dead
def Ej (items:List (List SV))(r:RF)(n:Nat):Ex→St→Prop
 | .normal,st=>eV ⟨[],.ab (r.1 0)::jG n⟩ (n+1) ⟨[],st.h⟩∨eV ⟨[],.ab (r.1 (items.length+1))::jG n⟩ (n+1) ⟨[],st.h⟩
 | .ret,st=>eV ⟨[],.ab (r.1 0)::jG n⟩ (n+1) ⟨[],st.h⟩∨eV ⟨[],.ab (r.1 (items.length+1))::jG n⟩ (n+1) ⟨[],st.h⟩
 |_,_=>False
section
variable {items:List (List SV)}{r:RF}{n:Nat}{st:St}{e e':Ex}
@[go_sem] theorem Hk:Ej items r n .normal st=(eV ⟨[],.ab (r.1 0)::jG n⟩ (n+1) ⟨[],st.h⟩∨eV ⟨[],.ab (r.1 (items.length+1))::jG n⟩ (n+1) ⟨[],st.h⟩):=(rfl)
@[go_sem] theorem Mz:Ej items r n .ret st=(eV ⟨[],.ab (r.1 0)::jG n⟩ (n+1) ⟨[],st.h⟩∨eV ⟨[],.ab (r.1 (items.length+1))::jG n⟩ (n+1) ⟨[],st.h⟩):=(rfl)
@[go_sem] theorem P2:jG 0=[]:=(rfl)
@[go_sem] theorem P3:jG 1=[.dead]:=(rfl)
@[go_sem] theorem P4:jG 2=[.dead,.dead]:=(rfl)
@[go_sem] theorem P5:jG 3=[.dead,.dead,.dead]:=(rfl)
@[go_sem] theorem P6:jG 4=[.dead,.dead,.dead,.dead]:=(rfl)
end
theorem ya {js:List Nat}{n0:Nat}{h h':List Ob}(q:Sub js n0 ⟨[],h⟩ ⟨[],h'⟩):Sub js n0 ⟨[(0,.tup [])],h⟩ ⟨[(0,.tup [])],h'⟩:=by
 refine⟨q.1,?_,q.2.2⟩
 simp only[BD,lk]
 exact⟨⟨rfl,rfl⟩,trivial⟩
open Classical in
theorem Kb {P:Program} {ts:Tis} {G:RF→Cons} (hm:P.follows .mixedOrders=true) (hts:ts.ok P) {f:FuncId} {fn:Func} {c:Code} (hf:P.funcs[f]? =some fn) (hb:fn.body=some c) (hname:(fn.name== "runtime.NumGoroutine")=false) (hc:cb fn.ntmps c=true) (hr:fn.results.toList=[])
  {items:List (List SV)} {mk:SV→List SV} {hs:List Ob} {n:Nat} (hn:hs.length=n)
  (h:∀ r:RF,YOk P (Hj items r)→ConsOk P (G r)∧(mk (.os 0)).length≤fn.ntmps∧∃ L,aq P none fn.ntmps L c∧exec ts (G r) L c ⟨iu 0 (mk (.os 0)),.ab (r.1 1)::hs⟩ (Ej items r n))
  (he:∀ (args:Array Value) (w:World),(callFunc f args).run P w=.ok (.enter f args) w):zL P f mk hs items:=by
 refine Il (fun r0 hr0 hy=>?_) he
 obtain⟨hG,h1,L,h2,h3⟩:=h ⟨r0,hr0⟩ hy
 refine⟨fun l o=>if l=mk (.os 0)∧o=.ab (r0 1)::hs then some { α:=Bool,pre:=True,post:=fun _=>True,res:=fun b=>.ret (.tup []) (.ab (r0 (if b then items.length+1 else 0))::jG n)}else none,?_,_,if_pos ⟨rfl,rfl⟩,trivial,fun b _=>⟨_,_,_,rfl,by cases b <;>simp⟩⟩
 refine tA hm hts hG hf hb hname hc fun l o con hC _=>?_
 split at hC
 rotate_left
 ·cases hC
 rename_i hlo
 obtain⟨rfl,rfl⟩:=hlo
 cases hC
 refine⟨h1,L,_,h2,fun e st hq=>?_,h3⟩
 have key:∀ st:St,(eV ⟨[],.ab (r0 0)::jG n⟩ (n+1) ⟨[],st.h⟩∨eV ⟨[],.ab (r0 (items.length+1))::jG n⟩ (n+1) ⟨[],st.h⟩)→pi (Ob.ab (r0 1)::hs).length { α:=Bool,pre:=True,post:=fun _=>True,res:=fun b=>.ret (.tup []) (.ab (r0 (if b then items.length+1 else 0))::jG n)} (iU (h_ ts st fn.results.toList)) st.h:=fun st q=>by
  rw[hr]
  show ∃ r s' h' js,_
  rcases q with⟨js,q1,q2⟩ | ⟨js,q1,q2⟩
  ·exact⟨false,_,_,js,trivial,rfl,by rw[List.length_cons,hn];exact q1,by rw[List.length_cons,hn];exact ya q2⟩
  ·exact⟨true,_,_,js,trivial,rfl,by rw[List.length_cons,hn];exact q1,by rw[List.length_cons,hn];exact ya q2⟩
 cases e with
 |normal=>exact key st hq
 |ret=>exact key st hq
 |exit j=>exact hq.elim
 |pan x=>exact hq.elim
section
variable {ρ σ τ:Type}
theorem qX {step:τ→σ→ρ⊕σ}:∀ {a b:List τ} {s s':σ},eS step a s=.inr s'→eS step (a++b) s=eS step b s'
 | [],_,_,_,h=>by simp only[eS,Sum.inr.injEq]at h;subst h;rfl
 |x::a,b,s,s',h=>by
  simp only[List.cons_append,eS]at h ⊢
  cases hs:step x s with
  |inl y=>rw[hs]at h;cases h
  |inr s1=>rw[hs]at h;simp only at h ⊢;exact qX h
theorem yb {step:τ→σ→ρ⊕σ}{p:τ→σ→Prop}:∀ {a b:List τ} {s s':σ},eS step a s=.inr s'→okL step p (a++b) s→okL step p b s'
 | [],_,_,_,h,hk=>by simp only[eS,Sum.inr.injEq]at h;subst h;exact hk
 |x::a,b,s,s',h,hk=>by
  simp only[List.cons_append,eS]at h hk
  cases hs:step x s with
  |inl y=>rw[hs]at h;cases h
  |inr s1=>rw[hs]at h;exact yb h (hk.2 s1 hs)
def LCP (m:Nat)(ns:List NLoc)(js:List Nat)(D:List Nat→Option Nat→σ→St)(step:τ→σ→ρ⊕σ)(p:τ→σ→Prop)(l:List τ)(s0:σ)(exE:ρ→Ex)(outE:ρ→St)(outN:σ→St)(st:St):LCon where
 α:=ρ⊕σ
 pre:=mv m ns js st (D (List.range l.length) none s0)∧∀ L,L.Perm l→okL step p L s0
 post:=fun r=>∃ L,L.Perm l∧eS step L s0=r
 ex:=fun| .inl x=>exE x| .inr _=>.normal
 out:=fun| .inl x=>outE x| .inr s=>outN s
variable {m:Nat}{ns:List NLoc}{js:List Nat}{step:τ→σ→ρ⊕σ}{p:τ→σ→Prop}{l:List τ}{s0:σ}{exE:ρ→Ex}{outE:ρ→St}{outN:σ→St}{st:St}{Q:Ex→St→Prop}{D:List Nat→Option Nat→σ→St}
@[go_sem] theorem MA:ky Q (some (LCP m ns js D step p l s0 exE outE outN st))=((mv m ns js st (D (List.range l.length) none s0)∧∀ L,L.Perm l→okL step p L s0)∧∀ L,L.Perm l→(∀ x,eS step L s0=.inl x→Q (exE x) (outE x))∧∀ s,eS step L s0=.inr s→Q .normal (outN s)):=by
 apply propext
 constructor
 ·rintro⟨h1,h2⟩
  exact⟨h1,fun L hL=>⟨fun x hx=>h2 (.inl x) ⟨L,hL,hx⟩,fun s hs=>h2 (.inr s) ⟨L,hL,hs⟩⟩⟩
 ·rintro⟨h1,h2⟩
  refine⟨h1,fun r ⟨L,hL,hr⟩ =>?_⟩
  cases r with
  |inl x=>exact(h2 L hL).1 x hr
  |inr s=>exact(h2 L hL).2 s hr
variable {P:Program}{ts:Tis}{G:Cons}{ro:Option Nat}{N id:Nat}{c:Code}{C:St→Option LCon}
theorem Ek (d:τ)(it:Nat)(hm:P.follows .mixedOrders=true)(hts:ts.ok P)(hG:ConsOk P G)(hc:cb N c=true)(hC:∀ st,C st=some (LCP m ns js D step p l s0 exE outE outN st))
  (h:∀ left cur s,(∀ j,j∈left→j<l.length∧p (l.getD j d) s)→∃ L,aq P ro N L c∧exec ts G L c (D left cur s) (cM step l d exE outE outN D m id it left s)):gH P ro N id (.loop c) C:=by
 refine pL hm hts hG hc fun st lc hC' hp=>?_
 rw[hC st]at hC'
 cases hC'
 obtain⟨⟨hlen,hok,hle,hsub⟩,hO⟩:=hp
 subst hlen
 have hfix:∀ q:List Nat,q.Perm (List.range l.length)→(q.map fun j=>l.getD j d).Perm l:=fun q hq=>by
  have:=hq.map (fun j=>l.getD j d)
  rwa[tG]at this
 refine⟨List Nat×Option Nat×σ,fun x=>D x.1 x.2.1 x.2.2,fun x=>∃ q:List Nat,(q++x.1).Perm (List.range l.length)∧eS step (q.map fun j=>l.getD j d) s0=.inr x.2.2,fun x=>x.1.length,(List.range l.length,none,s0),mkN ns st,js,⟨[],.refl _,rfl⟩,oY ns st st (.refl _) hok,hle,hsub,?_⟩
 rintro⟨left,cur,s⟩ ⟨q,hq,hrun⟩
 simp only at hq hrun
 have hmem:∀ j,j∈left→(q++j::left.erase j).Perm (List.range l.length):=fun j hj=>((List.perm_cons_erase hj).symm.append_left q).trans hq
 have hp0:∀ j,j∈left→j<l.length∧p (l.getD j d) s:=fun j hj=>by
  refine⟨List.mem_range.1 (hq.mem_iff.1 (List.mem_append_right _ hj)),?_⟩
  have:=hO _ (hfix _ (hmem j hj))
  rw[List.map_append]at this
  exact(yb hrun this).1
 obtain⟨L,hl,hex⟩:=h left cur s hp0
 refine⟨L,_,hl,?_,hex⟩
 have hfin:∀ e st' o,exC step l d exE outE st.h.length left s e st' o→∃ r js,(LCP st.h.length ns js D step p l s0 exE outE outN st).post r∧(LCP st.h.length ns js D step p l s0 exE outE outN st).ex r=e∧st.h.length≤((LCP st.h.length ns js D step p l s0 exE outE outN st).out r).h.length∧Sub js st.h.length st' ((LCP st.h.length ns js D step p l s0 exE outE outN st).out r):=by
  intro e st' o z
  cases o with
  |none=>exact z.elim
  |some j=>
   obtain⟨hj,z⟩:=z
   cases hs:step (l.getD j d) s with
   |inr s'=>rw[hs]at z;exact z.elim
   |inl x=>
    rw[hs]at z
    obtain⟨q2,js2,q3,q4⟩:=z
    refine⟨.inl x,js2,⟨_,hfix _ (hmem j hj),?_⟩,q2,q3,q4⟩
    rw[List.map_append,qX hrun]
    simp only[List.map_cons,eS,hs]
 intro e st' hz
 cases e with
 |normal=>
  change nxC step l d D st.h.length left s st' (oX (ag st'.h it))at hz
  cases ho:oX (ag st'.h it)with
  |none=>rw[ho]at hz;exact hz.elim
  |some j=>
   rw[ho]at hz
   obtain⟨hj,hz⟩:=hz
   cases hs:step (l.getD j d) s with
   |inl x=>rw[hs]at hz;exact hz.elim
   |inr s'=>
    rw[hs]at hz
    obtain⟨js2,q3,q4⟩:=hz
    refine⟨(left.erase j,some j,s'),js2,⟨q++[j],?_,?_⟩,?_,q3,q4⟩
    ·rw[List.append_assoc];exact hmem j hj
    ·rw[List.map_append,qX hrun]
     simp only[List.map_cons,List.map_nil,eS,hs]
    ·have:=List.length_pos_of_mem hj
     simp only[List.length_erase_of_mem hj];omega
 |exit j=>
  have hz':(bif Nat.beq j id then(left=[]→eV (outN s) st.h.length st')∧(left≠[]→exC step l d exE outE st.h.length left s .normal st' (oX (ag st'.h it)))else exC step l d exE outE st.h.length left s (.exit j) st' (oX (ag st'.h it))):=hz
  show bif Nat.beq j id then _ else _
  cases hb:Nat.beq j id with
  |true=>
   rw[hb]at hz'
   simp only[cond_true]at hz' ⊢
   by_cases hlt:left=[]
   ·obtain⟨js2,q3,q4⟩:=hz'.1 hlt
    refine⟨.inr s,js2,⟨_,hfix q (by rw[hlt,List.append_nil]at hq;exact hq),hrun⟩,rfl,q3,q4⟩
   ·exact hfin _ _ _ (hz'.2 hlt)
  |false=>
   rw[hb]at hz'
   exact hfin _ _ _ hz'
 |ret=>exact hfin _ _ _ hz
 |pan x=>exact hfin _ _ _ hz
end
theorem fkY {st2 st:St}{n0:Nat}(js:List Nat)(h1:n0≤st2.h.length:=by(first|(show _≤_;decide) |(simp only[*,go_sem,Nat.reduceBEq,Nat.reduceLeDiff,Nat.reduceAdd,Nat.reduceSub,Nat.reduceMul,Int.reduceLE,Int.reduceLT,Int.reduceToNat,Int.reduceNeg,reduceCtorEq];done) |(simp only[*,go_sem,Nat.reduceBEq,Nat.reduceLeDiff,Nat.reduceAdd,Nat.reduceSub,Nat.reduceMul,Int.reduceLE,Int.reduceLT,Int.reduceToNat,Int.reduceNeg,reduceCtorEq];(repeat' (first|with_reducible refine And.intro ?_ ?_|((with_reducible show _≠_);first|assumption|omega|(simp_all [bV,cd];done) |grind) |with_reducible intro _)) <;>(first|rfl|decide|assumption|omega|(simp_all [bV,cd];done) |fail))))(h2:Sub js n0 st st2:=by(first|(show _≤_;decide) |(simp only[*,go_sem,Nat.reduceBEq,Nat.reduceLeDiff,Nat.reduceAdd,Nat.reduceSub,Nat.reduceMul,Int.reduceLE,Int.reduceLT,Int.reduceToNat,Int.reduceNeg,reduceCtorEq];done) |(simp only[*,go_sem,Nat.reduceBEq,Nat.reduceLeDiff,Nat.reduceAdd,Nat.reduceSub,Nat.reduceMul,Int.reduceLE,Int.reduceLT,Int.reduceToNat,Int.reduceNeg,reduceCtorEq];(repeat' (first|with_reducible refine And.intro ?_ ?_|((with_reducible show _≠_);first|assumption|omega|(simp_all [bV,cd];done) |grind) |with_reducible intro _)) <;>(first|rfl|decide|assumption|omega|(simp_all [bV,cd];done) |fail)))):eV st2 n0 st:=wy js h1 h2
theorem Kc {α:Type 1}{G:List SV→α→Prop}{X:SV}{k:List SV→Option α}(h:∀ l c,k l=some c→G (X::l) c):∀ l c,pQ X k l=some c→G l c:=fun l c hc=>by
 obtain⟨r,rfl,h1⟩:=J5 hc;exact h r c h1
end Go.Sx
end
section
namespace Go.Sx
open Go.Proofs
set_option maxRecDepth 100000
set_option linter.unusedSimpArgs false
def je (n:Int)(d:Int):Int:=(IntKind.i64.wrap (Int.tdiv (IntKind.i64.wrap (n - (Int.tmod (IntKind.i64.wrap ((Int.tmod n d)+d)) d))) d))
def j_ (n:Int)(d:Int):Prop:=(d≠0∧(d≠0∧d≠0))
@[go_sem] def pY:List SV→Option Con:=(pI fun n=>(pI fun d=>(pE (.det (j_ n d) (.v (.int .i64 (je n d)))))))
theorem uq:FnOk Tryz.prog 61 pY:=by
 have hG:ConsOk Tryz.prog (mkG [] []):=aP cg0 cg0
 refine cm [.o] mixed aD hG (fn:=Tryz.f61) (c:=ae Tryz.f61) (by kernel_rfl) (by kernel_rfl) (by kernel_rfl) (by kernel_rfl) (dO fun n=>(dO fun d=>(br (fun hp=>?_))))
 dsimp only[bf]at hp
 unfold j_ at hp
 refine⟨Nat.le_of_ble_eq_true rfl,L0,al _,?_⟩
 ·unfold ae Tryz.f61
  try unfold je
  simp only[go_sem,Nat.reduceBEq,Nat.reduceLeDiff,Nat.reduceLT,decide_true,Nat.reduceAdd,Nat.reduceSub,Nat.reduceMul,Int.reduceLE,Int.reduceLT,Int.reduceToNat,Int.reduceNeg,reduceCtorEq]
  all_goals exact cl
def dP (a:Ratio)(n:Int):Int×Int×Int:=(bif((bv a) !=0)then(0,0,(bv a))else(bif((decide (n< (-1073741824))) ||(decide (n > 1073741824)))then(0,0,1)else((je (IntKind.i64.wrap (a.n*n)) a.d),(IntKind.i64.wrap (0 - (je (IntKind.i64.wrap ((IntKind.i64.wrap (0 - a.n))*n)) a.d))),0)))
def oA (a:Ratio)(n:Int):Prop:=(((bv a) !=0)=false→(((decide (n< (-1073741824))) ||(decide (n > 1073741824)))=false→((j_ (IntKind.i64.wrap (a.n*n)) a.d)∧(j_ (IntKind.i64.wrap ((IntKind.i64.wrap (0 - a.n))*n)) a.d))))
theorem ur {a:Ratio}(h:(bv a !=0)=false):1≤a.d:=by
 unfold bv at h
 by_cases hd:a.d<1
 ·simp[hd]at h
 ·omega
theorem tM (a:Ratio)(n:Int):oA a n:=fun h _=>by
 have:=ur h
 exact⟨⟨by omega,by omega,by omega⟩,⟨by omega,by omega,by omega⟩⟩
@[go_sem] def oB:List SV→Option Con:=(pD .ratio fun a=>(pI fun n=>(pE (.det True (.tup [.v (.int .i64 ((dP a n).1)),.v (.int .i64 ((dP a n).2.1)),.v (.int .i64 ((dP a n).2.2))])))))
theorem tN:FnOk Tryz.prog 32 oB:=by
 have hG:ConsOk Tryz.prog (mkG [(60,jo),(61,pY)] []):=aP (cgc kI (cgc uq cg0)) cg0
 refine cm [.o,.o,.o] mixed aD hG (fn:=Tryz.f32) (c:=ae Tryz.f32) (by kernel_rfl) (by kernel_rfl) (by kernel_rfl) (by kernel_rfl) (cw fun a=>(dO fun n=>(br (fun hp=>?_))))
 dsimp only[bf]at hp
 have hp:=tM a n
 unfold oA at hp
 refine⟨Nat.le_of_ble_eq_true rfl,L0,al _,?_⟩
 ·unfold ae Tryz.f32
  try unfold dP
  simp only[go_sem,Nat.reduceBEq,Nat.reduceLeDiff,Nat.reduceLT,decide_true,Nat.reduceAdd,Nat.reduceSub,Nat.reduceMul,Int.reduceLE,Int.reduceLT,Int.reduceToNat,Int.reduceNeg,reduceCtorEq]
  all_goals exact cl
def ig (n:Int)(d:Int):Ratio×Int:=(bif(d==0)then(({ n:=0,d:=0}:Ratio),120)else(bif(decide ((if(IntKind.u64.wrap (Int.tdiv (ai n) ((oe (Int.toNat (ai n)) (Int.toNat (ai d)):Nat):Int))) < (IntKind.u64.wrap (Int.tdiv (ai d) ((oe (Int.toNat (ai n)) (Int.toNat (ai d)):Nat):Int)))then(IntKind.u64.wrap (Int.tdiv (ai d) ((oe (Int.toNat (ai n)) (Int.toNat (ai d)):Nat):Int)))else(IntKind.u64.wrap (Int.tdiv (ai n) ((oe (Int.toNat (ai n)) (Int.toNat (ai d)):Nat):Int)))) > 1073741824))then(({ n:=0,d:=0}:Ratio),2)else(bif((decide (n<0)) !=(decide (d<0)))then(({ n:=(IntKind.i64.wrap (0 - (IntKind.i64.wrap (IntKind.u64.wrap (Int.tdiv (ai n) ((oe (Int.toNat (ai n)) (Int.toNat (ai d)):Nat):Int)))))),d:=(IntKind.i64.wrap (IntKind.u64.wrap (Int.tdiv (ai d) ((oe (Int.toNat (ai n)) (Int.toNat (ai d)):Nat):Int))))}:Ratio),0)else(({ n:=(IntKind.i64.wrap (IntKind.u64.wrap (Int.tdiv (ai n) ((oe (Int.toNat (ai n)) (Int.toNat (ai d)):Nat):Int)))),d:=(IntKind.i64.wrap (IntKind.u64.wrap (Int.tdiv (ai d) ((oe (Int.toNat (ai n)) (Int.toNat (ai d)):Nat):Int))))}:Ratio),0))))
def ka (n:Int)(d:Int):Prop:=((d==0)=false→((0≤(ai n)∧0≤(ai d))∧(((oe (Int.toNat (ai n)) (Int.toNat (ai d)):Nat):Int)≠0∧((oe (Int.toNat (ai n)) (Int.toNat (ai d)):Nat):Int)≠0)))
@[go_sem] def pZ:List SV→Option Con:=(pI fun n=>(pI fun d=>(pE (.det (ka n d) (.tup [.agg (cellsOf .ratio ((ig n d).1)),.v (.int .i64 ((ig n d).2))])))))
theorem ut:FnOk Tryz.prog 143 pZ:=by
 have hG:ConsOk Tryz.prog (mkG [(88,C83),(89,iB)] []):=aP (cgc Eb (cgc kH cg0)) cg0
 refine cm [.st .ratio,.o] mixed aD hG (fn:=Tryz.f143) (c:=ae Tryz.f143) (by kernel_rfl) (by kernel_rfl) (by kernel_rfl) (by kernel_rfl) (dO fun n=>(dO fun d=>(br (fun hp=>?_))))
 dsimp only[bf]at hp
 unfold ka at hp
 refine⟨Nat.le_of_ble_eq_true rfl,L0,al _,?_⟩
 ·unfold ae Tryz.f143
  try unfold ig
  simp only[go_sem,Nat.reduceBEq,Nat.reduceLeDiff,Nat.reduceLT,decide_true,Nat.reduceAdd,Nat.reduceSub,Nat.reduceMul,Int.reduceLE,Int.reduceLT,Int.reduceToNat,Int.reduceNeg,reduceCtorEq,C83]
  all_goals exact cl
def dQ (a:Ratio)(b:Ratio):Int×Int:=((IntKind.i64.wrap ((IntKind.i64.wrap (a.n*b.d))+(IntKind.i64.wrap (b.n*a.d)))),(IntKind.i64.wrap (a.d*b.d)))
@[go_sem] def oC:List SV→Option Con:=(pD .ratio fun a=>(pD .ratio fun b=>(pE (.det True (.tup [.v (.int .i64 ((dQ a b).1)),.v (.int .i64 ((dQ a b).2))])))))
theorem tO:FnOk Tryz.prog 118 oC:=by
 have hG:ConsOk Tryz.prog (mkG [] []):=aP cg0 cg0
 refine cm [.o,.o] mixed aD hG (fn:=Tryz.f118) (c:=ae Tryz.f118) (by kernel_rfl) (by kernel_rfl) (by kernel_rfl) (by kernel_rfl) (cw fun a=>(cw fun b=>(br (fun hp=>?_))))
 dsimp only[bf]at hp
 refine⟨Nat.le_of_ble_eq_true rfl,L0,al _,?_⟩
 ·unfold ae Tryz.f118
  try unfold dQ
  simp only[go_sem,Nat.reduceBEq,Nat.reduceLeDiff,Nat.reduceLT,decide_true,Nat.reduceAdd,Nat.reduceSub,Nat.reduceMul,Int.reduceLE,Int.reduceLT,Int.reduceToNat,Int.reduceNeg,reduceCtorEq]
  all_goals exact cl
def dG (a:Ratio)(b:Ratio):Ratio×Int:=(bif(((bv a) !=0) ||((bv b) !=0))then(({ n:=0,d:=0}:Ratio),120)else(((ig ((dQ a b).1) ((dQ a b).2)).1),(ig ((dQ a b).1) ((dQ a b).2)).2))
def fY (a:Ratio)(b:Ratio):Prop:=((((bv a) !=0) ||((bv b) !=0))=false→(ka ((dQ a b).1) ((dQ a b).2)))
@[go_sem] noncomputable def jH:List SV→Option Con:=(pQ (.agg [.fn 118 [] []]) (pD .ratio fun a=>(pD .ratio fun b=>(pE (.det (fY a b) (.tup [.agg (cellsOf .ratio ((dG a b).1)),.v (.int .i64 ((dG a b).2))]))))))
theorem mN:FnOk Tryz.prog 119 jH:=by
 have hG:ConsOk Tryz.prog (mkG [(60,jo),(118,oC),(143,pZ)] []):=aP (cgc kI (cgc tO (cgc ut cg0))) cg0
 refine cm [.st .ratio,.o] mixed aD hG (fn:=Tryz.f119) (c:=ae Tryz.f119) (by kernel_rfl) (by kernel_rfl) (by kernel_rfl) (by kernel_rfl) (Kc (cw fun a=>(cw fun b=>(br (fun hp=>?_)))))
 dsimp only[bf]at hp
 unfold fY at hp
 refine⟨Nat.le_of_ble_eq_true rfl,L0,al _,?_⟩
 ·unfold ae Tryz.f119
  try unfold dG
  simp only[go_sem,Nat.reduceBEq,Nat.reduceLeDiff,Nat.reduceLT,decide_true,Nat.reduceAdd,Nat.reduceSub,Nat.reduceMul,Int.reduceLE,Int.reduceLT,Int.reduceToNat,Int.reduceNeg,reduceCtorEq]
  all_goals exact cl
def ez (a:Ratio)(b:Ratio):Ratio×Int:=(((dG a b).1),(dG a b).2)
def lh (a:Ratio)(b:Ratio):Prop:=(fY a b)
@[go_sem] def rJ:List SV→Option Con:=(pD .ratio fun a=>(pD .ratio fun b=>(pE (.det (lh a b) (.tup [.agg (cellsOf .ratio ((ez a b).1)),.v (.int .i64 ((ez a b).2))])))))
theorem wB:FnOk Tryz.prog 91 rJ:=by
 have hG:ConsOk Tryz.prog (mkG [(119,jH)] []):=aP (cgc mN cg0) cg0
 refine cm [.st .ratio,.o] mixed aD hG (fn:=Tryz.f91) (c:=ae Tryz.f91) (by kernel_rfl) (by kernel_rfl) (by kernel_rfl) (by kernel_rfl) (cw fun a=>(cw fun b=>(br (fun hp=>?_))))
 dsimp only[bf]at hp
 unfold lh at hp
 refine⟨Nat.le_of_ble_eq_true rfl,L0,al _,?_⟩
 ·unfold ae Tryz.f91
  try unfold ez
  simp only[go_sem,Nat.reduceBEq,Nat.reduceLeDiff,Nat.reduceLT,decide_true,Nat.reduceAdd,Nat.reduceSub,Nat.reduceMul,Int.reduceLE,Int.reduceLT,Int.reduceToNat,Int.reduceNeg,reduceCtorEq]
  all_goals exact cl
end Go.Sx
end
section
namespace Go.Sx
open Go.Proofs
set_option maxRecDepth 100000
set_option linter.unusedSimpArgs false
theorem qY {p:Prop}(h:p:=by(first|done|(repeat' (first|with_reducible refine And.intro ?_ ?_|((with_reducible show _≠_);first|assumption|omega|(simp_all [bV,cd];done) |grind) |with_reducible intro _)) <;>(first|done|with_reducible exact Empty.elim ‹Empty› |with_reducible assumption|rfl|omega|assumption|decide|exact fk [] |exact czl|(simp only[*,cond_true,cond_false,Bool.not_true,Bool.not_false,go_sem,Nat.reduceBEq,Nat.reduceLeDiff,Nat.reduceLT,decide_true,Nat.reduceAdd,Nat.reduceSub,Nat.reduceMul,Int.reduceLE,Int.reduceLT,Int.reduceToNat,Int.reduceNeg,reduceCtorEq];(repeat' (first|with_reducible refine And.intro ?_ ?_|((with_reducible show _≠_);first|assumption|omega|(simp_all [bV,cd];done) |grind) |with_reducible intro _)) <;>(first|done|assumption|rfl|omega|decide|exact fk [] |(simp_all [bV,cd];done))) |(simp_all [okI,bV,cd];done) |(simp_all [bV,cd];(first|done|exact fk2 [])) |exact fk2 []))):p:=h
theorem lU {p:Prop}(h:p:=by simp only[go_sem,Nat.reduceBEq,Nat.reduceLeDiff,Nat.reduceLT,decide_true,Nat.reduceAdd,Nat.reduceSub,Nat.reduceMul,Int.reduceLE,Int.reduceLT,Int.reduceToNat,Int.reduceNeg,reduceCtorEq,hc,hw];all_goals exact qY):p:=h
theorem lV {p:Prop}(h:p:=by simp only[go_sem,Nat.reduceBEq,Nat.reduceLeDiff,Nat.reduceLT,decide_true,Nat.reduceAdd,Nat.reduceSub,Nat.reduceMul,Int.reduceLE,Int.reduceLT,Int.reduceToNat,Int.reduceNeg,reduceCtorEq,hc];all_goals exact qY):p:=h
@[go_sem] def oD (bW:List Int)(k_0:Nat)(s_0:Unit):Int⊕Unit:=(bif((bW.getD k_0 (0:Int)) !=0)then .inl (bW.getD k_0 (0:Int))else .inr ())
def fC (bW:List Int):Int:=(match ay (oD bW) bW.length 0 ()with| .inl x_0_0=>x_0_0| .inr s_0=>0)
@[go_sem] def p8:List SV→Option Con:=(pR .int fun bW=>(pE (.det True (.v (.int .i64 (fC bW))))))
theorem uu:FnOk Tryz.prog 52 p8:=by
 have hG:ConsOk Tryz.prog (mkG [] []):=aP cg0 cg0
 refine cm [.o] mixed aD hG (fn:=Tryz.f52) (c:=ae Tryz.f52) (by kernel_rfl) (by kernel_rfl) (by kernel_rfl) (by kernel_rfl) (fz fun bW=>(br (fun hp=>?_)))
 dsimp only[bf]at hp
 refine⟨Nat.le_of_ble_eq_true rfl,(fun id st=>bif Nat.beq id 0 then some (LCR (ρ:=Int) (σ:=Unit) 0 [] [] (fun k_0 s_0=>⟨[(3,.v (.int .i64 0)),(6,.rs .int bW),(7,.v (.int .i64 (bW.length:Int))),(8,.v (.int .i64 (k_0:Int)))],[]⟩) (oD bW) pT bW.length () (bW.length≤ce) (fun _=>.ret) (fun x_0_0=>⟨[(2,.v (.int .i64 x_0_0))],[]⟩) st)else none),?_,?_⟩
 ·unfold ae Tryz.f52
  simp only[aq,true_and,and_true]
  ·refine d6 mixed aD hG (by kernel_rfl) (fun _=>rfl) (bW.length:Int) rfl lP (fun hb0 k_0 s_0 hlt0 _ hw hc=>⟨L0,al _,?_⟩) (fun hb0 s_0 hc=>?_)
   ·exact lU
   ·exact lV
 ·unfold ae Tryz.f52
  try unfold fC
  simp only[go_sem,Nat.reduceBEq,Nat.reduceLeDiff,Nat.reduceLT,decide_true,Nat.reduceAdd,Nat.reduceSub,Nat.reduceMul,Int.reduceLE,Int.reduceLT,Int.reduceToNat,Int.reduceNeg,reduceCtorEq]
  all_goals exact cl
def bM (x:Holding)(y:Holding):Int:=(fC ([(cU x.right y.right),(cU x.farm y.farm)]))
@[go_sem] def mI:List SV→Option Con:=(pD .holding fun x=>(pD .holding fun y=>(pE (.det True (.v (.int .i64 (bM x y)))))))
theorem qZ:FnOk Tryz.prog 51 mI:=by
 have hG:ConsOk Tryz.prog (mkG [(38,eF),(52,fun l=>p8 (dF [.sl .int] l))] []):=aP (cgc fA (cgc (uu.norm [.sl .int]) cg0)) cg0
 refine cm [.o] mixed aD hG (fn:=Tryz.f51) (c:=ae Tryz.f51) (by kernel_rfl) (by kernel_rfl) (by kernel_rfl) (by kernel_rfl) (cw fun x=>(cw fun y=>(br (fun hp=>?_))))
 dsimp only[bf]at hp
 refine⟨Nat.le_of_ble_eq_true rfl,L0,al _,?_⟩
 ·unfold ae Tryz.f51
  try unfold bM
  simp only[go_sem,Nat.reduceBEq,Nat.reduceLeDiff,Nat.reduceLT,decide_true,Nat.reduceAdd,Nat.reduceSub,Nat.reduceMul,Int.reduceLE,Int.reduceLT,Int.reduceToNat,Int.reduceNeg,reduceCtorEq]
  all_goals exact cl
end Go.Sx
end
section
namespace Go.Sx
open Go.Proofs
theorem li (x y:Int):cU x y=if x<y then -1 else if x > y then 1 else 0:=by
 unfold cU fL
 simp[Bool.cond_eq_ite]
theorem zS (x:Int)(l:List Int):fC (x::l)=if x=0 then fC l else x:=by
 have key:∀ l:List Int,fC l=match eS (ρ:=Int) (fun(x:Int) (_:Unit) =>bif(x !=0)then .inl x else .inr ()) l ()with| .inl y=>y| .inr _=>0:=fun l=>by
  unfold fC
  have:=wv (ρ:=Int) (fun(x:Int) (_:Unit) =>bif(x !=0)then .inl x else .inr ()) 0 l ()
  rw[←this]
  rfl
 rw[key,key]
 simp only[eS]
 by_cases h:x=0
 ·subst h;rfl
 ·have:(x !=0)=true:=by simpa using h
  rw[if_neg h,this];rfl
theorem Ck:fC []=0:=rfl
def q_:List (Int×Int)→Prop
 | [] =>False
 |(a,b)::r=>a<b∨a=b∧q_ r
theorem vg:∀ l:List (Int×Int),(fC (l.map fun p=>cU p.1 p.2) <0↔q_ l)
 | [] =>by simp[Ck,q_]
 |(a,b)::r=>by
  have hc:=li a b
  simp only[List.map_cons,zS,hc,q_]
  rcases Int.lt_trichotomy a b with h|h|h
  ·simp[h]
  ·subst h
   simp only[Int.lt_irrefl,if_false,if_true,true_and,false_or,gt_iff_lt]
   exact vg r
  ·have h1:¬a<b:=by omega
   have h2:a≠b:=by omega
   simp[h1,h2,h]
def hlt (a b:Holding):Prop:=q_ [(a.right,b.right),(a.farm,b.farm)]
theorem tP (a b:Holding):bM a b<0↔hlt a b:=vg [(a.right,b.right),(a.farm,b.farm)]
open Go.Shelf Go.Sort in
theorem Ke {α:Type}{f:α→α→Int}{r:α→α→Prop}(e:∀ x y,f x y<0↔r x y)(h1:∀ x,¬r x x)(h2:∀ x y z,r x y→r y z→r x z)(h3:∀ x y z,¬r x y→¬r y z→¬r x z):SWO (ltOf f):=by
 have e1:∀ x y,ltOf f x y=true↔r x y:=fun x y=>by unfold ltOf;rw[decide_eq_true_eq,e]
 have e2:∀ x y,ltOf f x y=false↔¬r x y:=fun x y=>by rw[←e1];simp
 exact⟨fun x=>(e2 x x).2 (h1 x),fun x y z a b=>(e1 x z).2 (h2 x y z ((e1 x y).1 a) ((e1 y z).1 b)),fun x y z a b=>(e2 x z).2 (h3 x y z ((e2 x y).1 a) ((e2 y z).1 b))⟩
open Go.Shelf Go.Sort in
theorem rK:SWO (ltOf bM):=Ke tP (fun x=>by simp only[hlt,q_,and_false,or_false];omega) (fun x y z h1 h2=>by simp only[hlt,q_,and_false,or_false]at *;omega) (fun x y z h1 h2=>by simp only[hlt,q_,and_false,or_false]at *;omega)
end Go.Sx
end
section
namespace Go.Sx
open Go.RowKit
def orC {α:Type 1}:Option α→Option α→Option α
 |some x,_=>some x
 |none,y=>y
@[go_sem] theorem Om {α:Type 1}{x:α}{y:Option α}:orC (some x) y=some x:=(rfl)
@[go_sem] theorem On {α:Type 1}{y:Option α}:orC none y=y:=(rfl)
theorem nT {α:Type 1}{a b:Option α}{c:α}(h:orC a b=some c):a=some c∨b=some c:=by
 cases a with
 |none=>exact .inr h
 |some x=>exact .inl h
theorem FnOkO.or {P:Program}{f:FuncId}{C D:List SV→List Ob→Option HCon}(h1:FnOkO P f C)(h2:FnOkO P f D):FnOkO P f (fun l h=>orC (C l h) (D l h)):=
 ⟨fun l h c hc=>by rcases nT hc with e|e;exact h1.enter l h c e;exact h2.enter l h c e,
  fun l h c hc=>by rcases nT hc with e|e;exact h1.calls l h c e;exact h2.calls l h c e⟩
theorem FnOk.or {P:Program}{f:FuncId}{C D:List SV→Option Con}(h1:FnOk P f C)(h2:FnOk P f D):FnOk P f (fun l=>orC (C l) (D l)):=
 ⟨fun l c hc=>by rcases nT hc with e|e;exact h1.enter l c e;exact h2.enter l c e,
  fun l c hc=>by rcases nT hc with e|e;exact h1.calls l c e;exact h2.calls l c e⟩
end Go.Sx
end
section
namespace Go.Sx
open Go.Proofs
set_option maxRecDepth 100000
set_option linter.unusedSimpArgs false
theorem yc {p:Prop}(h:p:=by(first|done|(repeat' (first|with_reducible refine And.intro ?_ ?_|((with_reducible show _≠_);first|assumption|omega|(simp_all [bV,cd];done) |grind) |with_reducible intro _)) <;>(first|done|with_reducible exact Empty.elim ‹Empty› |with_reducible assumption|rfl|omega|assumption|decide|exact fk [0,1,2] |exact czl|(simp only[*,cond_true,cond_false,Bool.not_true,Bool.not_false,go_sem,Nat.reduceBEq,Nat.reduceLeDiff,Nat.reduceLT,decide_true,Nat.reduceAdd,Nat.reduceSub,Nat.reduceMul,Int.reduceLE,Int.reduceLT,Int.reduceToNat,Int.reduceNeg,reduceCtorEq];(repeat' (first|with_reducible refine And.intro ?_ ?_|((with_reducible show _≠_);first|assumption|omega|(simp_all [bV,cd];done) |grind) |with_reducible intro _)) <;>(first|done|assumption|rfl|omega|decide|exact fk [0,1,2] |(simp_all [bV,cd];done))) |(simp_all [okI,bV,cd];done) |(simp_all [bV,cd];(first|done|exact fk2 [0,1,2])) |exact fk2 [0,1,2]))):p:=h
theorem p9 {p:Prop}(h:p:=by(first|done|(repeat' (first|with_reducible refine And.intro ?_ ?_|((with_reducible show _≠_);first|assumption|omega|(simp_all [bV,cd];done) |grind) |with_reducible intro _)) <;>(first|done|with_reducible exact Empty.elim ‹Empty› |with_reducible assumption|rfl|omega|assumption|decide|exact fk [0,1] |exact czl|(simp only[*,cond_true,cond_false,Bool.not_true,Bool.not_false,go_sem,Nat.reduceBEq,Nat.reduceLeDiff,Nat.reduceLT,decide_true,Nat.reduceAdd,Nat.reduceSub,Nat.reduceMul,Int.reduceLE,Int.reduceLT,Int.reduceToNat,Int.reduceNeg,reduceCtorEq];(repeat' (first|with_reducible refine And.intro ?_ ?_|((with_reducible show _≠_);first|assumption|omega|(simp_all [bV,cd];done) |grind) |with_reducible intro _)) <;>(first|done|assumption|rfl|omega|decide|exact fk [0,1] |(simp_all [bV,cd];done))) |(simp_all [okI,bV,cd];done) |(simp_all [bV,cd];(first|done|exact fk2 [0,1])) |exact fk2 [0,1]))):p:=h
theorem El {p:Prop}(h:p:=by simp only[go_sem,Nat.reduceBEq,Nat.reduceLeDiff,Nat.reduceLT,decide_true,Nat.reduceAdd,Nat.reduceSub,Nat.reduceMul,Int.reduceLE,Int.reduceLT,Int.reduceToNat,Int.reduceNeg,reduceCtorEq,hc,hw];all_goals exact yc):p:=h
theorem Em {p:Prop}(h:p:=by simp only[go_sem,Nat.reduceBEq,Nat.reduceLeDiff,Nat.reduceLT,decide_true,Nat.reduceAdd,Nat.reduceSub,Nat.reduceMul,Int.reduceLE,Int.reduceLT,Int.reduceToNat,Int.reduceNeg,reduceCtorEq,hc];all_goals exact yc):p:=h
theorem p_ {p:Prop}(h:p:=by simp only[go_sem,Nat.reduceBEq,Nat.reduceLeDiff,Nat.reduceLT,decide_true,Nat.reduceAdd,Nat.reduceSub,Nat.reduceMul,Int.reduceLE,Int.reduceLT,Int.reduceToNat,Int.reduceNeg,reduceCtorEq,hc,hw];all_goals exact p9):p:=h
theorem qa {p:Prop}(h:p:=by simp only[go_sem,Nat.reduceBEq,Nat.reduceLeDiff,Nat.reduceLT,decide_true,Nat.reduceAdd,Nat.reduceSub,Nat.reduceMul,Int.reduceLE,Int.reduceLT,Int.reduceToNat,Int.reduceNeg,reduceCtorEq,hc];all_goals exact p9):p:=h
def aA (n:Int)(lo:Int)(hi:Int):Bool:=((decide (n≥lo))&&(decide (n≤hi)))
@[go_sem] def gT:List SV→Option Con:=(pI fun n=>(pI fun lo=>(pI fun hi=>(pE (.det True (.v (.bool (aA n lo hi))))))))
theorem iE:FnOk Tryz.prog 47 gT:=by
 have hG:ConsOk Tryz.prog (mkG [] []):=aP cg0 cg0
 refine cm [.o] mixed aD hG (fn:=Tryz.f47) (c:=ae Tryz.f47) (by kernel_rfl) (by kernel_rfl) (by kernel_rfl) (by kernel_rfl) (dO fun n=>(dO fun lo=>(dO fun hi=>(br (fun hp=>?_)))))
 dsimp only[bf]at hp
 refine⟨Nat.le_of_ble_eq_true rfl,L0,al _,?_⟩
 ·unfold ae Tryz.f47
  try unfold aA
  simp only[go_sem,Nat.reduceBEq,Nat.reduceLeDiff,Nat.reduceLT,decide_true,Nat.reduceAdd,Nat.reduceSub,Nat.reduceMul,Int.reduceLE,Int.reduceLT,Int.reduceToNat,Int.reduceNeg,reduceCtorEq]
  all_goals exact cl
def gW (x:Deed):Bool:=(bif(x.kind==1)then(((x.parts.length:Int) ==0)&&(x.of_==0))else(bif(x.kind==2)then((x.to==0)&&(x.of_==0))else(bif(x.kind==3)then(((x.to==0)&&((x.parts.length:Int) ==0))&&(x.of_==0))else(bif(x.kind==4)then((((x.right==0)&&(x.since==0))&&(x.to==0))&&((x.parts.length:Int) ==0))else(((((x.right==0)&&(x.since==0))&&(x.to==0))&&((x.parts.length:Int) ==0))&&(x.of_==0))))))
@[go_sem] def mJ:List SV→Option Con:=(pD .deed fun x=>(pE (.det True (.v (.bool (gW x))))))
theorem ra:FnOk Tryz.prog 66 mJ:=by
 have hG:ConsOk Tryz.prog (mkG [] []):=aP cg0 cg0
 refine cm [.o] mixed aD hG (fn:=Tryz.f66) (c:=ae Tryz.f66) (by kernel_rfl) (by kernel_rfl) (by kernel_rfl) (by kernel_rfl) (cw fun x=>(br (fun hp=>?_)))
 dsimp only[bf]at hp
 refine⟨Nat.le_of_ble_eq_true rfl,L0,al _,?_⟩
 ·unfold ae Tryz.f66
  try unfold gW
  simp only[go_sem,Nat.reduceBEq,Nat.reduceLeDiff,Nat.reduceLT,decide_true,Nat.reduceAdd,Nat.reduceSub,Nat.reduceMul,Int.reduceLE,Int.reduceLT,Int.reduceToNat,Int.reduceNeg,reduceCtorEq]
  all_goals exact cl
@[go_sem] def eJ (d:District)(l_:List Part)(k_0:Nat)(s_0:Int×Int×List (Int×Bool)):Unit⊕(Int×Int×List (Int×Bool)):=(bif(((!(aA ((l_.getD k_0 (default:Part)).farm) 0 (IntKind.i64.wrap ((d.farms.length:Int) - 1)))) ||(c6 .int .bool s_0.2.2 ((l_.getD k_0 (default:Part)).farm))) ||(decide ((l_.getD k_0 (default:Part)).share.n≤0)))then .inl ()else(bif((ez ({ n:=s_0.1,d:=s_0.2.1}:Ratio) ((l_.getD k_0 (default:Part)).share)).2 !=0)then .inl ()else .inr (((ez ({ n:=s_0.1,d:=s_0.2.1}:Ratio) ((l_.getD k_0 (default:Part)).share)).1).n,((ez ({ n:=s_0.1,d:=s_0.2.1}:Ratio) ((l_.getD k_0 (default:Part)).share)).1).d,(eQ .int .bool s_0.2.2 ((l_.getD k_0 (default:Part)).farm) true))))
def gI (d:District)(l_:List Part)(k_0:Nat)(s_0:Int×Int×List (Int×Bool)):Prop:=(d.farms.length≤ce→((((!(aA ((l_.getD k_0 (default:Part)).farm) 0 (IntKind.i64.wrap ((d.farms.length:Int) - 1)))) ||(c6 .int .bool s_0.2.2 ((l_.getD k_0 (default:Part)).farm))) ||(decide ((l_.getD k_0 (default:Part)).share.n≤0)))=false→(lh ({ n:=s_0.1,d:=s_0.2.1}:Ratio) ((l_.getD k_0 (default:Part)).share))))
def fZ (d:District)(l_:List Part):Bool:=(match ay (eJ d l_) l_.length 0 (0,1,[])with| .inl x_0_0=>false| .inr s_0=>((aA (l_.length:Int) 1 16)&&((s_0.1==1)&&(s_0.2.1==1))))
def gu (d:District)(l_:List Part):Prop:=(l_.length≤ce→okI (eJ d l_) (gI d l_) l_.length 0 (0,1,[]))
@[go_sem] def lW:List SV→Option Con:=(pD .district fun d=>(pR .part fun l_=>(pE (.det (gu d l_) (.v (.bool (fZ d l_)))))))
theorem qb:FnOk Tryz.prog 67 lW:=by
 have hG:ConsOk Tryz.prog (mkG [(47,gT),(91,rJ)] []):=aP (cgc iE (cgc wB cg0)) cg0
 refine cm [.o] mixed aD hG (fn:=Tryz.f67) (c:=ae Tryz.f67) (by kernel_rfl) (by kernel_rfl) (by kernel_rfl) (by kernel_rfl) (cw fun d=>(fz fun l_=>(br (fun hp=>?_))))
 dsimp only[bf]at hp
 unfold gu at hp
 refine⟨Nat.le_of_ble_eq_true rfl,(fun id st=>bif Nat.beq id 0 then some (LCR (ρ:=Unit) (σ:=(Int×Int×List (Int×Bool))) 3 [] [0,1,2] (fun k_0 s_0=>⟨[(1,.rs .part l_),(2,.ptr 0 0),(5,.ptr 2 0),(6,.os 1),(13,.rs .part l_),(14,.v (.int .i64 (l_.length:Int))),(15,.v (.int .i64 (k_0:Int)))],[.cells (cellsOf .district d),.mp .int .bool s_0.2.2 none,.cells [.v (.int .i64 s_0.1),.v (.int .i64 s_0.2.1)]]⟩) (eJ d l_) (gI d l_) l_.length (0,1,[]) (l_.length≤ce) (fun _=>.ret) (fun x_0_0=>⟨[(4,.v (.bool false))],[.dead,.dead,.dead]⟩) st)else none),?_,?_⟩
 ·unfold ae Tryz.f67
  simp only[aq,true_and,and_true]
  ·refine d6 mixed aD hG (by kernel_rfl) (fun _=>rfl) (l_.length:Int) rfl lP (fun hb0 k_0 s_0 hlt0 hq0 hw hc=>⟨L0,al _,?_⟩) (fun hb0 s_0 hc=>?_)
   ·unfold gI at hq0
    try simp only[hw,Int.toNat_natCast]at hq0
    exact El
   ·exact Em
 ·unfold ae Tryz.f67
  try unfold fZ
  simp only[go_sem,Nat.reduceBEq,Nat.reduceLeDiff,Nat.reduceLT,decide_true,Nat.reduceAdd,Nat.reduceSub,Nat.reduceMul,Int.reduceLE,Int.reduceLT,Int.reduceToNat,Int.reduceNeg,reduceCtorEq]
  all_goals exact cl
def bS (a0:District)(a1:List (Int×Deed))(a2:Deed):Bool:=(bif((((!(aA a2.no 0 1048576)) ||(!(aA a2.at_ 0 4096))) ||(!(aA a2.known 0 1048576))) ||(!(gW a2)))then false else(bif(a2.kind==1)then(((((aA a2.right 0 (IntKind.i64.wrap ((a0.rights.length:Int) - 1)))&&((a0.rights.getD (Int.toNat a2.right) (default:Right)).kind==1))&&(aA a2.since 0 (IntKind.i64.wrap ((a0.farms.length:Int) - 1))))&&(aA a2.to 0 (IntKind.i64.wrap ((a0.farms.length:Int) - 1))))&&(a2.to !=a2.since))else(bif(a2.kind==2)then((((aA a2.right 0 (IntKind.i64.wrap ((a0.rights.length:Int) - 1)))&&((a0.rights.getD (Int.toNat a2.right) (default:Right)).kind==1))&&(aA a2.since 0 (IntKind.i64.wrap ((a0.farms.length:Int) - 1))))&&(fZ a0 a2.parts))else(bif(a2.kind==3)then(((aA a2.right 0 (IntKind.i64.wrap ((a0.rights.length:Int) - 1)))&&((a0.rights.getD (Int.toNat a2.right) (default:Right)).kind==1))&&(aA a2.since 0 (IntKind.i64.wrap ((a0.farms.length:Int) - 1))))else(bif(a2.kind==4)then(((iW .int .deed a1 a2.of_)&&((c6 .int .deed a1 a2.of_).kind !=4))&&(decide (a2.known≥(c6 .int .deed a1 a2.of_).known)))else false)))))
def g8 (a0:District)(a1:List (Int×Deed))(a2:Deed):Prop:=(((((!(aA a2.no 0 1048576)) ||(!(aA a2.at_ 0 4096))) ||(!(aA a2.known 0 1048576))) ||(!(gW a2)))=false→(a0.farms.length≤ce→(a0.rights.length≤ce→(((aA a2.right 0 (IntKind.i64.wrap ((a0.rights.length:Int) - 1)))=true→(0≤a2.right∧a2.right< (a0.rights.length:Int)))∧((a2.kind==1)=false→((a2.kind==2)=true→((((aA a2.right 0 (IntKind.i64.wrap ((a0.rights.length:Int) - 1)))&&((a0.rights.getD (Int.toNat a2.right) (default:Right)).kind==1))&&(aA a2.since 0 (IntKind.i64.wrap ((a0.farms.length:Int) - 1))))=true→(gu a0 a2.parts))))))))
@[go_sem] def mK:List SV→Option Con:=(pD .district fun a0=>(pM .int .deed fun a1=>(pD .deed fun a2=>(pE (.det (g8 a0 a1 a2) (.v (.bool (bS a0 a1 a2))))))))
theorem rb:FnOk Tryz.prog 43 mK:=by
 have hG:ConsOk Tryz.prog (mkG [(47,gT),(66,fun l=>mJ (dF [.st .deed] l)),(67,fun l=>lW (dF [.st .district,.sl .part] l))] []):=aP (cgc iE (cgc (ra.norm [.st .deed]) (cgc (qb.norm [.st .district,.sl .part]) cg0))) cg0
 refine cm [.o] mixed aD hG (fn:=Tryz.f43) (c:=ae Tryz.f43) (by kernel_rfl) (by kernel_rfl) (by kernel_rfl) (by kernel_rfl) (cw fun a0=>(J_ fun a1=>(cw fun a2=>(br (fun hp=>?_)))))
 dsimp only[bf]at hp
 unfold g8 at hp
 refine⟨Nat.le_of_ble_eq_true rfl,L0,al _,?_⟩
 ·unfold ae Tryz.f43
  try unfold bS
  simp only[go_sem,Nat.reduceBEq,Nat.reduceLeDiff,Nat.reduceLT,decide_true,Nat.reduceAdd,Nat.reduceSub,Nat.reduceMul,Int.reduceLE,Int.reduceLT,Int.reduceToNat,Int.reduceNeg,reduceCtorEq]
  all_goals exact cl
def cF (x:Deed):Bool:=(decide ((x.parts.length:Int) > 16))
@[go_sem] def kJ:List SV→Option Con:=(pD .deed fun x=>(pE (.det True (.v (.bool (cF x))))))
theorem og:FnOk Tryz.prog 42 kJ:=by
 have hG:ConsOk Tryz.prog (mkG [] []):=aP cg0 cg0
 refine cm [.o] mixed aD hG (fn:=Tryz.f42) (c:=ae Tryz.f42) (by kernel_rfl) (by kernel_rfl) (by kernel_rfl) (by kernel_rfl) (cw fun x=>(br (fun hp=>?_)))
 dsimp only[bf]at hp
 refine⟨Nat.le_of_ble_eq_true rfl,L0,al _,?_⟩
 ·unfold ae Tryz.f42
  try unfold cF
  simp only[go_sem,Nat.reduceBEq,Nat.reduceLeDiff,Nat.reduceLT,decide_true,Nat.reduceAdd,Nat.reduceSub,Nat.reduceMul,Int.reduceLE,Int.reduceLT,Int.reduceToNat,Int.reduceNeg,reduceCtorEq]
  all_goals exact cl
@[go_sem] def bK (s_:List Deed)(k_0:Nat)(s_0:Unit):Int⊕Unit:=(bif(cF (s_.getD k_0 (default:Deed)))then .inl (k_0:Int)else .inr ())
def cy (s_:List Deed):Int:=(match ay (bK s_) s_.length 0 ()with| .inl x_0_0=>x_0_0| .inr s_0=>(-1))
@[go_sem] def c9:List SV→Option Con:=(pR .deed fun s_=>(pFn 42 (pE ((pE (.det True (.v (.int .i64 (cy s_)))))))))
theorem dY:FnOk Tryz.prog 65 c9:=by
 have hG:ConsOk Tryz.prog (mkG [(42,fun l=>kJ (dF [.st .deed] l))] []):=aP (cgc (og.norm [.st .deed]) cg0) cg0
 refine cm [.o] mixed aD hG (fn:=Tryz.f65) (c:=ae Tryz.f65) (by kernel_rfl) (by kernel_rfl) (by kernel_rfl) (by kernel_rfl) (fz fun s_=>(pO (br ((br (fun hp=>?_))))))
 dsimp only[bf]at hp
 refine⟨Nat.le_of_ble_eq_true rfl,(fun id st=>bif Nat.beq id 0 then some (LCR (ρ:=Int) (σ:=Unit) 0 [] [] (fun k_0 s_0=>⟨[(0,.rs .deed s_),(1,.fn 42 [] []),(7,.v (.int .i64 (s_.length:Int))),(8,.v (.int .i64 (k_0:Int)))],[]⟩) (bK s_) pT s_.length () (s_.length≤ce) (fun _=>.ret) (fun x_0_0=>⟨[(4,.v (.int .i64 x_0_0))],[]⟩) st)else none),?_,?_⟩
 ·unfold ae Tryz.f65
  simp only[aq,true_and,and_true]
  ·refine d6 mixed aD hG (by kernel_rfl) (fun _=>rfl) (s_.length:Int) rfl lP (fun hb0 k_0 s_0 hlt0 _ hw hc=>⟨L0,al _,?_⟩) (fun hb0 s_0 hc=>?_)
   ·exact lU
   ·exact lV
 ·unfold ae Tryz.f65
  try unfold cy
  simp only[go_sem,Nat.reduceBEq,Nat.reduceLeDiff,Nat.reduceLT,decide_true,Nat.reduceAdd,Nat.reduceSub,Nat.reduceMul,Int.reduceLE,Int.reduceLT,Int.reduceToNat,Int.reduceNeg,reduceCtorEq]
  all_goals exact cl
@[go_sem] noncomputable def cW:List SV→Option Con:=fun l=>(c9 l)
theorem f9:FnOk Tryz.prog 65 cW:=dY
def aQ (s_:List Deed):Bool:=(decide ((cy s_)≥0))
@[go_sem] def dJ:List SV→Option Con:=(pR .deed fun s_=>(pFn 42 (pE ((pE (.det True (.v (.bool (aQ s_)))))))))
theorem fN:FnOk Tryz.prog 41 dJ:=by
 have hG:ConsOk Tryz.prog (mkG [(65,fun l=>cW (dF [.sl .deed,.o] l))] []):=aP (cgc (f9.norm [.sl .deed,.o]) cg0) cg0
 refine cm [.o] mixed aD hG (fn:=Tryz.f41) (c:=ae Tryz.f41) (by kernel_rfl) (by kernel_rfl) (by kernel_rfl) (by kernel_rfl) (fz fun s_=>(pO (br ((br (fun hp=>?_))))))
 dsimp only[bf]at hp
 refine⟨Nat.le_of_ble_eq_true rfl,L0,al _,?_⟩
 ·unfold ae Tryz.f41
  try unfold aQ
  simp only[go_sem,Nat.reduceBEq,Nat.reduceLeDiff,Nat.reduceLT,decide_true,Nat.reduceAdd,Nat.reduceSub,Nat.reduceMul,Int.reduceLE,Int.reduceLT,Int.reduceToNat,Int.reduceNeg,reduceCtorEq,cW]
  all_goals exact cl
@[go_sem] def dy (d:District)(l_:List Deed)(k_0:Nat)(s_0:List (Int×Deed)):Unit⊕(List (Int×Deed)):=(bif(((decide ((k_0:Int) > 0))&&(decide ((l_.getD k_0 (default:Deed)).no≤(l_.getD (Int.toNat (IntKind.i64.wrap ((k_0:Int) - 1))) (default:Deed)).no))) ||(!(bS d s_0 (l_.getD k_0 (default:Deed)))))then .inl ()else .inr (eQ .int .deed s_0 ((l_.getD k_0 (default:Deed)).no) (l_.getD k_0 (default:Deed))))
def gJ (d:District)(l_:List Deed)(k_0:Nat)(s_0:List (Int×Deed)):Prop:=(((decide ((k_0:Int) > 0))=true→(0≤(IntKind.i64.wrap ((k_0:Int) - 1))∧(IntKind.i64.wrap ((k_0:Int) - 1)) < (l_.length:Int)))∧(((decide ((k_0:Int) > 0))&&(decide ((l_.getD k_0 (default:Deed)).no≤(l_.getD (Int.toNat (IntKind.i64.wrap ((k_0:Int) - 1))) (default:Deed)).no)))=false→(g8 d s_0 (l_.getD k_0 (default:Deed)))))
def aj (d:District)(l_:List Deed):Int:=(bif((b6 d) !=0)then(b6 d)else(bif((decide ((l_.length:Int) > 512)) ||(aQ l_))then 2 else(match ay (dy d l_) l_.length 0 ([])with| .inl x_0_0=>250| .inr s_0=>0)))
def cG (d:District)(l_:List Deed):Prop:=(((b6 d) !=0)=false→(l_.length≤ce→(((decide ((l_.length:Int) > 512)) ||(aQ l_))=false→(l_.length≤ce→okI (dy d l_) (gJ d l_) l_.length 0 ([])))))
@[go_sem] def eb:List SV→Option Con:=(pD .district fun d=>(pR .deed fun l_=>(pE (.det (cG d l_) (.v (.int .i64 (aj d l_)))))))
theorem eK:FnOk Tryz.prog 15 eb:=by
 have hG:ConsOk Tryz.prog (mkG [(24,fun l=>ny (dF [.st .district] l)),(41,fun l=>dJ (dF [.sl .deed,.o] l)),(43,fun l=>mK (dF [.st .district,.mp .int .deed,.st .deed] l))] []):=aP (cgc (rZ.norm [.st .district]) (cgc (fN.norm [.sl .deed,.o]) (cgc (rb.norm [.st .district,.mp .int .deed,.st .deed]) cg0))) cg0
 refine cm [.o] mixed aD hG (fn:=Tryz.f15) (c:=ae Tryz.f15) (by kernel_rfl) (by kernel_rfl) (by kernel_rfl) (by kernel_rfl) (cw fun d=>(fz fun l_=>(br (fun hp=>?_))))
 dsimp only[bf]at hp
 unfold cG at hp
 refine⟨Nat.le_of_ble_eq_true rfl,(fun id st=>bif Nat.beq id 0 then some (LCR (ρ:=Unit) (σ:=(List (Int×Deed))) 2 [] [0,1] (fun k_0 s_0=>⟨[(1,.rs .deed l_),(2,.ptr 0 0),(5,.os 1),(21,.rs .deed l_),(22,.v (.int .i64 (l_.length:Int))),(23,.v (.int .i64 (k_0:Int)))],[.cells (cellsOf .district d),.mp .int .deed s_0 none]⟩) (dy d l_) (gJ d l_) l_.length ([]) (l_.length≤ce) (fun _=>.ret) (fun x_0_0=>⟨[(4,.v (.int .i64 250))],[.dead,.dead]⟩) st)else none),?_,?_⟩
 ·unfold ae Tryz.f15
  simp only[aq,true_and,and_true]
  ·refine d6 mixed aD hG (by kernel_rfl) (fun _=>rfl) (l_.length:Int) rfl lP (fun hb0 k_0 s_0 hlt0 hq0 hw hc=>⟨L0,al _,?_⟩) (fun hb0 s_0 hc=>?_)
   ·unfold gJ at hq0
    try simp only[hw,Int.toNat_natCast]at hq0
    exact p_
   ·exact qa
 ·unfold ae Tryz.f15
  try unfold aj
  simp only[go_sem,Nat.reduceBEq,Nat.reduceLeDiff,Nat.reduceLT,decide_true,Nat.reduceAdd,Nat.reduceSub,Nat.reduceMul,Int.reduceLE,Int.reduceLT,Int.reduceToNat,Int.reduceNeg,reduceCtorEq]
  all_goals exact cl
end Go.Sx
end
section
namespace Go.Sx
open Go.RowKit
def pXM {α:Type 1}(t t2:Tag)(k:List (t.T×t2.T)→List SV→Option α):List SV→Option α
 | .ep [s] 0::r=>pM t t2 k (s::r)
 |_=>none
@[go_sem] theorem Oo {α:Type 1}{t t2:Tag}{k:List (t.T×t2.T)→List SV→Option α}{s:SV}{r:List SV}:pXM t t2 k (.ep [s] 0::r)=pM t t2 k (s::r):=(rfl)
theorem Bb {α:Type 1}{G:List SV→α→Prop}{t t2:Tag}{k:List (t.T×t2.T)→List SV→Option α}(h:∀ n l c,k n l=some c→G (.ep [.rm t t2 n] 0::l) c):∀ l c,pXM t t2 k l=some c→G l c:=fun l c hc=>by
 unfold pXM at hc
 split at hc
 ·obtain⟨x,r,e,h1⟩:=DQ hc
  simp only[List.cons.injEq]at e
  obtain⟨rfl,rfl⟩:=e
  exact h x _ c h1
 ·cases hc
section
universe u
variable {α:Type u}{G:List SV→α→Prop}
def pLS (k:List SV→Option (List SV→Option α)):List SV→Option α
 | .ls l::r=>apO (k l) r
 |_=>none
@[go_sem] theorem QV {k:List SV→Option (List SV→Option α)}{l r:List SV}:pLS k (.ls l::r)=apO (k l) r:=(rfl)
end
end Go.Sx
end
section
namespace Go.Sx
open Go.RowKit
open Classical in
noncomputable def eX {τ:Type}(A:τ→List SV)(H:τ→List Ob)(K:τ→HCon):List SV→List Ob→Option HCon:=fun l h=>if e:∃ x,l=A x∧h=H x then some (K e.choose)else none
theorem En (x:Deed):(⟨x.no,x.kind,x.right,x.since,x.to,x.parts,x.of_,x.at_,x.known⟩:Deed)=x:=rfl
theorem wC (d:District):(⟨d.name,d.hours,⟨d.tank.cap,d.tank.start⟩,d.reaches,d.farms,d.crops,d.rights,d.duties,d.wells⟩:District)=d:=rfl
theorem Cl {k:Tag}{x y:k.T}:cellsOf k x=cellsOf k y↔x=y:=⟨fun h=>by
 have h1:=nK x
 rw[h,nK y]at h1
 exact(Option.some.inj h1).symm,fun h=>by rw[h]⟩
theorem dH {τ:Type}{A:τ→List SV}{H:τ→List Ob}{K:τ→HCon}{x:τ}(inj:∀ x y,A x=A y→H x=H y→x=y:=by
 intro x y h1 h2
 simp only[List.cons.injEq,SV.agg.injEq,SV.ep.injEq,SV.v.injEq,Value.int.injEq,Value.bool.injEq,Value.string.injEq,SV.fn.injEq,SV.rs.injEq,SV.rm.injEq,Ob.row.injEq,Ob.mp.injEq,Ob.cells.injEq,Ob.grid.injEq,heq_eq_eq,Cl,true_and,and_true]at h1 h2
 first|exact h2|exact h1|(simp_all [Prod.ext_iff];done)):eX A H K (A x) (H x)=some (K x):=by
 have e:∃ y,A x=A y∧H x=H y:=⟨x,rfl,rfl⟩
 unfold eX
 rw[dif_pos e]
 have:=inj _ _ e.choose_spec.1 e.choose_spec.2
 rw[←this]
theorem cL {τ:Type}{A:τ→List SV}{H:τ→List Ob}{K:τ→HCon}{l:List SV}{h:List Ob}{c:HCon}(hh:eX A H K l h=some c):∃ x,l=A x∧h=H x∧c=K x:=by
 unfold eX at hh
 split at hh
 ·rename_i e
  simp only[Option.some.injEq]at hh
  exact⟨e.choose,e.choose_spec.1,e.choose_spec.2,hh.symm⟩
 ·cases hh
end Go.Sx
end
section
namespace Go.Sx
open Go.RowKit
def Cm (k:Tag)(i:Nat)(t:List (Nat×SV))(h:List Ob):SV→St
 | .v (.slice none 0 0) =>⟨(i,.os h.length)::t,h++[.row k []]⟩
 |_=>⟨t,h⟩
def Eo (k:Tag)(id off:Nat)(t:List (Nat×SV))(h:List Ob)(l:List SV):Option SV→St
 |some (.v (.slice none 0 0)) =>⟨t,bq h id (.cells (l.set off (.os h.length)))++[.row k []]⟩
 |_=>⟨t,h⟩
def Hl (k:Tag)(id off:Nat)(t:List (Nat×SV))(h:List Ob):Ob→St
 | .cells l=>Eo k id off t h l (nth l off)
 |_=>⟨t,h⟩
def Ep (k:Tag)(t:List (Nat×SV))(h:List Ob):SV→St
 | .ptr id off=>Hl k id off t h (ag h id)
 |_=>⟨t,h⟩
def yd (k:Tag):ResultVar→List (Nat×SV)→List Ob→St
 | .tmp i,t,h=>Cm k i t h (lk i t)
 | .cell i _,t,h=>Ep k t h (lk i t)
def tQ:List (ResultVar×Tag)→St→St
 | [],st=>st
 |x::r,st=>tQ r (yd x.2 x.1 st.t st.h)
theorem Hm (k:Tag)(r:ResultVar)(st:St):NilS st (yd k r st.t st.h):=by
 obtain⟨t,h⟩:=st
 cases r with
 |tmp i=>
  show NilS _ (Cm k i t h (lk i t))
  unfold Cm
  split
  ·rename_i e
   exact .slot _ (.refl _) e (.inl ⟨_,rfl⟩)
  ·exact .refl _
 |cell i _=>
  show NilS _ (Ep k t h (lk i t))
  unfold Ep
  split
  ·unfold Hl
   split
   ·rename_i e
    unfold Eo
    split
    ·rename_i e2
     exact .cell _ (.refl _) e (by rw[←dB];exact e2) (.inl ⟨_,rfl⟩)
    ·exact .refl _
   ·exact .refl _
  ·exact .refl _
theorem NilS.trans {a b c:St}(h1:NilS a b)(h2:NilS b c):NilS a c:=by
 induction h2 with
 |refl=>exact h1
 |cell o _ e1 e2 ho ih=>exact .cell o ih e1 e2 ho
 |slot o _ e1 ho ih=>exact .slot o ih e1 ho
 |slotE k _ e1 ih=>exact .slotE k ih e1
theorem Kf (l:List (ResultVar×Tag)):∀ st,NilS st (tQ l st):=by
 induction l with
 |nil=>exact fun st=>.refl _
 |cons x r ih=>exact fun st=>(Hm x.2 x.1 st).trans (ih _)
def Bc (l:List (ResultVar×Tag))(rs:List ResultVar)(ts:Tis)(post:SV→Prop)(pp:Value→Prop):Ex→St→Prop
 | .exit _,_=>False
 | .normal,st=>c8 post (oM true rs ts (tQ l st))
 | .ret,st=>c8 post (oM true rs ts (tQ l st))
 | .pan x,_=>pp x
section
variable {l:List (ResultVar×Tag)}{rs:List ResultVar}{ts:Tis}{post:SV→Prop}{pp:Value→Prop}{st:St}{k:Tag}{i id off:Nat}{t:List (Nat×SV)}{h:List Ob}{m:List SV}
@[go_sem] theorem MB:Bc l rs ts post pp .ret st=c8 post (oM true rs ts (tQ l st)):=(rfl)
@[go_sem] theorem Hn:Bc l rs ts post pp .normal st=c8 post (oM true rs ts (tQ l st)):=(rfl)
@[go_sem] theorem MC {x:Value}:Bc l rs ts post pp (.pan x) st=pp x:=(rfl)
@[go_sem] theorem Oq:tQ [] st=st:=(rfl)
@[go_sem] theorem MD {r:ResultVar}:tQ ((r,k)::l) ⟨t,h⟩=tQ l (yd k r t h):=(rfl)
@[go_sem] theorem ME:yd k (.tmp i) t h=Cm k i t h (lk i t):=(rfl)
@[go_sem] theorem Kg {ty:TypeId}:yd k (.cell i ty) t h=Ep k t h (lk i t):=(rfl)
@[go_sem] theorem Ot:Cm k i t h (.v (.slice none 0 0))=⟨(i,.os h.length)::t,h++[.row k []]⟩:=(rfl)
@[go_sem] theorem P7:Cm k i t h (.os id)=⟨t,h⟩:=(rfl)
@[go_sem] theorem Ou:Ep k t h (.ptr id off)=Hl k id off t h (ag h id):=(rfl)
@[go_sem] theorem Kh:Hl k id off t h (.cells m)=Eo k id off t h m (nth m off):=(rfl)
@[go_sem] theorem Ov:Eo k id off t h m (some (.v (.slice none 0 0)))=⟨t,bq h id (.cells (m.set off (.os h.length)))++[.row k []]⟩:=(rfl)
@[go_sem] theorem P8:Eo k id off t h m (some (.os i))=⟨t,h⟩:=(rfl)
attribute [go_sem] List.set_cons_zero
end
section
variable {P:Program}{ts:Tis}{G:Cons}
theorem re (l:List (ResultVar×Tag)) (hm:P.follows .mixedOrders=true) (hts:ts.ok P) (hG:ConsOk P G) {f:FuncId} {fn:Func} {c:Code} (hf:P.funcs[f]? =some fn) (hb:fn.body=some c) (hname:(fn.name== "runtime.NumGoroutine")=false)
  (hc:cb fn.ntmps c=true) {C:List SV→Option Con}
  (h:∀ l0 con,C l0=some con→bf con→l0.length≤fn.ntmps∧∃ L,aq P none fn.ntmps L c∧exec ts G L c ⟨iu 0 l0,[]⟩ (Bc l fn.results.toList ts (cJ con) (ib con))):FnOk P f C:=by
 refine⟨fun l con _ args w=>?_,fun l0 con hcon hpre F w vs hF hvs=>?_⟩
 ·have hn:¬fn.name= "runtime.NumGoroutine":=by simpa using hname
  simp[callFunc,hf,hn,hb]
 ·obtain⟨hlen,L,hl,hx⟩:=h l0 con hcon hpre
  refine kC (n:=0) (callsIn_of_wp_marks hf hb trivial ?_)
  have hr:StRel F { w:=w,own:=cg} fn.ntmps cg ⟨iu 0 l0,[]⟩ { tmps:=vs++Array.replicate (fn.ntmps - vs.size) undef,defers:=[]} w:=
   ⟨by have:=hvs.1;simp;omega,Dfr.nil,pJ hF,Fr.refl _,fun t=>jF hvs _ t⟩
  refine wpIn_mono (j8 hm hts hG c hc hl F _ _ hx cg _ w hr) ?_
  intro e a' w' hq
  have key:∀ F1 own st,(∀ b,F b→F1 b)→StRel F1 { w:=w,own:=cg} fn.ntmps own st a' w'→c8 (cJ con) (oM true fn.results.toList ts (tQ l st))→LeavesInM (rd none) 0 P fn a'.tmps
    (fun e w'=>(∃ s u own',cJ con s∧e=.returned u∧Handed F w own' w' s u∧Below w.heap.size w w')∨(∃ x,ib con x∧e=.panicked [{ v:=x,recovered:=false}]∧Below w.heap.size w w')) a'.defers .returning w':=by
   intro F1 own0' st0 hF1 hst0 hdone
   obtain⟨own,hst⟩:=(Kf l st0).rel hst0
   generalize tQ l st0=st at hst hdone
   refine gS hst (by simp) fun w2 hst2=>?_
   have hst3:=hst2.less hF1 rfl
   unfold oM at hdone
   cases hs:iU (h_ ts st fn.results.toList)with
   |none=>
    simp only[cond_true,BC]at hdone;rw[hs]at hdone;exact hdone.elim
   |some s=>
    obtain⟨u,e1,e2⟩:=pH (P:=P) hts hst3 hs
    refine⟨u,e1,.inl ?_⟩
    simp only[cond_true,BC]at hdone
    rw[hs]at hdone
    change c8 (cJ con) (ru st.h s)at hdone
    cases hg:ru st.h s with
    |none=>rw[hg]at hdone;exact hdone.elim
    |some s2=>
     rw[hg]at hdone
     obtain⟨own',hh⟩:=AU hst3 e2 hg
     exact⟨_,u,own',hdone,rfl,hh,jE hst3.fr⟩
  cases e with
  |normal=>obtain⟨F1,own,st,h0,h1,h2⟩:=hq;exact key F1 own st h0 h1 h2
  |ret=>obtain⟨F1,own,st,h0,h1,h2⟩:=hq;exact key F1 own st h0 h1 h2
  |exit id=>obtain⟨F1,own,st,h0,h1,h2⟩:=hq;exact h2.elim
  |panic ch=>
   obtain⟨x,F1,own,st,h0,h1,h2,rfl⟩:=hq
   exact gS h1 (by simp) fun w2 hst2=>.inr ⟨x,h2,rfl,jE hst2.fr⟩
  |_=>exact hq.elim
end
end Go.Sx
end
section
namespace Go.Sx
open Go.Proofs
set_option maxRecDepth 100000
set_option linter.unusedSimpArgs false
theorem Er {p:Prop}(h:p:=by(first|done|(repeat' (first|with_reducible refine And.intro ?_ ?_|((with_reducible show _≠_);first|assumption|omega|(simp_all [bV,cd];done) |grind) |with_reducible intro _)) <;>(first|done|with_reducible exact Empty.elim ‹Empty› |with_reducible assumption|rfl|omega|assumption|decide|exact fk [0,1,0] |exact fk [0,1,2] |exact czl|(simp only[*,cond_true,cond_false,Bool.not_true,Bool.not_false,go_sem,Nat.reduceBEq,Nat.reduceLeDiff,Nat.reduceLT,decide_true,Nat.reduceAdd,Nat.reduceSub,Nat.reduceMul,Int.reduceLE,Int.reduceLT,Int.reduceToNat,Int.reduceNeg,reduceCtorEq];(repeat' (first|with_reducible refine And.intro ?_ ?_|((with_reducible show _≠_);first|assumption|omega|(simp_all [bV,cd];done) |grind) |with_reducible intro _)) <;>(first|done|assumption|rfl|omega|decide|exact fk [0,1,0] |exact fk [0,1,2] |(simp_all [bV,cd];done))) |(simp_all [okI,bV,cd];done) |(simp_all [bV,cd];(first|done|exact fk2 [0,1,0] |exact fk2 [0,1,2])) |exact fk2 [0,1,0] |exact fk2 [0,1,2]))):p:=h
theorem Es {p:Prop}(h:p:=by simp only[go_sem,Nat.reduceBEq,Nat.reduceLeDiff,Nat.reduceLT,decide_true,Nat.reduceAdd,Nat.reduceSub,Nat.reduceMul,Int.reduceLE,Int.reduceLT,Int.reduceToNat,Int.reduceNeg,reduceCtorEq];all_goals exact qY):p:=h
@[go_sem] def gK:List SV→Option Con:=pR .deed fun l=>pE (.det (l.length*88≤i0) (.nw .deed l))
theorem jI:FnOk Tryz.prog 40 gK:=by
 have hG:ConsOk Tryz.prog (mkG [] []):=aP cg0 cg0
 refine re [(.tmp 2,.deed)] mixed aD hG (fn:=Tryz.f40) (c:=ae Tryz.f40) (by kernel_rfl) (by kernel_rfl) (by kernel_rfl) (by kernel_rfl) (fz fun l=>br fun hp=>?_)
 dsimp only[bf]at hp
 refine⟨Nat.le_of_ble_eq_true rfl,L0,al _,?_⟩
 unfold ae Tryz.f40
 simp only[go_sem,Nat.reduceBEq,Nat.reduceLeDiff,Nat.reduceAdd,Nat.reduceSub,Nat.reduceMul,Int.reduceLE,Int.reduceLT,Int.reduceToNat,Int.reduceNeg,reduceCtorEq]
 intro b hb
 refine⟨fun h=>?_,fun _=>⟨hp,fun _=>rfl⟩⟩
 have hl:=hb h
 subst hl
 rfl
def dR (z:Deed)(no:Int):Int:=(cU z.no no)
@[go_sem] def lX:List SV→Option Con:=(pD .deed fun z=>(pI fun no=>(pE (.det True (.v (.int .i64 (dR z no)))))))
theorem qc:FnOk Tryz.prog 37 lX:=by
 have hG:ConsOk Tryz.prog (mkG [(38,eF)] []):=aP (cgc fA cg0) cg0
 refine cm [.o] mixed aD hG (fn:=Tryz.f37) (c:=ae Tryz.f37) (by kernel_rfl) (by kernel_rfl) (by kernel_rfl) (by kernel_rfl) (cw fun z=>(dO fun no=>(br (fun hp=>?_))))
 dsimp only[bf]at hp
 refine⟨Nat.le_of_ble_eq_true rfl,L0,al _,?_⟩
 ·unfold ae Tryz.f37
  try unfold dR
  simp only[go_sem,Nat.reduceBEq,Nat.reduceLeDiff,Nat.reduceLT,decide_true,Nat.reduceAdd,Nat.reduceSub,Nat.reduceMul,Int.reduceLE,Int.reduceLT,Int.reduceToNat,Int.reduceNeg,reduceCtorEq]
  all_goals exact cl
@[go_sem] def ak (x:List Deed)(target:Int)(k_0:Nat)(s_0:Int×Int):Int⊕(Int×Int):=(bif(decide (s_0.1<s_0.2))then(bif(decide ((dR (x.getD (Int.toNat (IntKind.i64.wrap (bb .u64 (IntKind.u64.wrap (IntKind.i64.wrap (s_0.1+s_0.2))) 1))) (default:Deed)) target) <0))then .inr ((IntKind.i64.wrap ((IntKind.i64.wrap (bb .u64 (IntKind.u64.wrap (IntKind.i64.wrap (s_0.1+s_0.2))) 1))+1)),s_0.2)else .inr (s_0.1,(IntKind.i64.wrap (bb .u64 (IntKind.u64.wrap (IntKind.i64.wrap (s_0.1+s_0.2))) 1))))else .inl s_0.1)
def aC (x:List Deed)(target:Int)(k_0:Nat)(s_0:Int×Int):Prop:=((decide (s_0.1<s_0.2))=true→(0≤(IntKind.i64.wrap (bb .u64 (IntKind.u64.wrap (IntKind.i64.wrap (s_0.1+s_0.2))) 1))∧(IntKind.i64.wrap (bb .u64 (IntKind.u64.wrap (IntKind.i64.wrap (s_0.1+s_0.2))) 1)) < (x.length:Int)))
def an (x:List Deed)(target:Int):Int×Bool:=(match ay (ak x target) (x.length+1) 0 (0,(x.length:Int))with| .inl x_0_0=>(x_0_0,((decide (x_0_0< (x.length:Int)))&&((dR (x.getD (Int.toNat x_0_0) (default:Deed)) target) ==0))) | .inr s_0=>default)
def bw (x:List Deed)(target:Int):Prop:=(x.length≤ce→(okI (ak x target) (aC x target) (x.length+1) 0 (0,(x.length:Int))∧(∀ z_,ay (ak x target) (x.length+1) 0 (0,(x.length:Int))≠ .inr z_)∧(∀ x_0_0,ay (ak x target) (x.length+1) 0 (0,(x.length:Int))=.inl x_0_0→((decide (x_0_0< (x.length:Int)))=true→(0≤x_0_0∧x_0_0< (x.length:Int))))))
@[go_sem] def da:List SV→Option Con:=(pR .deed fun x=>(pI fun target=>(pFn 37 (pE ((pE (.det (bw x target) (.tup [.v (.int .i64 ((an x target).1)),.v (.bool ((an x target).2))]))))))))
theorem ew:FnOk Tryz.prog 36 da:=by
 have hG:ConsOk Tryz.prog (mkG [(37,fun l=>lX (dF [.st .deed,.o] l))] []):=aP (cgc (qc.norm [.st .deed,.o]) cg0) cg0
 refine cm [.o,.o] mixed aD hG (fn:=Tryz.f36) (c:=ae Tryz.f36) (by kernel_rfl) (by kernel_rfl) (by kernel_rfl) (by kernel_rfl) (fz fun x=>(dO fun target=>(pO (br ((br (fun hp=>?_)))))))
 dsimp only[bf]at hp
 unfold bw at hp
 refine⟨Nat.le_of_ble_eq_true rfl,(fun id st=>bif Nat.beq id 0 then some (LCV (ρ:=Int) (σ:=(Int×Int)) 0 [] [] (fun k_0 s_0=>⟨[(0,.rs .deed x),(1,.v (.int .i64 target)),(2,.fn 37 [] []),(8,.v (.int .i64 (x.length:Int))),(9,.v (.int .i64 s_0.1)),(10,.v (.int .i64 s_0.2))],[]⟩) (ak x target) (aC x target) (x.length+1) (0,(x.length:Int)) (fun _=>.normal) (fun x_0_0=>⟨[(0,.rs .deed x),(1,.v (.int .i64 target)),(2,.fn 37 [] []),(8,.v (.int .i64 (x.length:Int))),(9,.v (.int .i64 x_0_0))],[]⟩) st)else none),?_,?_⟩
 ·unfold ae Tryz.f36
  simp only[aq,true_and,and_true]
  ·refine eW mixed aD hG (by kernel_rfl) (fun _=>rfl) fun k_0 s_0 hq0=>⟨L0,al _,?_⟩
   ·unfold aC at hq0
    exact Es
 ·unfold ae Tryz.f36
  try unfold an
  simp only[go_sem,Nat.reduceBEq,Nat.reduceLeDiff,Nat.reduceLT,decide_true,Nat.reduceAdd,Nat.reduceSub,Nat.reduceMul,Int.reduceLE,Int.reduceLT,Int.reduceToNat,Int.reduceNeg,reduceCtorEq]
  all_goals exact cl
def a8 (l_:List Deed)(v_:List Deed):List Deed:=(bif((v_.length:Int) ==0)then l_ else(l_++v_))
def bF (l_:List Deed)(v_:List Deed):Prop:=((0≤(l_.length:Int)∧(l_.length:Int)≤(l_.length:Int))∧(v_.length≤ce→(((v_.length:Int) ==0)=false→(l_.length≤ce→((l_++v_).length*88≤i0)))))
noncomputable def dv:List SV→List Ob→Option HCon:=eX (fun x_:Int×(List Deed)×(List Deed) =>[.os 0,.v (.int .i64 x_.1),.os 1]) (fun x_=>[.row .deed x_.2.1,.row .deed x_.2.2]) (fun x_=>dN (x_.1=(x_.2.1.length:Int)∧(bF x_.2.1 x_.2.2)) (.os 2) [.dead,.row .deed x_.2.2,.row .deed (a8 x_.2.1 x_.2.2)])
@[go_sem] theorem oh (i:Int)(l_:List Deed)(v_:List Deed):dv ([.os 0,.v (.int .i64 i),.os 1]) ([.row .deed l_,.row .deed v_])=some (dN (i=(l_.length:Int)∧(bF l_ v_)) (.os 2) [.dead,.row .deed v_,.row .deed (a8 l_ v_)]):=dH (A:=fun x_:Int×(List Deed)×(List Deed) =>[.os 0,.v (.int .i64 x_.1),.os 1]) (H:=fun x_=>[.row .deed x_.2.1,.row .deed x_.2.2]) (K:=fun x_=>dN (x_.1=(x_.2.1.length:Int)∧(bF x_.2.1 x_.2.2)) (.os 2) [.dead,.row .deed x_.2.2,.row .deed (a8 x_.2.1 x_.2.2)]) (x:=(i,l_,v_))
theorem ii:FnOkO Tryz.prog 39 (dv):=by
 have hG:ConsOk Tryz.prog (mkG [] []):=aP cg0 cg0
 refine eE mixed aD hG (fn:=Tryz.f39) (c:=ae Tryz.f39) (by kernel_rfl) (by kernel_rfl) (by kernel_rfl) (by kernel_rfl) fun l o con h=>?_
 obtain⟨⟨i,l_,v_⟩,rfl,rfl,rfl⟩:=cL h
 clear h
 try dsimp only
 refine⟨_,_,_,rfl,fun hp=>?_⟩
 obtain⟨rfl,hp⟩:=hp
 unfold bF at hp
 refine⟨Nat.le_of_ble_eq_true rfl,L0,?_,?_⟩
 ·unfold ae Tryz.f39
  simp only[aq,and_self,true_and,and_true]
 ·unfold ae Tryz.f39
  try unfold a8
  simp only[go_sem,Nat.reduceBEq,Nat.reduceLeDiff,Nat.reduceLT,decide_true,Nat.reduceAdd,Nat.reduceSub,Nat.reduceMul,Int.reduceLE,Int.reduceLT,Int.reduceToNat,Int.reduceNeg,reduceCtorEq,beq_self_eq_true]
  all_goals exact Er
def iF (d:District)(l_:List Deed)(x:Deed):List Deed×Int:=(bif((aj d l_) !=0)then([],(aj d l_))else(bif(an l_ x.no).2 then([],171)else(bif((aj d (a8 l_ ([x]))) !=0)then([],(aj d (a8 l_ ([x]))))else((a8 l_ ([x])),0))))
def eY (d:District)(l_:List Deed)(x:Deed):Prop:=((cG d l_)∧(((aj d l_) !=0)=false→((bw l_ x.no)∧((an l_ x.no).2=false→((l_.length*88≤i0)∧(((an l_ x.no).1=(l_.length:Int))∧((bF l_ ([x]))∧(cG d (a8 l_ ([x]))))))))))
@[go_sem] def kK:List SV→Option Con:=(pD .district fun d=>(pR .deed fun l_=>(pD .deed fun x=>(pE (.det (eY d l_ x) (.tup [.nw .deed ((iF d l_ x).1),.v (.int .i64 ((iF d l_ x).2))]))))))
theorem mL:FnOk Tryz.prog 13 kK:=by
 have hG:ConsOk Tryz.prog (mkG [(15,fun l=>eb (dF [.st .district,.sl .deed] l)),(36,fun l=>da (dF [.sl .deed,.o,.o] l)),(40,fun l=>gK (dF [.sl .deed] l))] [(39,dv)]):=aP (cgc (eK.norm [.st .district,.sl .deed]) (cgc (ew.norm [.sl .deed,.o,.o]) (cgc (jI.norm [.sl .deed]) cg0))) (cgc ii cg0)
 refine re [(.tmp 6,.deed)] mixed aD hG (fn:=Tryz.f13) (c:=ae Tryz.f13) (by kernel_rfl) (by kernel_rfl) (by kernel_rfl) (by kernel_rfl) (cw fun d=>(fz fun l_=>(cw fun x=>(br (fun hp=>?_)))))
 dsimp only[bf]at hp
 unfold eY at hp
 refine⟨Nat.le_of_ble_eq_true rfl,L0,al _,?_⟩
 ·unfold ae Tryz.f13
  try unfold iF
  simp only[go_sem,Nat.reduceBEq,Nat.reduceLeDiff,Nat.reduceLT,decide_true,Nat.reduceAdd,Nat.reduceSub,Nat.reduceMul,Int.reduceLE,Int.reduceLT,Int.reduceToNat,Int.reduceNeg,reduceCtorEq]
  all_goals exact cl3
end Go.Sx
end
section
namespace Go.Sx
open Go.Proofs
set_option maxRecDepth 100000
set_option linter.unusedSimpArgs false
theorem Et {p:Prop}(h:p:=by(first|done|(repeat' (first|with_reducible refine And.intro ?_ ?_|((with_reducible show _≠_);first|assumption|omega|(simp_all [bV,cd];done) |grind) |with_reducible intro _)) <;>(first|done|with_reducible exact Empty.elim ‹Empty› |with_reducible assumption|rfl|omega|assumption|decide|exact fk [0,1,2,3,4] |exact czl|(simp only[*,cond_true,cond_false,Bool.not_true,Bool.not_false,go_sem,Nat.reduceBEq,Nat.reduceLeDiff,Nat.reduceLT,decide_true,Nat.reduceAdd,Nat.reduceSub,Nat.reduceMul,Int.reduceLE,Int.reduceLT,Int.reduceToNat,Int.reduceNeg,reduceCtorEq];(repeat' (first|with_reducible refine And.intro ?_ ?_|((with_reducible show _≠_);first|assumption|omega|(simp_all [bV,cd];done) |grind) |with_reducible intro _)) <;>(first|done|assumption|rfl|omega|decide|exact fk [0,1,2,3,4] |(simp_all [bV,cd];done))) |(simp_all [okI,bV,cd];done) |(simp_all [bV,cd];(first|done|exact fk2 [0,1,2,3,4])) |exact fk2 [0,1,2,3,4]))):p:=h
theorem Eu {p:Prop}(h:p:=by(first|done|(repeat' (first|with_reducible refine And.intro ?_ ?_|((with_reducible show _≠_);first|assumption|omega|(simp_all [bV,cd];done) |grind) |with_reducible intro _)) <;>(first|done|with_reducible exact Empty.elim ‹Empty› |with_reducible assumption|rfl|omega|assumption|decide|exact fk [0,1,2,3,4,0] |exact fk [0,1,2,3,4,5] |exact czl|(simp only[*,cond_true,cond_false,Bool.not_true,Bool.not_false,go_sem,Nat.reduceBEq,Nat.reduceLeDiff,Nat.reduceLT,decide_true,Nat.reduceAdd,Nat.reduceSub,Nat.reduceMul,Int.reduceLE,Int.reduceLT,Int.reduceToNat,Int.reduceNeg,reduceCtorEq];(repeat' (first|with_reducible refine And.intro ?_ ?_|((with_reducible show _≠_);first|assumption|omega|(simp_all [bV,cd];done) |grind) |with_reducible intro _)) <;>(first|done|assumption|rfl|omega|decide|exact fk [0,1,2,3,4,0] |exact fk [0,1,2,3,4,5] |(simp_all [bV,cd];done))) |(simp_all [okI,bV,cd];done) |(simp_all [bV,cd];(first|done|exact fk2 [0,1,2,3,4,0] |exact fk2 [0,1,2,3,4,5])) |exact fk2 [0,1,2,3,4,0] |exact fk2 [0,1,2,3,4,5]))):p:=h
theorem Ev {p:Prop}(h:p:=by simp only[go_sem,Nat.reduceBEq,Nat.reduceLeDiff,Nat.reduceLT,decide_true,Nat.reduceAdd,Nat.reduceSub,Nat.reduceMul,Int.reduceLE,Int.reduceLT,Int.reduceToNat,Int.reduceNeg,reduceCtorEq];all_goals exact Et):p:=h
def aL (x:Deed)(known:Int)(hour:Int)(void_:List (Int×Bool)):Bool:=((((x.kind==4) ||(decide (x.known > known))) ||(decide (x.at_ > hour))) ||(c6 .int .bool void_ x.no))
@[go_sem] def fO:List SV→Option Con:=(pD .deed fun x=>(pX .int fun known=>(pX .int fun hour=>(pXM .int .bool fun void_=>(pE (.det True (.v (.bool (aL x known hour void_)))))))))
theorem iG:FnOk Tryz.prog 76 fO:=by
 have hG:ConsOk Tryz.prog (mkG [] []):=aP cg0 cg0
 refine cm [.o] mixed aD hG (fn:=Tryz.f76) (c:=ae Tryz.f76) (by kernel_rfl) (by kernel_rfl) (by kernel_rfl) (by kernel_rfl) (cw fun x=>(tI fun known=>(tI fun hour=>(Bb fun void_=>(br (fun hp=>?_))))))
 dsimp only[bf]at hp
 refine⟨Nat.le_of_ble_eq_true rfl,L0,al _,?_⟩
 ·unfold ae Tryz.f76
  try unfold aL
  simp only[go_sem,Nat.reduceBEq,Nat.reduceLeDiff,Nat.reduceLT,decide_true,Nat.reduceAdd,Nat.reduceSub,Nat.reduceMul,Int.reduceLE,Int.reduceLT,Int.reduceToNat,Int.reduceNeg,reduceCtorEq]
  all_goals exact cl
def cp (a:Deed)(b:Deed):Int:=(cU a.at_ b.at_)
@[go_sem] def fP:List SV→Option Con:=(pD .deed fun a=>(pD .deed fun b=>(pE (.det True (.v (.int .i64 (cp a b)))))))
theorem iH:FnOk Tryz.prog 78 fP:=by
 have hG:ConsOk Tryz.prog (mkG [(38,eF)] []):=aP (cgc fA cg0) cg0
 refine cm [.o] mixed aD hG (fn:=Tryz.f78) (c:=ae Tryz.f78) (by kernel_rfl) (by kernel_rfl) (by kernel_rfl) (by kernel_rfl) (cw fun a=>(cw fun b=>(br (fun hp=>?_))))
 dsimp only[bf]at hp
 refine⟨Nat.le_of_ble_eq_true rfl,L0,al _,?_⟩
 ·unfold ae Tryz.f78
  try unfold cp
  simp only[go_sem,Nat.reduceBEq,Nat.reduceLeDiff,Nat.reduceLT,decide_true,Nat.reduceAdd,Nat.reduceSub,Nat.reduceMul,Int.reduceLE,Int.reduceLT,Int.reduceToNat,Int.reduceNeg,reduceCtorEq]
  all_goals exact cl
@[go_sem] def cK (s_:List Deed)(known:Int)(hour:Int)(void_:List (Int×Bool))(k_0:Nat)(s_0:Unit):Int⊕Unit:=(bif(aL (s_.getD k_0 (default:Deed)) known hour void_)then .inl (k_0:Int)else .inr ())
def ah (s_:List Deed)(known:Int)(hour:Int)(void_:List (Int×Bool)):Int:=(match ay (cK s_ known hour void_) s_.length 0 ()with| .inl x_0_0=>x_0_0| .inr s_0=>(-1))
@[go_sem] def dS:List SV→Option Con:=(pR .deed fun s_=>(pFn 76 (pX .int fun known=>(pX .int fun hour=>(pXM .int .bool fun void_=>(pE ((pE (.det True (.v (.int .i64 (ah s_ known hour void_))))))))))))
theorem fS:FnOk Tryz.prog 65 dS:=by
 have hG:ConsOk Tryz.prog (mkG [(76,fun l=>fO (dF [.st .deed,.o,.o,.o] l))] []):=aP (cgc (iG.norm [.st .deed,.o,.o,.o]) cg0) cg0
 refine cm [.o] mixed aD hG (fn:=Tryz.f65) (c:=ae Tryz.f65) (by kernel_rfl) (by kernel_rfl) (by kernel_rfl) (by kernel_rfl) (fz fun s_=>(pO (tI fun known=>(tI fun hour=>(Bb fun void_=>(br ((br (fun hp=>?_)))))))))
 dsimp only[bf]at hp
 refine⟨Nat.le_of_ble_eq_true rfl,(fun id st=>bif Nat.beq id 0 then some (LCR (ρ:=Int) (σ:=Unit) 0 [] [] (fun k_0 s_0=>⟨[(0,.rs .deed s_),(1,.fn 76 [] [.ep [.v (.int .i64 known)] 0,.ep [.v (.int .i64 hour)] 0,.ep [.rm .int .bool void_] 0]),(7,.v (.int .i64 (s_.length:Int))),(8,.v (.int .i64 (k_0:Int)))],[]⟩) (cK s_ known hour void_) pT s_.length () (s_.length≤ce) (fun _=>.ret) (fun x_0_0=>⟨[(4,.v (.int .i64 x_0_0))],[]⟩) st)else none),?_,?_⟩
 ·unfold ae Tryz.f65
  simp only[aq,true_and,and_true]
  ·refine d6 mixed aD hG (by kernel_rfl) (fun _=>rfl) (s_.length:Int) rfl lP (fun hb0 k_0 s_0 hlt0 _ hw hc=>⟨L0,al _,?_⟩) (fun hb0 s_0 hc=>?_)
   ·exact lU
   ·exact lV
 ·unfold ae Tryz.f65
  try unfold ah
  simp only[go_sem,Nat.reduceBEq,Nat.reduceLeDiff,Nat.reduceLT,decide_true,Nat.reduceAdd,Nat.reduceSub,Nat.reduceMul,Int.reduceLE,Int.reduceLT,Int.reduceToNat,Int.reduceNeg,reduceCtorEq]
  all_goals exact cl
@[go_sem] noncomputable def cX:List SV→Option Con:=fun l=>(orC (c9 l) (dS l))
theorem f_:FnOk Tryz.prog 65 cX:=(FnOk.or dY fS)
@[go_sem] def aH (l_:List Deed)(known:Int)(hour:Int)(void_:List (Int×Bool))(k_0:Nat)(s_0:List Deed×Int×Int):(Int×List Deed)⊕(List Deed×Int×Int):=(bif(decide (s_0.2.2< (s_0.1.length:Int)))then(bif(!(aL (s_0.1.getD (Int.toNat s_0.2.2) (default:Deed)) known hour void_))then .inr ((s_0.1.set (Int.toNat s_0.2.1) (s_0.1.getD (Int.toNat s_0.2.2) (default:Deed))),(IntKind.i64.wrap (s_0.2.1+1)),(IntKind.i64.wrap (s_0.2.2+1)))else .inr (s_0.1,s_0.2.1,(IntKind.i64.wrap (s_0.2.2+1))))else .inl (s_0.2.1,s_0.1))
def bt (l_:List Deed)(known:Int)(hour:Int)(void_:List (Int×Bool))(k_0:Nat)(s_0:List Deed×Int×Int):Prop:=(s_0.1.length≤ce→((decide (s_0.2.2< (s_0.1.length:Int)))=true→((0≤s_0.2.2∧s_0.2.2< (s_0.1.length:Int))∧((!(aL (s_0.1.getD (Int.toNat s_0.2.2) (default:Deed)) known hour void_))=true→(0≤s_0.2.1∧s_0.2.1< (s_0.1.length:Int))))))
def aN (l_:List Deed)(known:Int)(hour:Int)(void_:List (Int×Bool)):List Deed:=(bif((ah l_ known hour void_) ==(-1))then l_ else(match ay (aH l_ known hour void_) (l_.length+1) 0 (l_,(ah l_ known hour void_),(IntKind.i64.wrap ((ah l_ known hour void_)+1)))with| .inl x_0_0=>(((sG .deed x_0_0.2 x_0_0.1 (x_0_0.2.length:Int)).take (Int.toNat x_0_0.1)).drop 0) | .inr s_0=>default))
def aR (l_:List Deed)(known:Int)(hour:Int)(void_:List (Int×Bool)):Prop:=(((ah l_ known hour void_) ==(-1))=false→(okI (aH l_ known hour void_) (bt l_ known hour void_) (l_.length+1) 0 (l_,(ah l_ known hour void_),(IntKind.i64.wrap ((ah l_ known hour void_)+1)))∧(∀ z_,ay (aH l_ known hour void_) (l_.length+1) 0 (l_,(ah l_ known hour void_),(IntKind.i64.wrap ((ah l_ known hour void_)+1)))≠ .inr z_)∧(∀ x_0_0,ay (aH l_ known hour void_) (l_.length+1) 0 (l_,(ah l_ known hour void_),(IntKind.i64.wrap ((ah l_ known hour void_)+1)))=.inl x_0_0→((0≤x_0_0.1∧x_0_0.1≤(x_0_0.2.length:Int))∧(0≤0∧0≤x_0_0.1∧x_0_0.1≤((sG .deed x_0_0.2 x_0_0.1 (x_0_0.2.length:Int)).length:Int))))))
noncomputable def c5:List SV→List Ob→Option HCon:=eX (fun x_:(List Deed)×Int×Int×(List (Int×Bool)) =>[.os 0,.fn 76 [] [.ptr 1 0,.ptr 2 0,.ptr 3 0]]) (fun x_=>[.row .deed x_.1,.cells [.v (.int .i64 x_.2.1)],.cells [.v (.int .i64 x_.2.2.1)],.cells [.os 4],.mp .int .bool x_.2.2.2 none]) (fun x_=>dN (aR x_.1 x_.2.1 x_.2.2.1 x_.2.2.2) (.os 5) [.dead,.cells [.v (.int .i64 x_.2.1)],.cells [.v (.int .i64 x_.2.2.1)],.cells [.os 4],.mp .int .bool x_.2.2.2 none,.row .deed (aN x_.1 x_.2.1 x_.2.2.1 x_.2.2.2)])
@[go_sem] theorem mO (l_:List Deed)(known:Int)(hour:Int)(void_:List (Int×Bool)){p4_:Option (Nat×Option Tag.int.T)}(hp4_:p4_=none):c5 ([.os 0,.fn (76:Nat) [] [.ptr 1 0,.ptr 2 0,.ptr 3 0]]) ([.row .deed l_,.cells [.v (.int .i64 known)],.cells [.v (.int .i64 hour)],.cells [.os 4],.mp .int .bool void_ p4_])=some (dN (aR l_ known hour void_) (.os 5) [.dead,.cells [.v (.int .i64 known)],.cells [.v (.int .i64 hour)],.cells [.os 4],.mp .int .bool void_ none,.row .deed (aN l_ known hour void_)]):=by
 subst hp4_;exact dH (A:=fun x_:(List Deed)×Int×Int×(List (Int×Bool)) =>[.os 0,.fn 76 [] [.ptr 1 0,.ptr 2 0,.ptr 3 0]]) (H:=fun x_=>[.row .deed x_.1,.cells [.v (.int .i64 x_.2.1)],.cells [.v (.int .i64 x_.2.2.1)],.cells [.os 4],.mp .int .bool x_.2.2.2 none]) (K:=fun x_=>dN (aR x_.1 x_.2.1 x_.2.2.1 x_.2.2.2) (.os 5) [.dead,.cells [.v (.int .i64 x_.2.1)],.cells [.v (.int .i64 x_.2.2.1)],.cells [.os 4],.mp .int .bool x_.2.2.2 none,.row .deed (aN x_.1 x_.2.1 x_.2.2.1 x_.2.2.2)]) (x:=(l_,known,hour,void_))
theorem ga:FnOkO Tryz.prog 75 (c5):=by
 have hG:ConsOk Tryz.prog (mkG [(65,fun l=>cX (dF [.sl .deed,.o] l)),(76,fun l=>fO (dF [.st .deed,.o,.o,.o] l))] []):=aP (cgc (f_.norm [.sl .deed,.o]) (cgc (iG.norm [.st .deed,.o,.o,.o]) cg0)) cg0
 refine eE mixed aD hG (fn:=Tryz.f75) (c:=ae Tryz.f75) (by kernel_rfl) (by kernel_rfl) (by kernel_rfl) (by kernel_rfl) fun l o con h=>?_
 obtain⟨⟨l_,known,hour,void_⟩,rfl,rfl,rfl⟩:=cL h
 clear h
 try dsimp only
 refine⟨_,_,_,rfl,fun hp=>?_⟩
 unfold aR at hp
 refine⟨Nat.le_of_ble_eq_true rfl,(fun id st=>bif Nat.beq id 0 then some (LCV (ρ:=(Int×List Deed)) (σ:=(List Deed×Int×Int)) 5 [] [0,1,2,3,4] (fun k_0 s_0=>⟨[(0,.os 0),(1,.fn 76 [] [.ptr 1 0,.ptr 2 0,.ptr 3 0]),(5,.v (.int .i64 s_0.2.1)),(6,.v (.int .i64 s_0.2.2))],[.row .deed s_0.1,.cells [.v (.int .i64 known)],.cells [.v (.int .i64 hour)],.cells [.os 4],.mp .int .bool void_ none]⟩) (aH l_ known hour void_) (bt l_ known hour void_) (l_.length+1) (l_,(ah l_ known hour void_),(IntKind.i64.wrap ((ah l_ known hour void_)+1))) (fun _=>.normal) (fun x_0_0=>⟨[(0,.os 0),(5,.v (.int .i64 x_0_0.1))],[.row .deed x_0_0.2,.cells [.v (.int .i64 known)],.cells [.v (.int .i64 hour)],.cells [.os 4],.mp .int .bool void_ none]⟩) st)else none),?_,?_⟩
 ·unfold ae Tryz.f75
  simp only[aq,true_and,and_true,and_assoc]
  ·refine eW mixed aD hG (by kernel_rfl) (fun _=>rfl) fun k_0 s_0 hq0=>⟨L0,al _,?_⟩
   ·unfold bt at hq0
    exact Ev
 ·unfold ae Tryz.f75
  try unfold aN
  simp only[go_sem,Nat.reduceBEq,Nat.reduceLeDiff,Nat.reduceLT,decide_true,Nat.reduceAdd,Nat.reduceSub,Nat.reduceMul,Int.reduceLE,Int.reduceLT,Int.reduceToNat,Int.reduceNeg,reduceCtorEq,cX]
  all_goals exact Eu
end Go.Sx
end
section
namespace Go.Sx
open Go.Proofs
set_option maxRecDepth 100000
set_option linter.unusedSimpArgs false
theorem gb {p:Prop}(h:p:=by simp only[go_sem,Nat.reduceBEq,Nat.reduceLeDiff,Nat.reduceLT,decide_true,Nat.reduceAdd,Nat.reduceSub,Nat.reduceMul,Int.reduceLE,Int.reduceLT,Int.reduceToNat,Int.reduceNeg,reduceCtorEq];all_goals exact fH):p:=h
@[go_sem] def aF (a:Int)(l_:List Deed)(k_1:Nat)(s_1:List Deed×Int):(List Deed)⊕(List Deed×Int):=(bif((decide (s_1.2 > a))&&(decide ((cp (s_1.1.getD (Int.toNat s_1.2) (default:Deed)) (s_1.1.getD (Int.toNat (IntKind.i64.wrap (s_1.2 - 1))) (default:Deed))) <0)))then .inr (((s_1.1.set (Int.toNat s_1.2) (s_1.1.getD (Int.toNat (IntKind.i64.wrap (s_1.2 - 1))) (default:Deed))).set (Int.toNat (IntKind.i64.wrap (s_1.2 - 1))) (s_1.1.getD (Int.toNat s_1.2) (default:Deed))),(IntKind.i64.wrap (s_1.2 - 1)))else .inl s_1.1)
def aU (a:Int)(l_:List Deed)(k_1:Nat)(s_1:List Deed×Int):Prop:=(((decide (s_1.2 > a))=true→(0≤s_1.2∧s_1.2< (s_1.1.length:Int)))∧(((decide (s_1.2 > a))=true→(0≤(IntKind.i64.wrap (s_1.2 - 1))∧(IntKind.i64.wrap (s_1.2 - 1)) < (s_1.1.length:Int)))∧(((decide (s_1.2 > a))&&(decide ((cp (s_1.1.getD (Int.toNat s_1.2) (default:Deed)) (s_1.1.getD (Int.toNat (IntKind.i64.wrap (s_1.2 - 1))) (default:Deed))) <0)))=true→((0≤(IntKind.i64.wrap (s_1.2 - 1))∧(IntKind.i64.wrap (s_1.2 - 1)) < (s_1.1.length:Int))∧((0≤s_1.2∧s_1.2< (s_1.1.length:Int))∧((0≤s_1.2∧s_1.2< (s_1.1.length:Int))∧(0≤(IntKind.i64.wrap (s_1.2 - 1))∧(IntKind.i64.wrap (s_1.2 - 1)) < ((s_1.1.set (Int.toNat s_1.2) (s_1.1.getD (Int.toNat (IntKind.i64.wrap (s_1.2 - 1))) (default:Deed))).length:Int))))))))
@[go_sem] def ax (a:Int)(b:Int)(l_:List Deed)(k_0:Nat)(s_0:List Deed×Int):(List Deed)⊕(List Deed×Int):=(bif(decide (s_0.2<b))then(match ay (aF a l_) (l_.length+1) 0 (s_0.1,s_0.2)with| .inl x_1_0=>.inr (x_1_0,(IntKind.i64.wrap (s_0.2+1))) | .inr s_1=>.inr default)else .inl s_0.1)
def aK (a:Int)(b:Int)(l_:List Deed)(k_0:Nat)(s_0:List Deed×Int):Prop:=((decide (s_0.2<b))=true→(okI (aF a l_) (aU a l_) (l_.length+1) 0 (s_0.1,s_0.2)∧(∀ z_,ay (aF a l_) (l_.length+1) 0 (s_0.1,s_0.2)≠ .inr z_)))
def ap (a:Int)(b:Int)(l_:List Deed):List Deed:=(match ay (ax a b l_) (l_.length+1) 0 (l_,(IntKind.i64.wrap (a+1)))with| .inl x_0_0=>x_0_0| .inr s_0=>default)
def aI (a:Int)(b:Int)(l_:List Deed):Prop:=(okI (ax a b l_) (aK a b l_) (l_.length+1) 0 (l_,(IntKind.i64.wrap (a+1)))∧(∀ z_,ay (ax a b l_) (l_.length+1) 0 (l_,(IntKind.i64.wrap (a+1)))≠ .inr z_))
noncomputable def cN:List SV→List Ob→Option HCon:=eX (fun x_:Int×Int×(List Deed) =>[.os 0,.v (.int .i64 x_.1),.v (.int .i64 x_.2.1),.fn 78 [] []]) (fun x_=>[.row .deed x_.2.2]) (fun x_=>dN (aI x_.1 x_.2.1 x_.2.2) (.tup []) [.row .deed (ap x_.1 x_.2.1 x_.2.2)])
@[go_sem] theorem mM (a:Int)(b:Int)(l_:List Deed):cN ([.os 0,.v (.int .i64 a),.v (.int .i64 b),.fn 78 [] []]) ([.row .deed l_])=some (dN (aI a b l_) (.tup []) [.row .deed (ap a b l_)]):=dH (A:=fun x_:Int×Int×(List Deed) =>[.os 0,.v (.int .i64 x_.1),.v (.int .i64 x_.2.1),.fn 78 [] []]) (H:=fun x_=>[.row .deed x_.2.2]) (K:=fun x_=>dN (aI x_.1 x_.2.1 x_.2.2) (.tup []) [.row .deed (ap x_.1 x_.2.1 x_.2.2)]) (x:=(a,b,l_))
theorem fT:FnOkO Tryz.prog 134 (cN):=by
 have hG:ConsOk Tryz.prog (mkG [(78,fun l=>fP (dF [.st .deed,.st .deed] l))] []):=aP (cgc (iH.norm [.st .deed,.st .deed]) cg0) cg0
 refine eE mixed aD hG (fn:=Tryz.f134) (c:=ae Tryz.f134) (by kernel_rfl) (by kernel_rfl) (by kernel_rfl) (by kernel_rfl) fun l o con h=>?_
 obtain⟨⟨a,b,l_⟩,rfl,rfl,rfl⟩:=cL h
 clear h
 try dsimp only
 refine⟨_,_,_,rfl,fun hp=>?_⟩
 unfold aI at hp
 refine⟨Nat.le_of_ble_eq_true rfl,(fun id st=>bif Nat.beq id 0 then some (LCV (ρ:=(List Deed)) (σ:=(List Deed×Int)) 1 [] [0] (fun k_0 s_0=>⟨[(0,.os 0),(1,.v (.int .i64 a)),(2,.v (.int .i64 b)),(3,.fn 78 [] []),(8,.v (.int .i64 s_0.2))],[.row .deed s_0.1]⟩) (ax a b l_) (aK a b l_) (l_.length+1) (l_,(IntKind.i64.wrap (a+1))) (fun _=>.normal) (fun x_0_0=>⟨[],[.row .deed x_0_0]⟩) st)else none),?_,?_⟩
 ·unfold ae Tryz.f134
  simp only[aq,true_and,and_true,and_assoc]
  ·refine eW mixed aD hG (by kernel_rfl) (fun _=>rfl) fun k_0 s_0 hq0=>⟨(fun id st=>bif Nat.beq id 2 then some (LCV (ρ:=(List Deed)) (σ:=(List Deed×Int)) 1 [] [0] (fun k_1 s_1=>⟨[(0,.os 0),(1,.v (.int .i64 a)),(2,.v (.int .i64 b)),(3,.fn 78 [] []),(8,.v (.int .i64 s_0.2)),(9,.v (.int .i64 s_1.2))],[.row .deed s_1.1]⟩) (aF a l_) (aU a l_) (l_.length+1) (s_0.1,s_0.2) (fun _=>.normal) (fun x_1_0=>⟨[(0,.os 0),(1,.v (.int .i64 a)),(2,.v (.int .i64 b)),(3,.fn 78 [] []),(8,.v (.int .i64 s_0.2))],[.row .deed x_1_0]⟩) st)else none),?_,?_⟩
   ·simp only[aq,true_and,and_true]
    ·refine eW mixed aD hG (by kernel_rfl) (fun _=>rfl) fun k_1 s_1 hq1=>⟨L0,al _,?_⟩
     ·unfold aU at hq1
      exact gb
   ·unfold aK at hq0
    exact gb
 ·unfold ae Tryz.f134
  try unfold ap
  simp only[go_sem,Nat.reduceBEq,Nat.reduceLeDiff,Nat.reduceLT,decide_true,Nat.reduceAdd,Nat.reduceSub,Nat.reduceMul,Int.reduceLE,Int.reduceLT,Int.reduceToNat,Int.reduceNeg,reduceCtorEq]
  all_goals exact fH
@[go_sem] def bo (a:Int)(b:Int)(n:Int)(k_0:Nat)(s_0:List Deed):Empty⊕(List Deed):=.inr ((s_0.set (Int.toNat (IntKind.i64.wrap (a+(k_0:Int)))) (s_0.getD (Int.toNat (IntKind.i64.wrap (b+(k_0:Int)))) (default:Deed))).set (Int.toNat (IntKind.i64.wrap (b+(k_0:Int)))) (s_0.getD (Int.toNat (IntKind.i64.wrap (a+(k_0:Int)))) (default:Deed)))
def bL (a:Int)(b:Int)(n:Int)(k_0:Nat)(s_0:List Deed):Prop:=((0≤(IntKind.i64.wrap (b+(k_0:Int)))∧(IntKind.i64.wrap (b+(k_0:Int))) < (s_0.length:Int))∧((0≤(IntKind.i64.wrap (a+(k_0:Int)))∧(IntKind.i64.wrap (a+(k_0:Int))) < (s_0.length:Int))∧((0≤(IntKind.i64.wrap (a+(k_0:Int)))∧(IntKind.i64.wrap (a+(k_0:Int))) < (s_0.length:Int))∧(0≤(IntKind.i64.wrap (b+(k_0:Int)))∧(IntKind.i64.wrap (b+(k_0:Int))) < ((s_0.set (Int.toNat (IntKind.i64.wrap (a+(k_0:Int)))) (s_0.getD (Int.toNat (IntKind.i64.wrap (b+(k_0:Int)))) (default:Deed))).length:Int)))))
def aM (a:Int)(b:Int)(n:Int)(l_:List Deed):List Deed:=(match ay (bo a b n) (Int.toNat n) 0 l_ with| .inl x=>x.elim| .inr s_0=>s_0)
def aJ (a:Int)(b:Int)(n:Int)(l_:List Deed):Prop:=((n<9223372036854775808)∧okI (bo a b n) (bL a b n) (Int.toNat n) 0 l_)
noncomputable def dl:List SV→List Ob→Option HCon:=eX (fun x_:Int×Int×Int×(List Deed) =>[.os 0,.v (.int .i64 x_.1),.v (.int .i64 x_.2.1),.v (.int .i64 x_.2.2.1),.fn 78 [] []]) (fun x_=>[.row .deed x_.2.2.2]) (fun x_=>dN (aJ x_.1 x_.2.1 x_.2.2.1 x_.2.2.2) (.tup []) [.row .deed (aM x_.1 x_.2.1 x_.2.2.1 x_.2.2.2)])
@[go_sem] theorem nU (a:Int)(b:Int)(n:Int)(l_:List Deed):dl ([.os 0,.v (.int .i64 a),.v (.int .i64 b),.v (.int .i64 n),.fn 78 [] []]) ([.row .deed l_])=some (dN (aJ a b n l_) (.tup []) [.row .deed (aM a b n l_)]):=dH (A:=fun x_:Int×Int×Int×(List Deed) =>[.os 0,.v (.int .i64 x_.1),.v (.int .i64 x_.2.1),.v (.int .i64 x_.2.2.1),.fn 78 [] []]) (H:=fun x_=>[.row .deed x_.2.2.2]) (K:=fun x_=>dN (aJ x_.1 x_.2.1 x_.2.2.1 x_.2.2.2) (.tup []) [.row .deed (aM x_.1 x_.2.1 x_.2.2.1 x_.2.2.2)]) (x:=(a,b,n,l_))
theorem gX:FnOkO Tryz.prog 153 (dl):=by
 have hG:ConsOk Tryz.prog (mkG [] []):=aP cg0 cg0
 refine eE mixed aD hG (fn:=Tryz.f153) (c:=ae Tryz.f153) (by kernel_rfl) (by kernel_rfl) (by kernel_rfl) (by kernel_rfl) fun l o con h=>?_
 obtain⟨⟨a,b,n,l_⟩,rfl,rfl,rfl⟩:=cL h
 clear h
 try dsimp only
 refine⟨_,_,_,rfl,fun hp=>?_⟩
 unfold aJ at hp
 refine⟨Nat.le_of_ble_eq_true rfl,(fun id st=>bif Nat.beq id 0 then some (LCR (ρ:=Empty) (σ:=(List Deed)) 1 [] [0] (fun k_0 s_0=>⟨[(0,.os 0),(1,.v (.int .i64 a)),(2,.v (.int .i64 b)),(3,.v (.int .i64 n)),(10,.v (.int .i64 (k_0:Int)))],[.row .deed s_0]⟩) (bo a b n) (bL a b n) (Int.toNat n) l_ (n<9223372036854775808) ((·.elim)) ((·.elim)) st)else none),?_,?_⟩
 ·unfold ae Tryz.f153
  simp only[aq,true_and,and_true,and_assoc]
  ·refine d6 mixed aD hG (by kernel_rfl) (fun _=>rfl) n rfl id (fun hb0 k_0 s_0 hlt0 hq0 hw hc=>⟨L0,al _,?_⟩) (fun hb0 s_0 hc=>?_)
   ·unfold bL at hq0
    try simp only[hw,Int.toNat_natCast]at hq0
    exact kF
   ·exact kG
 ·unfold ae Tryz.f153
  try unfold aM
  simp only[go_sem,Nat.reduceBEq,Nat.reduceLeDiff,Nat.reduceLT,decide_true,Nat.reduceAdd,Nat.reduceSub,Nat.reduceMul,Int.reduceLE,Int.reduceLT,Int.reduceToNat,Int.reduceNeg,reduceCtorEq]
  all_goals exact fH
@[go_sem] def aX (a:Int)(m:Int)(b:Int)(k_0:Nat)(s_0:List Deed×Int×Int):(Int×List Deed)⊕(List Deed×Int×Int):=(bif(s_0.2.1 !=s_0.2.2)then(bif(decide (s_0.2.1 > s_0.2.2))then .inr ((aM (IntKind.i64.wrap (m - s_0.2.1)) m s_0.2.2 s_0.1),(IntKind.i64.wrap (s_0.2.1 - s_0.2.2)),s_0.2.2)else .inr ((aM (IntKind.i64.wrap (m - s_0.2.1)) (IntKind.i64.wrap ((IntKind.i64.wrap (m+s_0.2.2)) - s_0.2.1)) s_0.2.1 s_0.1),s_0.2.1,(IntKind.i64.wrap (s_0.2.2 - s_0.2.1))))else .inl (s_0.2.1,s_0.1))
def bX (a:Int)(m:Int)(b:Int)(k_0:Nat)(s_0:List Deed×Int×Int):Prop:=((s_0.2.1 !=s_0.2.2)=true→(((decide (s_0.2.1 > s_0.2.2))=true→(aJ (IntKind.i64.wrap (m - s_0.2.1)) m s_0.2.2 s_0.1))∧((decide (s_0.2.1 > s_0.2.2))=false→(aJ (IntKind.i64.wrap (m - s_0.2.1)) (IntKind.i64.wrap ((IntKind.i64.wrap (m+s_0.2.2)) - s_0.2.1)) s_0.2.1 s_0.1))))
def am (a:Int)(m:Int)(b:Int)(l_:List Deed):List Deed:=(match ay (aX a m b) (Int.toNat (b - a)+1) 0 (l_,(IntKind.i64.wrap (m - a)),(IntKind.i64.wrap (b - m)))with| .inl x_0_0=>(aM (IntKind.i64.wrap (m - x_0_0.1)) m x_0_0.1 x_0_0.2) | .inr s_0=>default)
def a_ (a:Int)(m:Int)(b:Int)(l_:List Deed):Prop:=(okI (aX a m b) (bX a m b) (Int.toNat (b - a)+1) 0 (l_,(IntKind.i64.wrap (m - a)),(IntKind.i64.wrap (b - m)))∧(∀ z_,ay (aX a m b) (Int.toNat (b - a)+1) 0 (l_,(IntKind.i64.wrap (m - a)),(IntKind.i64.wrap (b - m)))≠ .inr z_)∧(∀ x_0_0,ay (aX a m b) (Int.toNat (b - a)+1) 0 (l_,(IntKind.i64.wrap (m - a)),(IntKind.i64.wrap (b - m)))=.inl x_0_0→(aJ (IntKind.i64.wrap (m - x_0_0.1)) m x_0_0.1 x_0_0.2)))
noncomputable def dC:List SV→List Ob→Option HCon:=eX (fun x_:Int×Int×Int×(List Deed) =>[.os 0,.v (.int .i64 x_.1),.v (.int .i64 x_.2.1),.v (.int .i64 x_.2.2.1),.fn 78 [] []]) (fun x_=>[.row .deed x_.2.2.2]) (fun x_=>dN (a_ x_.1 x_.2.1 x_.2.2.1 x_.2.2.2) (.tup []) [.row .deed (am x_.1 x_.2.1 x_.2.2.1 x_.2.2.2)])
@[go_sem] theorem oZ (a:Int)(m:Int)(b:Int)(l_:List Deed):dC ([.os 0,.v (.int .i64 a),.v (.int .i64 m),.v (.int .i64 b),.fn 78 [] []]) ([.row .deed l_])=some (dN (a_ a m b l_) (.tup []) [.row .deed (am a m b l_)]):=dH (A:=fun x_:Int×Int×Int×(List Deed) =>[.os 0,.v (.int .i64 x_.1),.v (.int .i64 x_.2.1),.v (.int .i64 x_.2.2.1),.fn 78 [] []]) (H:=fun x_=>[.row .deed x_.2.2.2]) (K:=fun x_=>dN (a_ x_.1 x_.2.1 x_.2.2.1 x_.2.2.2) (.tup []) [.row .deed (am x_.1 x_.2.1 x_.2.2.1 x_.2.2.2)]) (x:=(a,m,b,l_))
theorem iI:FnOkO Tryz.prog 148 (dC):=by
 have hG:ConsOk Tryz.prog (mkG [] [(153,dl)]):=aP cg0 (cgc gX cg0)
 refine eE mixed aD hG (fn:=Tryz.f148) (c:=ae Tryz.f148) (by kernel_rfl) (by kernel_rfl) (by kernel_rfl) (by kernel_rfl) fun l o con h=>?_
 obtain⟨⟨a,m,b,l_⟩,rfl,rfl,rfl⟩:=cL h
 clear h
 try dsimp only
 refine⟨_,_,_,rfl,fun hp=>?_⟩
 unfold a_ at hp
 refine⟨Nat.le_of_ble_eq_true rfl,(fun id st=>bif Nat.beq id 0 then some (LCV (ρ:=(Int×List Deed)) (σ:=(List Deed×Int×Int)) 1 [] [0] (fun k_0 s_0=>⟨[(0,.os 0),(2,.v (.int .i64 m)),(4,.fn 78 [] []),(10,.v (.int .i64 s_0.2.1)),(11,.v (.int .i64 s_0.2.2))],[.row .deed s_0.1]⟩) (aX a m b) (bX a m b) (Int.toNat (b - a)+1) (l_,(IntKind.i64.wrap (m - a)),(IntKind.i64.wrap (b - m))) (fun _=>.normal) (fun x_0_0=>⟨[(0,.os 0),(2,.v (.int .i64 m)),(4,.fn 78 [] []),(10,.v (.int .i64 x_0_0.1))],[.row .deed x_0_0.2]⟩) st)else none),?_,?_⟩
 ·unfold ae Tryz.f148
  simp only[aq,true_and,and_true,and_assoc]
  ·refine eW mixed aD hG (by kernel_rfl) (fun _=>rfl) fun k_0 s_0 hq0=>⟨L0,al _,?_⟩
   ·unfold bX at hq0
    exact gb
 ·unfold ae Tryz.f148
  try unfold am
  simp only[go_sem,Nat.reduceBEq,Nat.reduceLeDiff,Nat.reduceLT,decide_true,Nat.reduceAdd,Nat.reduceSub,Nat.reduceMul,Int.reduceLE,Int.reduceLT,Int.reduceToNat,Int.reduceNeg,reduceCtorEq]
  all_goals exact fH
end Go.Sx
end
