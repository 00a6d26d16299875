/- Part of the proof that the law ClaimsSpec returns true and leaves its arguments as they were, for all arguments of bulk at most 1048576 (the Upto form). -/
import Derived.Test.YtgdkdhdlfdcefaaGreatC108
import Derived.Test.YtgdkdhdlfdcefaaGreatC107
import Derived.Sort.Statements
import Derived.Shelf.SlSortCmp.Insertion
import Derived.Test.YtgdkdhdlfdcefaaGreatC109
set_option linter.all false
set_option maxHeartbeats 4000000
set_option maxRecDepth 100000
section
namespace Go.Sx
open Go.RowKit
open IntKind (i64)
abbrev RF:= { r:Nat→Res // ∀ k,(r k).n=k}
def JD (items:List (List SV))(r:RF):List SV→Res→Option YCon:=itY items r.1
@[go_sem] theorem Yb {items:List (List SV)}{r:RF}{k:Nat}{args:List SV}:JD items r args (r.1 (k+1))=some (EI (items[k]? =some args) r.1 (k+2)):=GU r.2 k args
section
variable {ρ σ:Type}
def lcy (pre:Prop)(run:ρ⊕σ)(exE:ρ→Ex)(outE:ρ→St)(outN:σ→St)(stp:St):LCon where
 α:=Option (ρ⊕σ)
 pre:=pre
 post:=fun|none=>True|some r=>r=run
 ex:=fun|none=>.ret|some (.inl x) =>exE x|some (.inr _) =>.normal
 out:=fun|none=>stp|some (.inl x) =>outE x|some (.inr s) =>outN s
def LCY (m:Nat)(ns:List NLoc)(js:List Nat)(D:Nat→σ→St)(step:Nat→σ→ρ⊕σ)(p:Nat→σ→Prop)(n:Nat)(s0:σ)(B:Prop)(exE:ρ→Ex)(outE:ρ→St)(stp:St)(st:St):LCon:=
 lcy (qS m ns js st (D 0 s0)∧B∧okI step p n 0 s0) (am step n 0 s0) exE outE (D n) stp
variable {m:Nat}{ns:List NLoc}{js:List Nat}{step:Nat→σ→ρ⊕σ}{p:Nat→σ→Prop}{n:Nat}{s0:σ}{B:Prop}{exE:ρ→Ex}{outE:ρ→St}{stp st:St}{Q:Ex→St→Prop}{D:Nat→σ→St}
theorem JE {pre:Prop}{run:ρ⊕σ}{outN:σ→St}:oE Q (some (lcy pre run exE outE outN stp))=(pre∧(∀ x,run=.inl x→Q (exE x) (outE x))∧(∀ s,run=.inr s→Q .normal (outN s))∧Q .ret stp):=by
 apply propext;constructor
 ·rintro⟨h1,h2⟩;exact⟨h1,fun x hx=>h2 (some (.inl x)) hx.symm,fun s hs=>h2 (some (.inr s)) hs.symm,h2 none trivial⟩
 ·rintro⟨h1,h2,h3,h4⟩;refine⟨h1,fun r hr=>?_⟩;match r,hr with
  |none,_=>exact h4
  |some (.inl x),hr=>exact h2 x hr.symm
  |some (.inr s),hr=>exact h3 s hr.symm
@[go_sem] theorem Uy:oE Q (some (LCY m ns js D step p n s0 B exE outE stp st))=((qS m ns js st (D 0 s0)∧B∧okI step p n 0 s0)∧(∀ x,am step n 0 s0=.inl x→Q (exE x) (outE x))∧(∀ s,am step n 0 s0=.inr s→Q .normal (D n s))∧Q .ret stp):=JE
def cY (step:Nat→σ→ρ⊕σ)(exE:ρ→Ex)(outE:ρ→St)(D:Nat→σ→St)(stp:St)(m id k:Nat)(s:σ):Ex→St→Prop
 | .normal,st=>qj D m k st (step k s)
 | .exit j,st=>li exE outE m (bif Nat.beq j id then .normal else .exit j) st (step k s)
 | .ret,st=>li exE outE m .ret st (step k s)∨g5 stp m st
 | .pan x,st=>li exE outE m (.pan x) st (step k s)
variable {id k j:Nat}{s:σ}{x:Value}{e e':Ex}
@[go_sem] theorem Uz:cY step exE outE D stp m id k s .normal st=qj D m k st (step k s):=(rfl)
@[go_sem] theorem Yc:cY step exE outE D stp m id k s (.exit j) st=li exE outE m (bif Nat.beq j id then .normal else .exit j) st (step k s):=(rfl)
@[go_sem] theorem Y5:cY step exE outE D stp m id k s .ret st=(li exE outE m .ret st (step k s)∨g5 stp m st):=(rfl)
@[go_sem] theorem Y6:cY step exE outE D stp m id k s (.pan x) st=li exE outE m (.pan x) st (step k s):=(rfl)
@[congr] theorem Wr {st':St}(h:st=st')(he:e=e'):cY step exE outE D stp m id k s e st=cY step exE outE D stp m id k s e' st':=by rw[h,he]
end
section
variable {P:Program}{ρ σ:Type}{ts:Tis}{G:Cons}{ro:Option Nat}{N:Nat}{id:Nat}{c:Code}{C:St→Option LCon}{m:Nat}{ns:List NLoc}{js:List Nat}{step:Nat→σ→ρ⊕σ}{p:Nat→σ→Prop}{n:Nat}{s0:σ}{exE:ρ→Ex}{outE:ρ→St}{D:Nat→σ→St}{stp:St}
theorem R8 {n0:Nat}(hn0:n0=m){s:σ}{k:Nat}(hlt:k<n){I:Nat×σ→Prop}{μ:Nat×σ→Nat}{outN:σ→St}{pre:Prop}{run:ρ⊕σ}
  (hI:∀ s',step k s=.inr s'→I (k+1,s')∧μ (k+1,s') <μ (k,s)) (hx:∀ x,step k s=.inl x→run=.inl x):
  ∀ e st',cY step exE outE D stp m id k s e st'→qK (fun x:Nat×σ=>D x.1 x.2) I μ n0 (k,s) id (fun e st'=>∃ r js,(lcy pre run exE outE outN stp).post r∧(lcy pre run exE outE outN stp).ex r=e∧n0≤((lcy pre run exE outE outN stp).out r).h.length∧Sub js n0 st' ((lcy pre run exE outE outN stp).out r)) e st':=by
 subst hn0;have hfin:∀ e st',li exE outE n0 e st' (step k s)→∃ r js,(lcy pre run exE outE outN stp).post r∧(lcy pre run exE outE outN stp).ex r=e∧n0≤((lcy pre run exE outE outN stp).out r).h.length∧Sub js n0 st' ((lcy pre run exE outE outN stp).out r):=by
  intro e st' q;cases hs:step k s with
  |inr s'=>rw[hs]at q;exact q.elim
  |inl x=>
   rw[hs]at q;obtain⟨q2,js,q3,q4⟩:=q;exact⟨some (.inl x),js,(hx x hs).symm,q2,q3,q4⟩
 intro e st' hq;cases e with
 |normal=>
  change qj D n0 k st' (step k s)at hq;cases hs:step k s with
  |inl x=>rw[hs]at hq;exact hq.elim
  |inr s'=>
   rw[hs]at hq;obtain⟨js,q3,q4⟩:=hq;obtain⟨i1,i2⟩:=hI s' hs;exact⟨(k+1,s'),js,i1,i2,q3,q4⟩
 |exit j=>
  change li exE outE n0 (bif Nat.beq j id then .normal else .exit j) st' (step k s)at hq;show bif Nat.beq j id then _ else _;cases hb:Nat.beq j id with
  |true=>rw[hb]at hq;exact hfin _ _ hq
  |false=>rw[hb]at hq;exact hfin _ _ hq
 |ret=>
  rcases hq with hq|hq
  ·exact hfin _ _ hq
  ·obtain⟨js,q3,q4⟩:=hq;exact⟨none,js,trivial,rfl,q3,q4⟩
 |pan x=>exact hfin _ _ hq
theorem EV {B:Prop}(hm:P.follows .mixedOrders=true)(hts:ts.ok P)(hG:ConsOk P G)(hc:cq N c=true)(hC:∀ st,C st=some (LCY m ns js D step p n s0 B exE outE stp st))(M:Int)(hn:n=M.toNat)(hB:B→M<9223372036854775808)
  (h:B→∀ k s,k<n→p k s→i64.wrap ((k:Int)+1)=((k+1:Nat):Int)→decide ((k:Int) <M)=true→∃ L,al P ro N L c∧exec ts G L c (D k s) (cY step exE outE D stp m id k s))
  (h2:B→∀ s,decide ((n:Int) <M)=false→exec ts G L0 c (D n s) (cZ (D n s) m id)):jH P ro N id (.loop c) C:=by
 refine vL hm hts hG hc fun st lc hC' hp=>?_;rw[hC st]at hC';cases hC';obtain⟨⟨hlen,hok,hle,hsub⟩,hB',h1⟩:=hp;refine⟨Nat×σ,fun x=>D x.1 x.2,fun x=>x.1≤n∧okI step p (n - x.1) x.1 x.2∧am step (n - x.1) x.1 x.2=am step n 0 s0,fun x=>n - x.1,(0,s0),mkN ns st,js,⟨Nat.zero_le _,by simpa using h1,by simp⟩,uT ns st st (.refl _) hok,by rw[hlen];exact hle,by rw[hlen];exact hsub,?_⟩;rintro⟨k,s⟩ ⟨hk,hJ,hrun⟩;simp only at hk hJ hrun;rcases Nat.lt_or_ge k n with hlt|hge
 ·rw[show n - k=(n - k - 1)+1 by omega]at hrun hJ;obtain⟨L,hl,hex⟩:=h hB' k s hlt hJ.1 (Ln (hn▸hlt) (hB hB')) (decide_eq_true (by omega));have hI:∀ s',step k s=.inr s'→okI step p (n - (k+1)) (k+1) s'∧am step (n - (k+1)) (k+1) s'=am step n 0 s0:=fun s' hs=>by
   have:=hJ.2 s' hs;rw[show n - k - 1=n - (k+1) by omega]at this hrun;simp only[am,hs]at hrun;exact⟨this,hrun⟩
  have hx:∀ x,step k s=.inl x→am step n 0 s0=.inl x:=fun x hs=>by
   simp only[am,hs]at hrun;exact hrun.symm
  exact⟨L,_,hl,fun e st' q=>R8 hlen hlt (fun s' hs=>⟨⟨hlt,hI s' hs⟩,by simp only;omega⟩) hx e st' q,hex⟩
 ·have hkn:k=n:=by omega
  subst hkn;have hex:=h2 hB' s (by rw[decide_eq_false_iff_not];omega);refine⟨L0,_,ag c,fun e st' hq=>?_,hex⟩;simp only[Nat.sub_self,am]at hrun;cases e with
  |exit j=>
   change bif Nat.beq j id then g5 (D k s) m st' else False at hq;show bif Nat.beq j id then _ else _;cases hb:Nat.beq j id with
   |true=>
    rw[hb]at hq;obtain⟨js,q3,q4⟩:=hq;exact⟨some (.inr s),js,hrun,rfl,by rw[hlen];exact q3,by rw[hlen];exact q4⟩
   |false=>rw[hb]at hq;exact hq.elim
  |_=>exact hq.elim
end
def nr (n:Nat):List Ob:=List.replicate n .dead
def LY (items:List (List SV))(r:RF)(n:Nat):Ex→St→Prop
 | .normal,st=>g5 ⟨[],.ab (r.1 0)::nr n⟩ (n+1) ⟨[],st.h⟩∨g5 ⟨[],.ab (r.1 (items.length+1))::nr n⟩ (n+1) ⟨[],st.h⟩
 | .ret,st=>g5 ⟨[],.ab (r.1 0)::nr n⟩ (n+1) ⟨[],st.h⟩∨g5 ⟨[],.ab (r.1 (items.length+1))::nr n⟩ (n+1) ⟨[],st.h⟩
 |_,_=>False
section
variable {items:List (List SV)}{r:RF}{n:Nat}{st:St}{e e':Ex}
@[go_sem] theorem OU:LY items r n .normal st=(g5 ⟨[],.ab (r.1 0)::nr n⟩ (n+1) ⟨[],st.h⟩∨g5 ⟨[],.ab (r.1 (items.length+1))::nr n⟩ (n+1) ⟨[],st.h⟩):=(rfl)
@[go_sem] theorem UA:LY items r n .ret st=(g5 ⟨[],.ab (r.1 0)::nr n⟩ (n+1) ⟨[],st.h⟩∨g5 ⟨[],.ab (r.1 (items.length+1))::nr n⟩ (n+1) ⟨[],st.h⟩):=(rfl)
@[go_sem] theorem Yd:nr 0=[]:=(rfl)
@[go_sem] theorem Ye:nr 1=[.dead]:=(rfl)
@[go_sem] theorem Yf:nr 2=[.dead,.dead]:=(rfl)
@[go_sem] theorem Yg:nr 3=[.dead,.dead,.dead]:=(rfl)
@[go_sem] theorem Yh:nr 4=[.dead,.dead,.dead,.dead]:=(rfl)
end
theorem EW {js:List Nat}{n0:Nat}{h h':List Ob}(q:Sub js n0 ⟨[],h⟩ ⟨[],h'⟩):Sub js n0 ⟨[(0,.tup [])],h⟩ ⟨[(0,.tup [])],h'⟩:=by
 refine⟨q.1,?_,q.2.2⟩;simp only[I0,lk];exact⟨⟨rfl,rfl⟩,trivial⟩
open Classical in
theorem LZ {P:Program} {ts:Tis} {G:RF→Cons} (hm:P.follows .mixedOrders=true) (hts:ts.ok P) {f:FuncId} {fn:Func} {c:Code} (hf:P.funcs[f]? =some fn) (hb:fn.body=some c) (hname:(fn.name== "runtime.NumGoroutine")=false) (hc:cq fn.ntmps c=true) (hr:fn.results.toList=[])
  {items:List (List SV)} {mk:SV→List SV} {hs:List Ob} {n:Nat} (hn:hs.length=n)
  (h:∀ r:RF,YOk P (JD items r)→ConsOk P (G r)∧(mk (.os 0)).length≤fn.ntmps∧∃ L,al P none fn.ntmps L c∧exec ts (G r) L c ⟨kY 0 (mk (.os 0)),.ab (r.1 1)::hs⟩ (LY items r n))
  (he:∀ (args:Array Value) (w:World),(callFunc f args).run P w=.ok (.enter f args) w):Db P f mk hs items:=by
 refine Ll (fun r0 hr0 hy=>?_) he;obtain⟨hG,h1,L,h2,h3⟩:=h ⟨r0,hr0⟩ hy;refine⟨fun l o=>if l=mk (.os 0)∧o=.ab (r0 1)::hs then some { α:=Bool,pre:=True,post:=fun _=>True,res:=fun b=>.ret (.tup []) (.ab (r0 (if b then items.length+1 else 0))::nr n)}else none,?_,_,if_pos ⟨rfl,rfl⟩,trivial,fun b _=>⟨_,_,_,rfl,by cases b <;>simp⟩⟩;refine zF hm hts hG hf hb hname hc fun l o con hC _=>?_;split at hC
 rotate_left
 ·cases hC
 rename_i hlo;obtain⟨rfl,rfl⟩:=hlo;cases hC;refine⟨h1,L,_,h2,fun e st hq=>?_,h3⟩;have key:∀ st:St,(g5 ⟨[],.ab (r0 0)::nr n⟩ (n+1) ⟨[],st.h⟩∨g5 ⟨[],.ab (r0 (items.length+1))::nr n⟩ (n+1) ⟨[],st.h⟩)→vn (Ob.ab (r0 1)::hs).length { α:=Bool,pre:=True,post:=fun _=>True,res:=fun b=>.ret (.tup []) (.ab (r0 (if b then items.length+1 else 0))::nr n)} (n9 (lX ts st fn.results.toList)) st.h:=fun st q=>by
  rw[hr];show ∃ r s' h' js,_;rcases q with⟨js,q1,q2⟩ | ⟨js,q1,q2⟩
  ·exact⟨false,_,_,js,trivial,rfl,by rw[List.length_cons,hn];exact q1,by rw[List.length_cons,hn];exact EW q2⟩
  ·exact⟨true,_,_,js,trivial,rfl,by rw[List.length_cons,hn];exact q1,by rw[List.length_cons,hn];exact EW q2⟩
 cases e with
 |normal=>exact key st hq
 |ret=>exact key st hq
 |exit j=>exact hq.elim
 |pan x=>exact hq.elim
section
variable {ρ σ τ:Type}
theorem w7 {step:τ→σ→ρ⊕σ}:∀ {a b:List τ} {s s':σ},eu step a s=.inr s'→eu step (a++b) s=eu step b s'
 | [],_,_,_,h=>by simp only[eu,Sum.inr.injEq]at h;subst h;rfl
 |x::a,b,s,s',h=>by
  simp only[List.cons_append,eu]at h ⊢;cases hs:step x s with
  |inl y=>rw[hs]at h;cases h
  |inr s1=>rw[hs]at h;simp only at h ⊢;exact w7 h
theorem EX {step:τ→σ→ρ⊕σ}{p:τ→σ→Prop}:∀ {a b:List τ} {s s':σ},eu step a s=.inr s'→okL step p (a++b) s→okL step p b s'
 | [],_,_,_,h,hk=>by simp only[eu,Sum.inr.injEq]at h;subst h;exact hk
 |x::a,b,s,s',h,hk=>by
  simp only[List.cons_append,eu]at h hk;cases hs:step x s with
  |inl y=>rw[hs]at h;cases h
  |inr s1=>rw[hs]at h;exact EX h (hk.2 s1 hs)
def LCP (m:Nat)(ns:List NLoc)(js:List Nat)(D:List Nat→Option Nat→σ→St)(step:τ→σ→ρ⊕σ)(p:τ→σ→Prop)(l:List τ)(s0:σ)(exE:ρ→Ex)(outE:ρ→St)(outN:σ→St)(st:St):LCon where
 α:=ρ⊕σ
 pre:=qS m ns js st (D (List.range l.length) none s0)∧∀ L,L.Perm l→okL step p L s0
 post:=fun r=>∃ L,L.Perm l∧eu step L s0=r
 ex:=fun| .inl x=>exE x| .inr _=>.normal
 out:=fun| .inl x=>outE x| .inr s=>outN s
variable {m:Nat}{ns:List NLoc}{js:List Nat}{step:τ→σ→ρ⊕σ}{p:τ→σ→Prop}{l:List τ}{s0:σ}{exE:ρ→Ex}{outE:ρ→St}{outN:σ→St}{st:St}{Q:Ex→St→Prop}{D:List Nat→Option Nat→σ→St}
@[go_sem] theorem UB:oE Q (some (LCP m ns js D step p l s0 exE outE outN st))=((qS m ns js st (D (List.range l.length) none s0)∧∀ L,L.Perm l→okL step p L s0)∧∀ L,L.Perm l→(∀ x,eu step L s0=.inl x→Q (exE x) (outE x))∧∀ s,eu step L s0=.inr s→Q .normal (outN s)):=by
 apply propext;constructor
 ·rintro⟨h1,h2⟩;exact⟨h1,fun L hL=>⟨fun x hx=>h2 (.inl x) ⟨L,hL,hx⟩,fun s hs=>h2 (.inr s) ⟨L,hL,hs⟩⟩⟩
 ·rintro⟨h1,h2⟩;refine⟨h1,fun r ⟨L,hL,hr⟩ =>?_⟩;cases r with
  |inl x=>exact(h2 L hL).1 x hr
  |inr s=>exact(h2 L hL).2 s hr
variable {P:Program}{ts:Tis}{G:Cons}{ro:Option Nat}{N id:Nat}{c:Code}{C:St→Option LCon}
theorem L1 (d:τ)(it:Nat)(hm:P.follows .mixedOrders=true)(hts:ts.ok P)(hG:ConsOk P G)(hc:cq N c=true)(hC:∀ st,C st=some (LCP m ns js D step p l s0 exE outE outN st))
  (h:∀ left cur s,(∀ j,j∈left→j<l.length∧p (l.getD j d) s)→∃ L,al P ro N L c∧exec ts G L c (D left cur s) (cM step l d exE outE outN D m id it left s)):jH P ro N id (.loop c) C:=by
 refine vL hm hts hG hc fun st lc hC' hp=>?_;rw[hC st]at hC';cases hC';obtain⟨⟨hlen,hok,hle,hsub⟩,hO⟩:=hp;subst hlen;have hfix:∀ q:List Nat,q.Perm (List.range l.length)→(q.map fun j=>l.getD j d).Perm l:=fun q hq=>by
  have:=hq.map (fun j=>l.getD j d)
  rwa[zN]at this
 refine⟨List Nat×Option Nat×σ,fun x=>D x.1 x.2.1 x.2.2,fun x=>∃ q:List Nat,(q++x.1).Perm (List.range l.length)∧eu step (q.map fun j=>l.getD j d) s0=.inr x.2.2,fun x=>x.1.length,(List.range l.length,none,s0),mkN ns st,js,⟨[],.refl _,rfl⟩,uT ns st st (.refl _) hok,hle,hsub,?_⟩;rintro⟨left,cur,s⟩ ⟨q,hq,hrun⟩;simp only at hq hrun;have hmem:∀ j,j∈left→(q++j::left.erase j).Perm (List.range l.length):=fun j hj=>((List.perm_cons_erase hj).symm.append_left q).trans hq;have hp0:∀ j,j∈left→j<l.length∧p (l.getD j d) s:=fun j hj=>by
  refine⟨List.mem_range.1 (hq.mem_iff.1 (List.mem_append_right _ hj)),?_⟩;have:=hO _ (hfix _ (hmem j hj));rw[List.map_append]at this;exact(EX hrun this).1
 obtain⟨L,hl,hex⟩:=h left cur s hp0;refine⟨L,_,hl,?_,hex⟩;have hfin:∀ e st' o,exC step l d exE outE st.h.length left s e st' o→∃ r js,(LCP st.h.length ns js D step p l s0 exE outE outN st).post r∧(LCP st.h.length ns js D step p l s0 exE outE outN st).ex r=e∧st.h.length≤((LCP st.h.length ns js D step p l s0 exE outE outN st).out r).h.length∧Sub js st.h.length st' ((LCP st.h.length ns js D step p l s0 exE outE outN st).out r):=by
  intro e st' o z;cases o with
  |none=>exact z.elim
  |some j=>
   obtain⟨hj,z⟩:=z;cases hs:step (l.getD j d) s with
   |inr s'=>rw[hs]at z;exact z.elim
   |inl x=>
    rw[hs]at z;obtain⟨q2,js2,q3,q4⟩:=z;refine⟨.inl x,js2,⟨_,hfix _ (hmem j hj),?_⟩,q2,q3,q4⟩;rw[List.map_append,w7 hrun];simp only[List.map_cons,eu,hs]
 intro e st' hz;cases e with
 |normal=>
  change nxC step l d D st.h.length left s st' (uS (ai st'.h it))at hz;cases ho:uS (ai st'.h it)with
  |none=>rw[ho]at hz;exact hz.elim
  |some j=>
   rw[ho]at hz;obtain⟨hj,hz⟩:=hz;cases hs:step (l.getD j d) s with
   |inl x=>rw[hs]at hz;exact hz.elim
   |inr s'=>
    rw[hs]at hz;obtain⟨js2,q3,q4⟩:=hz;refine⟨(left.erase j,some j,s'),js2,⟨q++[j],?_,?_⟩,?_,q3,q4⟩
    ·rw[List.append_assoc];exact hmem j hj
    ·rw[List.map_append,w7 hrun];simp only[List.map_cons,List.map_nil,eu,hs]
    ·have:=List.length_pos_of_mem hj;simp only[List.length_erase_of_mem hj];omega
 |exit j=>
  have hz':(bif Nat.beq j id then(left=[]→g5 (outN s) st.h.length st')∧(left≠[]→exC step l d exE outE st.h.length left s .normal st' (uS (ai st'.h it)))else exC step l d exE outE st.h.length left s (.exit j) st' (uS (ai st'.h it))):=hz;show bif Nat.beq j id then _ else _;cases hb:Nat.beq j id with
  |true=>
   rw[hb]at hz';simp only[cond_true]at hz' ⊢;by_cases hlt:left=[]
   ·obtain⟨js2,q3,q4⟩:=hz'.1 hlt;refine⟨.inr s,js2,⟨_,hfix q (by rw[hlt,List.append_nil]at hq;exact hq),hrun⟩,rfl,q3,q4⟩
   ·exact hfin _ _ _ (hz'.2 hlt)
  |false=>
   rw[hb]at hz';exact hfin _ _ _ hz'
 |ret=>exact hfin _ _ _ hz
 |pan x=>exact hfin _ _ _ hz
end
theorem fkY {st2 st:St}{n0:Nat}{js:List Nat}(_:JL js)(h1:n0≤st2.h.length:=by(first|(show _≤_;decide) |(simp only[*,go_sem,Nat.reduceBEq,Nat.reduceLeDiff,Nat.reduceAdd,Nat.reduceSub,Nat.reduceMul,Int.reduceLE,Int.reduceLT,Int.reduceToNat,Int.reduceNeg,reduceCtorEq];done) |(simp only[*,go_sem,Nat.reduceBEq,Nat.reduceLeDiff,Nat.reduceAdd,Nat.reduceSub,Nat.reduceMul,Int.reduceLE,Int.reduceLT,Int.reduceToNat,Int.reduceNeg,reduceCtorEq];(repeat' (first|with_reducible refine And.intro ?_ ?_|((with_reducible show _≠_);first|assumption|omega|(simp_all [dy,ev];done) |grind) |with_reducible intro _)) <;>(first|rfl|decide|assumption|omega|(simp_all [dy,ev];done) |fail))))(h2:Sub js n0 st st2:=by(first|(show _≤_;decide) |(simp only[*,go_sem,Nat.reduceBEq,Nat.reduceLeDiff,Nat.reduceAdd,Nat.reduceSub,Nat.reduceMul,Int.reduceLE,Int.reduceLT,Int.reduceToNat,Int.reduceNeg,reduceCtorEq];done) |(simp only[*,go_sem,Nat.reduceBEq,Nat.reduceLeDiff,Nat.reduceAdd,Nat.reduceSub,Nat.reduceMul,Int.reduceLE,Int.reduceLT,Int.reduceToNat,Int.reduceNeg,reduceCtorEq];(repeat' (first|with_reducible refine And.intro ?_ ?_|((with_reducible show _≠_);first|assumption|omega|(simp_all [dy,ev];done) |grind) |with_reducible intro _)) <;>(first|rfl|decide|assumption|omega|(simp_all [dy,ev];done) |fail)))):g5 st2 n0 st:=Dd js h1 h2
theorem R9 {α:Type 1}{G:List SV→α→Prop}{X:SV}{k:List SV→Option α}(h:∀ l c,k l=some c→G (X::l) c):∀ l c,pQ X k l=some c→G l c:=fun l c hc=>by
 obtain⟨r,rfl,h1⟩:=zM hc;exact h r c h1
end Go.Sx
end
section
namespace Go.Sx
open Go.Proofs
open IntKind (i64 u64)
def mq (n:Int)(d:Int):Int:=(i64.wrap (Int.tdiv (i64.wrap (n - (Int.tmod (i64.wrap ((Int.tmod n d)+d)) d))) d))
def oh (n:Int)(d:Int):Prop:=(d≠0∧(d≠0∧d≠0))
@[go_sem] def vZ:List SV→Option Con:=(pI fun n=>(pI fun d=>(pE (.det (oh n d) (.v (.int .i64 (mq n d)))))))
theorem Bd:FnOk Tryz.prog 166 vZ:=by
 have hG:ConsOk Tryz.prog (mkG [] []):=ap cg0 cg0;refine aL [.o] mixed aj hG (fn:=Tryz.f166) (c:=ae Tryz.f166) kr kr kr kr (aM fun n=>(aM fun d=>(aw (fun hp=>?_))));dsimp only[av]at hp;unfold oh at hp;refine⟨nbl rfl,L0,ag _,?_⟩
 ·unfold ae Tryz.f166;try unfold mq
  exact zq1
def fb (a:Ratio)(n:Int):Int×Int×Int:=(bif((aH a) !=0)then(0,0,(aH a))else(bif((decide (n< (-1073741824))) ||(decide (n > 1073741824)))then(0,0,1)else((mq (i64.wrap (a.n*n)) a.d),(i64.wrap (0 - (mq (i64.wrap ((i64.wrap (0 - a.n))*n)) a.d))),0)))
def um (a:Ratio)(n:Int):Prop:=(((aH a) !=0)=false→(((decide (n< (-1073741824))) ||(decide (n > 1073741824)))=false→((oh (i64.wrap (a.n*n)) a.d)∧(oh (i64.wrap ((i64.wrap (0 - a.n))*n)) a.d))))
theorem Be {a:Ratio}(h:(aH a !=0)=false):1≤a.d:=by
 unfold aH at h;by_cases hd:a.d<1
 ·simp[hd]at h
 ·omega
theorem Ah (a:Ratio)(n:Int):um a n:=fun h _=>by
 have:=Be h;exact⟨⟨by omega,by omega,by omega⟩,⟨by omega,by omega,by omega⟩⟩
@[go_sem] def un:List SV→Option Con:=(pD .ratio fun a=>(pI fun n=>(pE (.det True (.tup [.v (.int .i64 ((fb a n).1)),.v (.int .i64 ((fb a n).2.1)),.v (.int .i64 ((fb a n).2.2))])))))
theorem Ai:FnOk Tryz.prog 138 un:=by
 have hG:ConsOk Tryz.prog (mkG [(165,mB),(166,vZ)] []):=ap (cgc oN (cgc Bd cg0)) cg0;refine aL [.o,.o,.o] mixed aj hG (fn:=Tryz.f138) (c:=ae Tryz.f138) kr kr kr kr (aI fun a=>(aM fun n=>(aw (fun hp=>?_))));dsimp only[av]at hp;have hp:=Ah a n;unfold um at hp;refine⟨nbl rfl,L0,ag _,?_⟩
 ·unfold ae Tryz.f138;try unfold fb
  exact zq1
def kF (n:Int)(d:Int):Ratio×Int:=(bif(d==0)then(({ n:=0,d:=0}:Ratio),120)else(bif(decide ((if(u64.wrap (Int.tdiv (an n) ((tH (Int.toNat (an n)) (Int.toNat (an d)):Nat):Int))) < (u64.wrap (Int.tdiv (an d) ((tH (Int.toNat (an n)) (Int.toNat (an d)):Nat):Int)))then(u64.wrap (Int.tdiv (an d) ((tH (Int.toNat (an n)) (Int.toNat (an d)):Nat):Int)))else(u64.wrap (Int.tdiv (an n) ((tH (Int.toNat (an n)) (Int.toNat (an d)):Nat):Int)))) > 1073741824))then(({ n:=0,d:=0}:Ratio),2)else(bif((decide (n<0)) !=(decide (d<0)))then(({ n:=(i64.wrap (0 - (i64.wrap (u64.wrap (Int.tdiv (an n) ((tH (Int.toNat (an n)) (Int.toNat (an d)):Nat):Int)))))),d:=(i64.wrap (u64.wrap (Int.tdiv (an d) ((tH (Int.toNat (an n)) (Int.toNat (an d)):Nat):Int))))}:Ratio),0)else(({ n:=(i64.wrap (u64.wrap (Int.tdiv (an n) ((tH (Int.toNat (an n)) (Int.toNat (an d)):Nat):Int)))),d:=(i64.wrap (u64.wrap (Int.tdiv (an d) ((tH (Int.toNat (an n)) (Int.toNat (an d)):Nat):Int))))}:Ratio),0))))
def oi (n:Int)(d:Int):Prop:=((d==0)=false→((0≤(an n)∧0≤(an d))∧(((tH (Int.toNat (an n)) (Int.toNat (an d)):Nat):Int)≠0∧((tH (Int.toNat (an n)) (Int.toNat (an d)):Nat):Int)≠0)))
@[go_sem] def v6:List SV→Option Con:=(pI fun n=>(pI fun d=>(pE (.det (oi n d) (.tup [.agg (cellsOf .ratio ((kF n d).1)),.v (.int .i64 ((kF n d).2))])))))
theorem Bf:FnOk Tryz.prog 172 v6:=by
 have hG:ConsOk Tryz.prog (mkG [(180,C83),(181,lj)] []):=ap (cgc LO (cgc oM cg0)) cg0;refine aL [.st .ratio,.o] mixed aj hG (fn:=Tryz.f172) (c:=ae Tryz.f172) kr kr kr kr (aM fun n=>(aM fun d=>(aw (fun hp=>?_))));dsimp only[av]at hp;unfold oi at hp;refine⟨nbl rfl,L0,ag _,?_⟩
 ·unfold ae Tryz.f172;try unfold kF
  exact zq4
def fc (a:Ratio)(b:Ratio):Int×Int:=((i64.wrap ((i64.wrap (a.n*b.d))+(i64.wrap (b.n*a.d)))),(i64.wrap (a.d*b.d)))
@[go_sem] def uo:List SV→Option Con:=(pD .ratio fun a=>(pD .ratio fun b=>(pE (.det True (.tup [.v (.int .i64 ((fc a b).1)),.v (.int .i64 ((fc a b).2))])))))
theorem Aj:FnOk Tryz.prog 155 uo:=by
 have hG:ConsOk Tryz.prog (mkG [] []):=ap cg0 cg0;refine aL [.o,.o] mixed aj hG (fn:=Tryz.f155) (c:=ae Tryz.f155) kr kr kr kr (aI fun a=>(aI fun b=>(aw (fun hp=>?_))));dsimp only[av]at hp;refine⟨nbl rfl,L0,ag _,?_⟩
 ·unfold ae Tryz.f155;try unfold fc
  exact zq1
def eP (a:Ratio)(b:Ratio):Ratio×Int:=(bif(((aH a) !=0) ||((aH b) !=0))then(({ n:=0,d:=0}:Ratio),120)else(((kF ((fc a b).1) ((fc a b).2)).1),(kF ((fc a b).1) ((fc a b).2)).2))
def jc (a:Ratio)(b:Ratio):Prop:=((((aH a) !=0) ||((aH b) !=0))=false→(oi ((fc a b).1) ((fc a b).2)))
@[go_sem] noncomputable def nt:List SV→Option Con:=(pQ (.agg [.fn 155 [] []]) (pD .ratio fun a=>(pD .ratio fun b=>(pE (.det (jc a b) (.tup [.agg (cellsOf .ratio ((eP a b).1)),.v (.int .i64 ((eP a b).2))]))))))
theorem rN:FnOk Tryz.prog 156 nt:=by
 have hG:ConsOk Tryz.prog (mkG [(155,uo),(165,mB),(172,v6)] []):=ap (cgc Aj (cgc oN (cgc Bf cg0))) cg0;refine aL [.st .ratio,.o] mixed aj hG (fn:=Tryz.f156) (c:=ae Tryz.f156) kr kr kr kr (R9 (aI fun a=>(aI fun b=>(aw (fun hp=>?_)))));dsimp only[av]at hp;unfold jc at hp;refine⟨nbl rfl,L0,ag _,?_⟩
 ·unfold ae Tryz.f156;try unfold eP
  exact zq1
def d7 (a:Ratio)(b:Ratio):Ratio×Int:=(((eP a b).1),(eP a b).2)
def pj (a:Ratio)(b:Ratio):Prop:=(jc a b)
@[go_sem] def xM:List SV→Option Con:=(pD .ratio fun a=>(pD .ratio fun b=>(pE (.det (pj a b) (.tup [.agg (cellsOf .ratio ((d7 a b).1)),.v (.int .i64 ((d7 a b).2))])))))
theorem Dm:FnOk Tryz.prog 121 xM:=by
 have hG:ConsOk Tryz.prog (mkG [(156,nt)] []):=ap (cgc rN cg0) cg0;refine aL [.st .ratio,.o] mixed aj hG (fn:=Tryz.f121) (c:=ae Tryz.f121) kr kr kr kr (aI fun a=>(aI fun b=>(aw (fun hp=>?_))));dsimp only[av]at hp;unfold pj at hp;refine⟨nbl rfl,L0,ag _,?_⟩
 ·unfold ae Tryz.f121;try unfold d7
  exact zq1
@[go_sem] def uq (ce:List Int)(k_0:Nat)(s_0:Unit):Int⊕Unit:=(bif((ce.getD k_0 (0:Int)) !=0)then .inl (ce.getD k_0 (0:Int))else .inr ())
def g_ (ce:List Int):Int:=(match am (uq ce) ce.length 0 ()with| .inl x_0_0=>x_0_0| .inr s_0=>0)
@[go_sem] def v7:List SV→Option Con:=(pR .int fun ce=>(pE (.det True (.v (.int .i64 (g_ ce))))))
theorem Bg:FnOk Tryz.prog 44 v7:=by
 have hG:ConsOk Tryz.prog (mkG [] []):=ap cg0 cg0;refine aL [.o] mixed aj hG (fn:=Tryz.f44) (c:=ae Tryz.f44) kr kr kr kr (cI fun ce=>(aw (fun hp=>?_)));dsimp only[av]at hp;refine⟨nbl rfl,(fun id st=>bif Nat.beq id 0 then some (LCR (ρ:=Int) (σ:=Unit) 0 [] [] (fun k_0 s_0=>⟨[(3,.v (.int .i64 0)),(6,.rs .int ce),(7,.v (.int .i64 (ce.length:Int))),(8,.v (.int .i64 (k_0:Int)))],[]⟩) (uq ce) pT ce.length () (ce.length≤aU) (fun _=>.ret) (fun x_0_0=>⟨[(2,.v (.int .i64 x_0_0))],[]⟩) st)else none),?_,?_⟩
 ·unfold ae Tryz.f44;simp only[al,true_and,and_true]
  ·refine dp mixed aj hG kr (fun _=>rfl) (ce.length:Int) rfl fK (fun hb0 k_0 s_0 hlt0 _ hw hc=>⟨L0,ag _,?_⟩) (fun hb0 s_0 hc=>?_)
   ·exact bF (jl [])
   ·exact bG (jl [])
 ·unfold ae Tryz.f44;try unfold g_
  exact zq1
def bU (x:Holding)(y:Holding):Int:=(g_ ([(cd x.right y.right),(cd x.farm y.farm)]))
@[go_sem] def rH:List SV→Option Con:=(pD .holding fun x=>(pD .holding fun y=>(pE (.det True (.v (.int .i64 (bU x y)))))))
theorem w8:FnOk Tryz.prog 43 rH:=by
 have hG:ConsOk Tryz.prog (mkG [(44,fun l=>v7 (cn [.sl .int] l)),(45,gh)] []):=ap (cgc (Bg.norm [.sl .int]) (cgc g6 cg0)) cg0;refine aL [.o] mixed aj hG (fn:=Tryz.f43) (c:=ae Tryz.f43) kr kr kr kr (aI fun x=>(aI fun y=>(aw (fun hp=>?_))));dsimp only[av]at hp;refine⟨nbl rfl,L0,ag _,?_⟩
 ·unfold ae Tryz.f43;try unfold bU
  exact zq1
theorem pl (x y:Int):cd x y=if x<y then -1 else if x > y then 1 else 0:=by
 unfold cd ip;simp[Bool.cond_eq_ite]
theorem G3 (x:Int)(l:List Int):g_ (x::l)=if x=0 then g_ l else x:=by
 have key:∀ l:List Int,g_ l=match eu (ρ:=Int) (fun(x:Int) (_:Unit) =>bif(x !=0)then .inl x else .inr ()) l ()with| .inl y=>y| .inr _=>0:=fun l=>by
  unfold g_;have:=qR (ρ:=Int) (fun(x:Int) (_:Unit) =>bif(x !=0)then .inl x else .inr ()) 0 l ();rw[←this];rfl
 rw[key,key];simp only[eu];by_cases h:x=0
 ·subst h;rfl
 ·have:(x !=0)=true:=by simpa using h
  rw[if_neg h,this];rfl
theorem JF:g_ []=0:=rfl
def nP:List (Int×Int)→Prop
 | [] =>False
 |(a,b)::r=>a<b∨a=b∧nP r
theorem BY:∀ l:List (Int×Int),(g_ (l.map fun p=>cd p.1 p.2) <0↔nP l)
 | [] =>by simp[JF,nP]
 |(a,b)::r=>by
  have hc:=pl a b;simp only[List.map_cons,G3,hc,nP];rcases Int.lt_trichotomy a b with h|h|h
  ·simp[h]
  ·subst h;simp only[Int.lt_irrefl,if_false,if_true,true_and,false_or,gt_iff_lt];exact BY r
  ·have h1:¬a<b:=by omega
   have h2:a≠b:=by omega
   simp[h1,h2,h]
def hlt (a b:Holding):Prop:=nP [(a.right,b.right),(a.farm,b.farm)]
theorem Ak (a b:Holding):bU a b<0↔hlt a b:=BY [(a.right,b.right),(a.farm,b.farm)]
open Go.Shelf Go.Sort in
theorem L2 {α:Type}{f:α→α→Int}{r:α→α→Prop}(e:∀ x y,f x y<0↔r x y)(h1:∀ x,¬r x x)(h2:∀ x y z,r x y→r y z→r x z)(h3:∀ x y z,¬r x y→¬r y z→¬r x z):SWO (ltOf f):=by
 have e1:∀ x y,ltOf f x y=true↔r x y:=fun x y=>by unfold ltOf;rw[decide_eq_true_eq,e]
 have e2:∀ x y,ltOf f x y=false↔¬r x y:=fun x y=>by rw[←e1];simp
 exact⟨fun x=>(e2 x x).2 (h1 x),fun x y z a b=>(e1 x z).2 (h2 x y z ((e1 x y).1 a) ((e1 y z).1 b)),fun x y z a b=>(e2 x z).2 (h3 x y z ((e2 x y).1 a) ((e2 y z).1 b))⟩
open Go.Shelf Go.Sort in
theorem xN:SWO (ltOf bU):=L2 Ak (fun x=>by simp only[hlt,nP,and_false,or_false];omega) (fun x y z h1 h2=>by simp only[hlt,nP,and_false,or_false]at *;omega) (fun x y z h1 h2=>by simp only[hlt,nP,and_false,or_false]at *;omega)
def aq (n:Int)(lo:Int)(hi:Int):Bool:=((decide (n≥lo))&&(decide (n≤hi)))
@[go_sem] def mI:List SV→Option Con:=(pI fun n=>(pI fun lo=>(pI fun hi=>(pE (.det True (.v (.bool (aq n lo hi))))))))
theorem oW:FnOk Tryz.prog 39 mI:=by
 have hG:ConsOk Tryz.prog (mkG [] []):=ap cg0 cg0;refine aL [.o] mixed aj hG (fn:=Tryz.f39) (c:=ae Tryz.f39) kr kr kr kr (aM fun n=>(aM fun lo=>(aM fun hi=>(aw (fun hp=>?_)))));dsimp only[av]at hp;refine⟨nbl rfl,L0,ag _,?_⟩
 ·unfold ae Tryz.f39;try unfold aq
  exact zq1
def iv (x:Deed):Bool:=(bif(x.kind==1)then(((x.parts.length:Int) ==0)&&(x.of_==0))else(bif(x.kind==2)then((x.to==0)&&(x.of_==0))else(bif(x.kind==3)then(((x.to==0)&&((x.parts.length:Int) ==0))&&(x.of_==0))else(bif(x.kind==4)then((((x.right==0)&&(x.since==0))&&(x.to==0))&&((x.parts.length:Int) ==0))else(((((x.right==0)&&(x.since==0))&&(x.to==0))&&((x.parts.length:Int) ==0))&&(x.of_==0))))))
@[go_sem] def rI:List SV→Option Con:=(pD .deed fun x=>(pE (.det True (.v (.bool (iv x))))))
theorem w_:FnOk Tryz.prog 85 rI:=by
 have hG:ConsOk Tryz.prog (mkG [] []):=ap cg0 cg0;refine aL [.o] mixed aj hG (fn:=Tryz.f85) (c:=ae Tryz.f85) kr kr kr kr (aI fun x=>(aw (fun hp=>?_)));dsimp only[av]at hp;refine⟨nbl rfl,L0,ag _,?_⟩
 ·unfold ae Tryz.f85;try unfold iv
  exact zq1
@[go_sem] def eB (d:District)(l_:List Part)(k_0:Nat)(s_0:Int×Int×List (Int×Bool)):Unit⊕(Int×Int×List (Int×Bool)):=(bif(((!(aq ((l_.getD k_0 (default:Part)).farm) 0 (i64.wrap ((d.farms.length:Int) - 1)))) ||(b9 .int .bool s_0.2.2 ((l_.getD k_0 (default:Part)).farm))) ||(decide ((l_.getD k_0 (default:Part)).share.n≤0)))then .inl ()else(bif((d7 ({ n:=s_0.1,d:=s_0.2.1}:Ratio) ((l_.getD k_0 (default:Part)).share)).2 !=0)then .inl ()else .inr (((d7 ({ n:=s_0.1,d:=s_0.2.1}:Ratio) ((l_.getD k_0 (default:Part)).share)).1).n,((d7 ({ n:=s_0.1,d:=s_0.2.1}:Ratio) ((l_.getD k_0 (default:Part)).share)).1).d,(fS .int .bool s_0.2.2 ((l_.getD k_0 (default:Part)).farm) true))))
def jJ (d:District)(l_:List Part)(k_0:Nat)(s_0:Int×Int×List (Int×Bool)):Prop:=(d.farms.length≤aU→((((!(aq ((l_.getD k_0 (default:Part)).farm) 0 (i64.wrap ((d.farms.length:Int) - 1)))) ||(b9 .int .bool s_0.2.2 ((l_.getD k_0 (default:Part)).farm))) ||(decide ((l_.getD k_0 (default:Part)).share.n≤0)))=false→(pj ({ n:=s_0.1,d:=s_0.2.1}:Ratio) ((l_.getD k_0 (default:Part)).share))))
def fX (d:District)(l_:List Part):Bool:=(match am (eB d l_) l_.length 0 (0,1,[])with| .inl x_0_0=>false| .inr s_0=>((aq (l_.length:Int) 1 16)&&((s_0.1==1)&&(s_0.2.1==1))))
def jy (d:District)(l_:List Part):Prop:=(l_.length≤aU→okI (eB d l_) (jJ d l_) l_.length 0 (0,1,[]))
@[go_sem] def qq:List SV→Option Con:=(pD .district fun d=>(pR .part fun l_=>(pE (.det (jy d l_) (.v (.bool (fX d l_)))))))
theorem v8:FnOk Tryz.prog 86 qq:=by
 have hG:ConsOk Tryz.prog (mkG [(39,mI),(121,xM)] []):=ap (cgc oW (cgc Dm cg0)) cg0;refine aL [.o] mixed aj hG (fn:=Tryz.f86) (c:=ae Tryz.f86) kr kr kr kr (aI fun d=>(cI fun l_=>(aw (fun hp=>?_))));dsimp only[av]at hp;unfold jy at hp;refine⟨nbl rfl,(fun id st=>bif Nat.beq id 0 then some (LCR (ρ:=Unit) (σ:=(Int×Int×List (Int×Bool))) 3 [] [0,1,2] (fun k_0 s_0=>⟨[(1,.rs .part l_),(2,.ptr 0 0),(5,.ptr 2 0),(6,.os 1),(13,.rs .part l_),(14,.v (.int .i64 (l_.length:Int))),(15,.v (.int .i64 (k_0:Int)))],[.cells (cellsOf .district d),.mp .int .bool s_0.2.2 none,.cells [.v (.int .i64 s_0.1),.v (.int .i64 s_0.2.1)]]⟩) (eB d l_) (jJ d l_) l_.length (0,1,[]) (l_.length≤aU) (fun _=>.ret) (fun x_0_0=>⟨[(4,.v (.bool false))],[.dead,.dead,.dead]⟩) st)else none),?_,?_⟩
 ·unfold ae Tryz.f86;simp only[al,true_and,and_true]
  ·refine dp mixed aj hG kr (fun _=>rfl) (l_.length:Int) rfl fK (fun hb0 k_0 s_0 hlt0 hq0 hw hc=>⟨L0,ag _,?_⟩) (fun hb0 s_0 hc=>?_)
   ·unfold jJ at hq0;try simp only[hw,Int.toNat_natCast]at hq0
    exact bF (jl [0,1,2])
   ·exact bG (jl [0,1,2])
 ·unfold ae Tryz.f86;try unfold fX
  exact zq1
def b_ (a0:District)(a1:List (Int×Deed))(a2:Deed):Bool:=(bif((((!(aq a2.no 0 1048576)) ||(!(aq a2.at_ 0 4096))) ||(!(aq a2.known 0 1048576))) ||(!(iv a2)))then false else(bif(a2.kind==1)then(((((aq a2.right 0 (i64.wrap ((a0.rights.length:Int) - 1)))&&((a0.rights.getD (Int.toNat a2.right) (default:Right)).kind==1))&&(aq a2.since 0 (i64.wrap ((a0.farms.length:Int) - 1))))&&(aq a2.to 0 (i64.wrap ((a0.farms.length:Int) - 1))))&&(a2.to !=a2.since))else(bif(a2.kind==2)then((((aq a2.right 0 (i64.wrap ((a0.rights.length:Int) - 1)))&&((a0.rights.getD (Int.toNat a2.right) (default:Right)).kind==1))&&(aq a2.since 0 (i64.wrap ((a0.farms.length:Int) - 1))))&&(fX a0 a2.parts))else(bif(a2.kind==3)then(((aq a2.right 0 (i64.wrap ((a0.rights.length:Int) - 1)))&&((a0.rights.getD (Int.toNat a2.right) (default:Right)).kind==1))&&(aq a2.since 0 (i64.wrap ((a0.farms.length:Int) - 1))))else(bif(a2.kind==4)then(((rS .int .deed a1 a2.of_)&&((b9 .int .deed a1 a2.of_).kind !=4))&&(decide (a2.known≥(b9 .int .deed a1 a2.of_).known)))else false)))))
def ko (a0:District)(a1:List (Int×Deed))(a2:Deed):Prop:=(((((!(aq a2.no 0 1048576)) ||(!(aq a2.at_ 0 4096))) ||(!(aq a2.known 0 1048576))) ||(!(iv a2)))=false→(a0.farms.length≤aU→(a0.rights.length≤aU→(((aq a2.right 0 (i64.wrap ((a0.rights.length:Int) - 1)))=true→(0≤a2.right∧a2.right< (a0.rights.length:Int)))∧((a2.kind==1)=false→((a2.kind==2)=true→((((aq a2.right 0 (i64.wrap ((a0.rights.length:Int) - 1)))&&((a0.rights.getD (Int.toNat a2.right) (default:Right)).kind==1))&&(aq a2.since 0 (i64.wrap ((a0.farms.length:Int) - 1))))=true→(jy a0 a2.parts))))))))
@[go_sem] def rJ:List SV→Option Con:=(pD .district fun a0=>(pM .int .deed fun a1=>(pD .deed fun a2=>(pE (.det (ko a0 a1 a2) (.v (.bool (b_ a0 a1 a2))))))))
theorem xa:FnOk Tryz.prog 49 rJ:=by
 have hG:ConsOk Tryz.prog (mkG [(39,mI),(85,fun l=>rI (cn [.st .deed] l)),(86,fun l=>qq (cn [.st .district,.sl .part] l))] []):=ap (cgc oW (cgc (w_.norm [.st .deed]) (cgc (v8.norm [.st .district,.sl .part]) cg0))) cg0;refine aL [.o] mixed aj hG (fn:=Tryz.f49) (c:=ae Tryz.f49) kr kr kr kr (aI fun a0=>(RZ fun a1=>(aI fun a2=>(aw (fun hp=>?_)))));dsimp only[av]at hp;unfold ko at hp;refine⟨nbl rfl,L0,ag _,?_⟩
 ·unfold ae Tryz.f49;try unfold b_
  exact zq1
def df (x:Deed):Bool:=(decide ((x.parts.length:Int) > 16))
@[go_sem] def oX:List SV→Option Con:=(pD .deed fun x=>(pE (.det True (.v (.bool (df x))))))
theorem tI:FnOk Tryz.prog 48 oX:=by
 have hG:ConsOk Tryz.prog (mkG [] []):=ap cg0 cg0;refine aL [.o] mixed aj hG (fn:=Tryz.f48) (c:=ae Tryz.f48) kr kr kr kr (aI fun x=>(aw (fun hp=>?_)));dsimp only[av]at hp;refine⟨nbl rfl,L0,ag _,?_⟩
 ·unfold ae Tryz.f48;try unfold df
  exact zq1
@[go_sem] def bS (s_:List Deed)(k_0:Nat)(s_0:Unit):Int⊕Unit:=(bif(df (s_.getD k_0 (default:Deed)))then .inl (k_0:Int)else .inr ())
def c5 (s_:List Deed):Int:=(match am (bS s_) s_.length 0 ()with| .inl x_0_0=>x_0_0| .inr s_0=>(-1))
@[go_sem] def dM:List SV→Option Con:=(pR .deed fun s_=>(pFn 48 (pE ((pE (.det True (.v (.int .i64 (c5 s_)))))))))
theorem fj:FnOk Tryz.prog 84 dM:=by
 have hG:ConsOk Tryz.prog (mkG [(48,fun l=>oX (cn [.st .deed] l))] []):=ap (cgc (tI.norm [.st .deed]) cg0) cg0;refine aL [.o] mixed aj hG (fn:=Tryz.f84) (c:=ae Tryz.f84) kr kr kr kr (cI fun s_=>(vM (aw ((aw (fun hp=>?_))))));dsimp only[av]at hp;refine⟨nbl rfl,(fun id st=>bif Nat.beq id 0 then some (LCR (ρ:=Int) (σ:=Unit) 0 [] [] (fun k_0 s_0=>⟨[(0,.rs .deed s_),(1,.fn 48 [] []),(7,.v (.int .i64 (s_.length:Int))),(8,.v (.int .i64 (k_0:Int)))],[]⟩) (bS s_) pT s_.length () (s_.length≤aU) (fun _=>.ret) (fun x_0_0=>⟨[(4,.v (.int .i64 x_0_0))],[]⟩) st)else none),?_,?_⟩
 ·unfold ae Tryz.f84;simp only[al,true_and,and_true]
  ·refine dp mixed aj hG kr (fun _=>rfl) (s_.length:Int) rfl fK (fun hb0 k_0 s_0 hlt0 _ hw hc=>⟨L0,ag _,?_⟩) (fun hb0 s_0 hc=>?_)
   ·exact bF (jl [])
   ·exact bG (jl [])
 ·unfold ae Tryz.f84;try unfold c5
  exact zq1
@[go_sem] noncomputable def dI:List SV→Option Con:=fun l=>(dM l)
theorem je:FnOk Tryz.prog 84 dI:=fj
def aB (s_:List Deed):Bool:=(decide ((c5 s_)≥0))
@[go_sem] def eU:List SV→Option Con:=(pR .deed fun s_=>(pFn 48 (pE ((pE (.det True (.v (.bool (aB s_)))))))))
theorem Ws {p:Prop}(h:p:=by simp only[go_sem,Nat.reduceBEq,Nat.reduceLeDiff,Nat.reduceLT,decide_true,Nat.reduceAdd,Nat.reduceSub,Nat.reduceMul,Int.reduceLE,Int.reduceLT,Int.reduceToNat,Int.reduceNeg,reduceCtorEq,dI];all_goals exact cl):p:=h
theorem iy:FnOk Tryz.prog 47 eU:=by
 have hG:ConsOk Tryz.prog (mkG [(84,fun l=>dI (cn [.sl .deed,.o] l))] []):=ap (cgc (je.norm [.sl .deed,.o]) cg0) cg0;refine aL [.o] mixed aj hG (fn:=Tryz.f47) (c:=ae Tryz.f47) kr kr kr kr (cI fun s_=>(vM (aw ((aw (fun hp=>?_))))));dsimp only[av]at hp;refine⟨nbl rfl,L0,ag _,?_⟩
 ·unfold ae Tryz.f47;try unfold aB
  exact Ws
@[go_sem] def dw (d:District)(l_:List Deed)(k_0:Nat)(s_0:List (Int×Deed)):Unit⊕(List (Int×Deed)):=(bif(((decide ((k_0:Int) > 0))&&(decide ((l_.getD k_0 (default:Deed)).no≤(l_.getD (Int.toNat (i64.wrap ((k_0:Int) - 1))) (default:Deed)).no))) ||(!(b_ d s_0 (l_.getD k_0 (default:Deed)))))then .inl ()else .inr (fS .int .deed s_0 ((l_.getD k_0 (default:Deed)).no) (l_.getD k_0 (default:Deed))))
def jK (d:District)(l_:List Deed)(k_0:Nat)(s_0:List (Int×Deed)):Prop:=(((decide ((k_0:Int) > 0))=true→(0≤(i64.wrap ((k_0:Int) - 1))∧(i64.wrap ((k_0:Int) - 1)) < (l_.length:Int)))∧(((decide ((k_0:Int) > 0))&&(decide ((l_.getD k_0 (default:Deed)).no≤(l_.getD (Int.toNat (i64.wrap ((k_0:Int) - 1))) (default:Deed)).no)))=false→(ko d s_0 (l_.getD k_0 (default:Deed)))))
def aC (d:District)(l_:List Deed):Int:=(bif((ay d) !=0)then(ay d)else(bif((decide ((l_.length:Int) > 512)) ||(aB l_))then 2 else(match am (dw d l_) l_.length 0 ([])with| .inl x_0_0=>250| .inr s_0=>0)))
def gO (d:District)(l_:List Deed):Prop:=(((ay d) !=0)=false→(l_.length≤aU→(((decide ((l_.length:Int) > 512)) ||(aB l_))=false→(l_.length≤aU→okI (dw d l_) (jK d l_) l_.length 0 ([])))))
@[go_sem] def mr:List SV→Option Con:=(pD .district fun d=>(pR .deed fun l_=>(pE (.det (gO d l_) (.v (.int .i64 (aC d l_)))))))
theorem pm:FnOk Tryz.prog 26 mr:=by
 have hG:ConsOk Tryz.prog (mkG [(34,fun l=>lm (cn [.st .district] l)),(47,fun l=>eU (cn [.sl .deed,.o] l)),(49,fun l=>rJ (cn [.st .district,.mp .int .deed,.st .deed] l))] []):=ap (cgc (nJ.norm [.st .district]) (cgc (iy.norm [.sl .deed,.o]) (cgc (xa.norm [.st .district,.mp .int .deed,.st .deed]) cg0))) cg0;refine aL [.o] mixed aj hG (fn:=Tryz.f26) (c:=ae Tryz.f26) kr kr kr kr (aI fun d=>(cI fun l_=>(aw (fun hp=>?_))));dsimp only[av]at hp;unfold gO at hp;refine⟨nbl rfl,(fun id st=>bif Nat.beq id 0 then some (LCR (ρ:=Unit) (σ:=(List (Int×Deed))) 2 [] [0,1] (fun k_0 s_0=>⟨[(1,.rs .deed l_),(2,.ptr 0 0),(5,.os 1),(21,.rs .deed l_),(22,.v (.int .i64 (l_.length:Int))),(23,.v (.int .i64 (k_0:Int)))],[.cells (cellsOf .district d),.mp .int .deed s_0 none]⟩) (dw d l_) (jK d l_) l_.length ([]) (l_.length≤aU) (fun _=>.ret) (fun x_0_0=>⟨[(4,.v (.int .i64 250))],[.dead,.dead]⟩) st)else none),?_,?_⟩
 ·unfold ae Tryz.f26;simp only[al,true_and,and_true]
  ·refine dp mixed aj hG kr (fun _=>rfl) (l_.length:Int) rfl fK (fun hb0 k_0 s_0 hlt0 hq0 hw hc=>⟨L0,ag _,?_⟩) (fun hb0 s_0 hc=>?_)
   ·unfold jK at hq0;try simp only[hw,Int.toNat_natCast]at hq0
    exact bF (jl [0,1])
   ·exact bG (jl [0,1])
 ·unfold ae Tryz.f26;try unfold aC
  exact zq1
end Go.Sx
end
section
namespace Go.Sx
open Go.RowKit
def pXM {α:Type 1}(t t2:Tag)(k:List (t.T×t2.T)→List SV→Option α):List SV→Option α
 | .ep [s] 0::r=>pM t t2 k (s::r)
 |_=>none
@[go_sem] theorem Wt {α:Type 1}{t t2:Tag}{k:List (t.T×t2.T)→List SV→Option α}{s:SV}{r:List SV}:pXM t t2 k (.ep [s] 0::r)=pM t t2 k (s::r):=(rfl)
theorem Iq {α:Type 1}{G:List SV→α→Prop}{t t2:Tag}{k:List (t.T×t2.T)→List SV→Option α}(h:∀ n l c,k n l=some c→G (.ep [.rm t t2 n] 0::l) c):∀ l c,pXM t t2 k l=some c→G l c:=fun l c hc=>by
 unfold pXM at hc;split at hc
 ·obtain⟨x,r,e,h1⟩:=Lj hc;simp only[List.cons.injEq]at e;obtain⟨rfl,rfl⟩:=e;exact h x _ c h1
 ·cases hc
section
universe u
variable {α:Type u}{G:List SV→α→Prop}
def pLS (k:List SV→Option (List SV→Option α)):List SV→Option α
 | .ls l::r=>apO (k l) r
 |_=>none
@[go_sem] theorem Y7 {k:List SV→Option (List SV→Option α)}{l r:List SV}:pLS k (.ls l::r)=apO (k l) r:=(rfl)
end
open Classical in
noncomputable def iz {τ:Type}(A:τ→List SV)(H:τ→List Ob)(K:τ→HCon):List SV→List Ob→Option HCon:=fun l h=>if e:∃ x,l=A x∧h=H x then some (K e.choose)else none
theorem L3 (x:Deed):(⟨x.no,x.kind,x.right,x.since,x.to,x.parts,x.of_,x.at_,x.known⟩:Deed)=x:=rfl
theorem Dn (d:District):(⟨d.name,d.hours,⟨d.tank.cap,d.tank.start⟩,d.reaches,d.farms,d.crops,d.rights,d.duties,d.wells⟩:District)=d:=rfl
theorem JG {k:Tag}{x y:k.T}:cellsOf k x=cellsOf k y↔x=y:=⟨fun h=>by
 have h1:=td x;rw[h,td y]at h1;exact(Option.some.inj h1).symm,fun h=>by rw[h]⟩
theorem fN {τ:Type}{A:τ→List SV}{H:τ→List Ob}{K:τ→HCon}{x:τ}(inj:∀ x y,A x=A y→H x=H y→x=y:=by
 intro x y h1 h2;simp only[List.cons.injEq,SV.agg.injEq,SV.ep.injEq,SV.v.injEq,Value.int.injEq,Value.bool.injEq,Value.string.injEq,SV.fn.injEq,SV.rs.injEq,SV.rm.injEq,Ob.row.injEq,Ob.mp.injEq,Ob.cells.injEq,Ob.grid.injEq,heq_eq_eq,JG,true_and,and_true]at h1 h2;first|exact h2|exact h1|(simp_all [Prod.ext_iff];done)):iz A H K (A x) (H x)=some (K x):=by
 have e:∃ y,A x=A y∧H x=H y:=⟨x,rfl,rfl⟩;unfold iz;rw[dif_pos e];have:=inj _ _ e.choose_spec.1 e.choose_spec.2;rw[←this]
theorem dY {τ:Type}{A:τ→List SV}{H:τ→List Ob}{K:τ→HCon}{l:List SV}{h:List Ob}{c:HCon}(hh:iz A H K l h=some c):∃ x,l=A x∧h=H x∧c=K x:=by
 unfold iz at hh;split at hh
 ·rename_i e;simp only[Option.some.injEq]at hh;exact⟨e.choose,e.choose_spec.1,e.choose_spec.2,hh.symm⟩
 ·cases hh
end Go.Sx
end
section
namespace Go.Sx
open Go.Proofs
open IntKind (i64 u64)
@[go_sem] def nY:List SV→Option Con:=pR .deed fun l=>pE (.det (l.length*88≤d5) (.nw .deed l))
theorem sI:FnOk Tryz.prog 72 nY:=by
 have hG:ConsOk Tryz.prog (mkG [] []):=ap cg0 cg0;refine iT [(.tmp 2,.deed)] mixed aj hG (fn:=Tryz.f72) (c:=ae Tryz.f72) kr kr kr kr (cI fun l=>aw fun hp=>?_);dsimp only[av]at hp;refine⟨nbl rfl,L0,ag _,?_⟩;unfold ae Tryz.f72;simp only[go_sem,Nat.reduceBEq,Nat.reduceLeDiff,Nat.reduceAdd,Nat.reduceSub,Nat.reduceMul,Int.reduceLE,Int.reduceLT,Int.reduceToNat,Int.reduceNeg,reduceCtorEq];intro b hb;refine⟨fun h=>?_,fun _=>⟨hp,fun _=>rfl⟩⟩;have hl:=hb h;subst hl;rfl
def aW (x:Deed)(known:Int)(hour:Int)(void_:List (Int×Bool)):Bool:=((((x.kind==4) ||(decide (x.known > known))) ||(decide (x.at_ > hour))) ||(b9 .int .bool void_ x.no))
@[go_sem] def iA:List SV→Option Con:=(pD .deed fun x=>(pX .int fun known=>(pX .int fun hour=>(pXM .int .bool fun void_=>(pE (.det True (.v (.bool (aW x known hour void_)))))))))
theorem lE:FnOk Tryz.prog 73 iA:=by
 have hG:ConsOk Tryz.prog (mkG [] []):=ap cg0 cg0;refine aL [.o] mixed aj hG (fn:=Tryz.f73) (c:=ae Tryz.f73) kr kr kr kr (aI fun x=>(sh fun known=>(sh fun hour=>(Iq fun void_=>(aw (fun hp=>?_))))));dsimp only[av]at hp;refine⟨nbl rfl,L0,ag _,?_⟩
 ·unfold ae Tryz.f73;try unfold aW
  exact zq1
def cF (a:Deed)(b:Deed):Int:=(cd a.at_ b.at_)
@[go_sem] def iB:List SV→Option Con:=(pD .deed fun a=>(pD .deed fun b=>(pE (.det True (.v (.int .i64 (cF a b)))))))
theorem lF:FnOk Tryz.prog 75 iB:=by
 have hG:ConsOk Tryz.prog (mkG [(45,gh)] []):=ap (cgc g6 cg0) cg0;refine aL [.o] mixed aj hG (fn:=Tryz.f75) (c:=ae Tryz.f75) kr kr kr kr (aI fun a=>(aI fun b=>(aw (fun hp=>?_))));dsimp only[av]at hp;refine⟨nbl rfl,L0,ag _,?_⟩
 ·unfold ae Tryz.f75;try unfold cF
  exact zq1
@[go_sem] def dx (s_:List Deed)(known:Int)(hour:Int)(void_:List (Int×Bool))(k_0:Nat)(s_0:Unit):Int⊕Unit:=(bif(aW (s_.getD k_0 (default:Deed)) known hour void_)then .inl (k_0:Int)else .inr ())
def ak (s_:List Deed)(known:Int)(hour:Int)(void_:List (Int×Bool)):Int:=(match am (dx s_ known hour void_) s_.length 0 ()with| .inl x_0_0=>x_0_0| .inr s_0=>(-1))
@[go_sem] def fe:List SV→Option Con:=(pR .deed fun s_=>(pFn 73 (pX .int fun known=>(pX .int fun hour=>(pXM .int .bool fun void_=>(pE ((pE (.det True (.v (.int .i64 (ak s_ known hour void_))))))))))))
theorem iM:FnOk Tryz.prog 84 fe:=by
 have hG:ConsOk Tryz.prog (mkG [(73,fun l=>iA (cn [.st .deed,.o,.o,.o] l))] []):=ap (cgc (lE.norm [.st .deed,.o,.o,.o]) cg0) cg0;refine aL [.o] mixed aj hG (fn:=Tryz.f84) (c:=ae Tryz.f84) kr kr kr kr (cI fun s_=>(vM (sh fun known=>(sh fun hour=>(Iq fun void_=>(aw ((aw (fun hp=>?_)))))))));dsimp only[av]at hp;refine⟨nbl rfl,(fun id st=>bif Nat.beq id 0 then some (LCR (ρ:=Int) (σ:=Unit) 0 [] [] (fun k_0 s_0=>⟨[(0,.rs .deed s_),(1,.fn 73 [] [.ep [.v (.int .i64 known)] 0,.ep [.v (.int .i64 hour)] 0,.ep [.rm .int .bool void_] 0]),(7,.v (.int .i64 (s_.length:Int))),(8,.v (.int .i64 (k_0:Int)))],[]⟩) (dx s_ known hour void_) pT s_.length () (s_.length≤aU) (fun _=>.ret) (fun x_0_0=>⟨[(4,.v (.int .i64 x_0_0))],[]⟩) st)else none),?_,?_⟩
 ·unfold ae Tryz.f84;simp only[al,true_and,and_true]
  ·refine dp mixed aj hG kr (fun _=>rfl) (s_.length:Int) rfl fK (fun hb0 k_0 s_0 hlt0 _ hw hc=>⟨L0,ag _,?_⟩) (fun hb0 s_0 hc=>?_)
   ·exact bF (jl [])
   ·exact bG (jl [])
 ·unfold ae Tryz.f84;try unfold ak
  exact zq1
@[go_sem] noncomputable def dJ:List SV→Option Con:=fun l=>(orC (dM l) (fe l))
theorem jf:FnOk Tryz.prog 84 dJ:=(FnOk.or fj iM)
@[go_sem] def aQ (l_:List Deed)(known:Int)(hour:Int)(void_:List (Int×Bool))(k_0:Nat)(s_0:List Deed×Int×Int):(Int×List Deed)⊕(List Deed×Int×Int):=(bif(decide (s_0.2.2< (s_0.1.length:Int)))then(bif(!(aW (s_0.1.getD (Int.toNat s_0.2.2) (default:Deed)) known hour void_))then .inr ((s_0.1.set (Int.toNat s_0.2.1) (s_0.1.getD (Int.toNat s_0.2.2) (default:Deed))),(i64.wrap (s_0.2.1+1)),(i64.wrap (s_0.2.2+1)))else .inr (s_0.1,s_0.2.1,(i64.wrap (s_0.2.2+1))))else .inl (s_0.2.1,s_0.1))
def bK (l_:List Deed)(known:Int)(hour:Int)(void_:List (Int×Bool))(k_0:Nat)(s_0:List Deed×Int×Int):Prop:=(s_0.1.length≤aU→((decide (s_0.2.2< (s_0.1.length:Int)))=true→((0≤s_0.2.2∧s_0.2.2< (s_0.1.length:Int))∧((!(aW (s_0.1.getD (Int.toNat s_0.2.2) (default:Deed)) known hour void_))=true→(0≤s_0.2.1∧s_0.2.1< (s_0.1.length:Int))))))
def aY (l_:List Deed)(known:Int)(hour:Int)(void_:List (Int×Bool)):List Deed:=(bif((ak l_ known hour void_) ==(-1))then l_ else(match am (aQ l_ known hour void_) (l_.length+1) 0 (l_,(ak l_ known hour void_),(i64.wrap ((ak l_ known hour void_)+1)))with| .inl x_0_0=>(((yT .deed x_0_0.2 x_0_0.1 (x_0_0.2.length:Int)).take (Int.toNat x_0_0.1)).drop 0) | .inr s_0=>default))
def a7 (l_:List Deed)(known:Int)(hour:Int)(void_:List (Int×Bool)):Prop:=(((ak l_ known hour void_) ==(-1))=false→(okI (aQ l_ known hour void_) (bK l_ known hour void_) (l_.length+1) 0 (l_,(ak l_ known hour void_),(i64.wrap ((ak l_ known hour void_)+1)))∧(∀ z_,am (aQ l_ known hour void_) (l_.length+1) 0 (l_,(ak l_ known hour void_),(i64.wrap ((ak l_ known hour void_)+1)))≠ .inr z_)∧(∀ x_0_0,am (aQ l_ known hour void_) (l_.length+1) 0 (l_,(ak l_ known hour void_),(i64.wrap ((ak l_ known hour void_)+1)))=.inl x_0_0→((0≤x_0_0.1∧x_0_0.1≤(x_0_0.2.length:Int))∧(0≤0∧0≤x_0_0.1∧x_0_0.1≤((yT .deed x_0_0.2 x_0_0.1 (x_0_0.2.length:Int)).length:Int))))))
noncomputable def dK:List SV→List Ob→Option HCon:=iz (fun x_:(List Deed)×Int×Int×(List (Int×Bool)) =>[.os 0,.fn 73 [] [.ptr 1 0,.ptr 2 0,.ptr 3 0]]) (fun x_=>[.row .deed x_.1,.cells [.v (.int .i64 x_.2.1)],.cells [.v (.int .i64 x_.2.2.1)],.cells [.os 4],.mp .int .bool x_.2.2.2 none]) (fun x_=>fu (a7 x_.1 x_.2.1 x_.2.2.1 x_.2.2.2) (.os 5) [.dead,.cells [.v (.int .i64 x_.2.1)],.cells [.v (.int .i64 x_.2.2.1)],.cells [.os 4],.mp .int .bool x_.2.2.2 none,.row .deed (aY x_.1 x_.2.1 x_.2.2.1 x_.2.2.2)])
@[go_sem] theorem rO (l_:List Deed)(known:Int)(hour:Int)(void_:List (Int×Bool)){p4_:Option (Nat×Option Tag.int.T)}(hp4_:p4_=none):dK ([.os 0,.fn (73:Nat) [] [.ptr 1 0,.ptr 2 0,.ptr 3 0]]) ([.row .deed l_,.cells [.v (.int .i64 known)],.cells [.v (.int .i64 hour)],.cells [.os 4],.mp .int .bool void_ p4_])=some (fu (a7 l_ known hour void_) (.os 5) [.dead,.cells [.v (.int .i64 known)],.cells [.v (.int .i64 hour)],.cells [.os 4],.mp .int .bool void_ none,.row .deed (aY l_ known hour void_)]):=by
 subst hp4_;exact fN (A:=fun x_:(List Deed)×Int×Int×(List (Int×Bool)) =>[.os 0,.fn 73 [] [.ptr 1 0,.ptr 2 0,.ptr 3 0]]) (H:=fun x_=>[.row .deed x_.1,.cells [.v (.int .i64 x_.2.1)],.cells [.v (.int .i64 x_.2.2.1)],.cells [.os 4],.mp .int .bool x_.2.2.2 none]) (K:=fun x_=>fu (a7 x_.1 x_.2.1 x_.2.2.1 x_.2.2.2) (.os 5) [.dead,.cells [.v (.int .i64 x_.2.1)],.cells [.v (.int .i64 x_.2.2.1)],.cells [.os 4],.mp .int .bool x_.2.2.2 none,.row .deed (aY x_.1 x_.2.1 x_.2.2.1 x_.2.2.2)]) (x:=(l_,known,hour,void_))
theorem Wu {l0 l1:List Nat}(a0:JL l0)(a1:JL l1){p:Prop}(h:JL l0→JL l1→p:=by intro ja jb;simp only[go_sem,Nat.reduceBEq,Nat.reduceLeDiff,Nat.reduceLT,decide_true,Nat.reduceAdd,Nat.reduceSub,Nat.reduceMul,Int.reduceLE,Int.reduceLT,Int.reduceToNat,Int.reduceNeg,reduceCtorEq,dJ];all_goals exact ij ja jb):p:=h a0 a1
theorem jg:FnOkO Tryz.prog 71 (dK):=by
 have hG:ConsOk Tryz.prog (mkG [(73,fun l=>iA (cn [.st .deed,.o,.o,.o] l)),(84,fun l=>dJ (cn [.sl .deed,.o] l))] []):=ap (cgc (lE.norm [.st .deed,.o,.o,.o]) (cgc (jf.norm [.sl .deed,.o]) cg0)) cg0;refine gI mixed aj hG (fn:=Tryz.f71) (c:=ae Tryz.f71) kr kr kr kr fun l o con h=>?_;obtain⟨⟨l_,known,hour,void_⟩,rfl,rfl,rfl⟩:=dY h;clear h;try dsimp only
 refine⟨_,_,_,rfl,fun hp=>?_⟩;unfold a7 at hp;refine⟨nbl rfl,(fun id st=>bif Nat.beq id 0 then some (LCV (ρ:=(Int×List Deed)) (σ:=(List Deed×Int×Int)) 5 [] [0,1,2,3,4] (fun k_0 s_0=>⟨[(0,.os 0),(1,.fn 73 [] [.ptr 1 0,.ptr 2 0,.ptr 3 0]),(5,.v (.int .i64 s_0.2.1)),(6,.v (.int .i64 s_0.2.2))],[.row .deed s_0.1,.cells [.v (.int .i64 known)],.cells [.v (.int .i64 hour)],.cells [.os 4],.mp .int .bool void_ none]⟩) (aQ l_ known hour void_) (bK l_ known hour void_) (l_.length+1) (l_,(ak l_ known hour void_),(i64.wrap ((ak l_ known hour void_)+1))) (fun _=>.normal) (fun x_0_0=>⟨[(0,.os 0),(5,.v (.int .i64 x_0_0.1))],[.row .deed x_0_0.2,.cells [.v (.int .i64 known)],.cells [.v (.int .i64 hour)],.cells [.os 4],.mp .int .bool void_ none]⟩) st)else none),?_,?_⟩
 ·unfold ae Tryz.f71;simp only[al,true_and,and_true,and_assoc]
  ·refine dR mixed aj hG kr (fun _=>rfl) fun k_0 s_0 hq0=>⟨L0,ag _,?_⟩
   ·unfold bK at hq0;exact cJ (jl [0,1,2,3,4])
 ·unfold ae Tryz.f71;try unfold aY
  exact Wu (jl [0,1,2,3,4,0]) (jl [0,1,2,3,4,5])
@[go_sem] def aN (a:Int)(l_:List Deed)(k_1:Nat)(s_1:List Deed×Int):(List Deed)⊕(List Deed×Int):=(bif((decide (s_1.2 > a))&&(decide ((cF (s_1.1.getD (Int.toNat s_1.2) (default:Deed)) (s_1.1.getD (Int.toNat (i64.wrap (s_1.2 - 1))) (default:Deed))) <0)))then .inr (((s_1.1.set (Int.toNat s_1.2) (s_1.1.getD (Int.toNat (i64.wrap (s_1.2 - 1))) (default:Deed))).set (Int.toNat (i64.wrap (s_1.2 - 1))) (s_1.1.getD (Int.toNat s_1.2) (default:Deed))),(i64.wrap (s_1.2 - 1)))else .inl s_1.1)
def a_ (a:Int)(l_:List Deed)(k_1:Nat)(s_1:List Deed×Int):Prop:=(((decide (s_1.2 > a))=true→(0≤s_1.2∧s_1.2< (s_1.1.length:Int)))∧(((decide (s_1.2 > a))=true→(0≤(i64.wrap (s_1.2 - 1))∧(i64.wrap (s_1.2 - 1)) < (s_1.1.length:Int)))∧(((decide (s_1.2 > a))&&(decide ((cF (s_1.1.getD (Int.toNat s_1.2) (default:Deed)) (s_1.1.getD (Int.toNat (i64.wrap (s_1.2 - 1))) (default:Deed))) <0)))=true→((0≤(i64.wrap (s_1.2 - 1))∧(i64.wrap (s_1.2 - 1)) < (s_1.1.length:Int))∧((0≤s_1.2∧s_1.2< (s_1.1.length:Int))∧((0≤s_1.2∧s_1.2< (s_1.1.length:Int))∧(0≤(i64.wrap (s_1.2 - 1))∧(i64.wrap (s_1.2 - 1)) < ((s_1.1.set (Int.toNat s_1.2) (s_1.1.getD (Int.toNat (i64.wrap (s_1.2 - 1))) (default:Deed))).length:Int))))))))
@[go_sem] def aG (a:Int)(b:Int)(l_:List Deed)(k_0:Nat)(s_0:List Deed×Int):(List Deed)⊕(List Deed×Int):=(bif(decide (s_0.2<b))then(match am (aN a l_) (l_.length+1) 0 (s_0.1,s_0.2)with| .inl x_1_0=>.inr (x_1_0,(i64.wrap (s_0.2+1))) | .inr s_1=>.inr default)else .inl s_0.1)
def aV (a:Int)(b:Int)(l_:List Deed)(k_0:Nat)(s_0:List Deed×Int):Prop:=((decide (s_0.2<b))=true→(okI (aN a l_) (a_ a l_) (l_.length+1) 0 (s_0.1,s_0.2)∧(∀ z_,am (aN a l_) (l_.length+1) 0 (s_0.1,s_0.2)≠ .inr z_)))
def az (a:Int)(b:Int)(l_:List Deed):List Deed:=(match am (aG a b l_) (l_.length+1) 0 (l_,(i64.wrap (a+1)))with| .inl x_0_0=>x_0_0| .inr s_0=>default)
def aR (a:Int)(b:Int)(l_:List Deed):Prop:=(okI (aG a b l_) (aV a b l_) (l_.length+1) 0 (l_,(i64.wrap (a+1)))∧(∀ z_,am (aG a b l_) (l_.length+1) 0 (l_,(i64.wrap (a+1)))≠ .inr z_))
noncomputable def dz:List SV→List Ob→Option HCon:=iz (fun x_:Int×Int×(List Deed) =>[.os 0,.v (.int .i64 x_.1),.v (.int .i64 x_.2.1),.fn 75 [] []]) (fun x_=>[.row .deed x_.2.2]) (fun x_=>fu (aR x_.1 x_.2.1 x_.2.2) (.tup []) [.row .deed (az x_.1 x_.2.1 x_.2.2)])
@[go_sem] theorem rK (a:Int)(b:Int)(l_:List Deed):dz ([.os 0,.v (.int .i64 a),.v (.int .i64 b),.fn 75 [] []]) ([.row .deed l_])=some (fu (aR a b l_) (.tup []) [.row .deed (az a b l_)]):=fN (A:=fun x_:Int×Int×(List Deed) =>[.os 0,.v (.int .i64 x_.1),.v (.int .i64 x_.2.1),.fn 75 [] []]) (H:=fun x_=>[.row .deed x_.2.2]) (K:=fun x_=>fu (aR x_.1 x_.2.1 x_.2.2) (.tup []) [.row .deed (az x_.1 x_.2.1 x_.2.2)]) (x:=(a,b,l_))
theorem iN:FnOkO Tryz.prog 148 (dz):=by
 have hG:ConsOk Tryz.prog (mkG [(75,fun l=>iB (cn [.st .deed,.st .deed] l))] []):=ap (cgc (lF.norm [.st .deed,.st .deed]) cg0) cg0;refine gI mixed aj hG (fn:=Tryz.f148) (c:=ae Tryz.f148) kr kr kr kr fun l o con h=>?_;obtain⟨⟨a,b,l_⟩,rfl,rfl,rfl⟩:=dY h;clear h;try dsimp only
 refine⟨_,_,_,rfl,fun hp=>?_⟩;unfold aR at hp;refine⟨nbl rfl,(fun id st=>bif Nat.beq id 0 then some (LCV (ρ:=(List Deed)) (σ:=(List Deed×Int)) 1 [] [0] (fun k_0 s_0=>⟨[(0,.os 0),(1,.v (.int .i64 a)),(2,.v (.int .i64 b)),(3,.fn 75 [] []),(8,.v (.int .i64 s_0.2))],[.row .deed s_0.1]⟩) (aG a b l_) (aV a b l_) (l_.length+1) (l_,(i64.wrap (a+1))) (fun _=>.normal) (fun x_0_0=>⟨[],[.row .deed x_0_0]⟩) st)else none),?_,?_⟩
 ·unfold ae Tryz.f148;simp only[al,true_and,and_true,and_assoc]
  ·refine dR mixed aj hG kr (fun _=>rfl) fun k_0 s_0 hq0=>⟨(fun id st=>bif Nat.beq id 2 then some (LCV (ρ:=(List Deed)) (σ:=(List Deed×Int)) 1 [] [0] (fun k_1 s_1=>⟨[(0,.os 0),(1,.v (.int .i64 a)),(2,.v (.int .i64 b)),(3,.fn 75 [] []),(8,.v (.int .i64 s_0.2)),(9,.v (.int .i64 s_1.2))],[.row .deed s_1.1]⟩) (aN a l_) (a_ a l_) (l_.length+1) (s_0.1,s_0.2) (fun _=>.normal) (fun x_1_0=>⟨[(0,.os 0),(1,.v (.int .i64 a)),(2,.v (.int .i64 b)),(3,.fn 75 [] []),(8,.v (.int .i64 s_0.2))],[.row .deed x_1_0]⟩) st)else none),?_,?_⟩
   ·simp only[al,true_and,and_true]
    ·refine dR mixed aj hG kr (fun _=>rfl) fun k_1 s_1 hq1=>⟨L0,ag _,?_⟩
     ·unfold a_ at hq1;exact cJ (jl [0])
   ·unfold aV at hq0;exact cJ (jl [0])
 ·unfold ae Tryz.f148;try unfold az
  exact cJ (jl [0])
@[go_sem] def bJ (a:Int)(b:Int)(n:Int)(k_0:Nat)(s_0:List Deed):Empty⊕(List Deed):=.inr ((s_0.set (Int.toNat (i64.wrap (a+(k_0:Int)))) (s_0.getD (Int.toNat (i64.wrap (b+(k_0:Int)))) (default:Deed))).set (Int.toNat (i64.wrap (b+(k_0:Int)))) (s_0.getD (Int.toNat (i64.wrap (a+(k_0:Int)))) (default:Deed)))
def bT (a:Int)(b:Int)(n:Int)(k_0:Nat)(s_0:List Deed):Prop:=((0≤(i64.wrap (b+(k_0:Int)))∧(i64.wrap (b+(k_0:Int))) < (s_0.length:Int))∧((0≤(i64.wrap (a+(k_0:Int)))∧(i64.wrap (a+(k_0:Int))) < (s_0.length:Int))∧((0≤(i64.wrap (a+(k_0:Int)))∧(i64.wrap (a+(k_0:Int))) < (s_0.length:Int))∧(0≤(i64.wrap (b+(k_0:Int)))∧(i64.wrap (b+(k_0:Int))) < ((s_0.set (Int.toNat (i64.wrap (a+(k_0:Int)))) (s_0.getD (Int.toNat (i64.wrap (b+(k_0:Int)))) (default:Deed))).length:Int)))))
def aX (a:Int)(b:Int)(n:Int)(l_:List Deed):List Deed:=(match am (bJ a b n) (Int.toNat n) 0 l_ with| .inl x=>x.elim| .inr s_0=>s_0)
def aS (a:Int)(b:Int)(n:Int)(l_:List Deed):Prop:=((n<9223372036854775808)∧okI (bJ a b n) (bT a b n) (Int.toNat n) 0 l_)
noncomputable def dZ:List SV→List Ob→Option HCon:=iz (fun x_:Int×Int×Int×(List Deed) =>[.os 0,.v (.int .i64 x_.1),.v (.int .i64 x_.2.1),.v (.int .i64 x_.2.2.1),.fn 75 [] []]) (fun x_=>[.row .deed x_.2.2.2]) (fun x_=>fu (aS x_.1 x_.2.1 x_.2.2.1 x_.2.2.2) (.tup []) [.row .deed (aX x_.1 x_.2.1 x_.2.2.1 x_.2.2.2)])
@[go_sem] theorem tt (a:Int)(b:Int)(n:Int)(l_:List Deed):dZ ([.os 0,.v (.int .i64 a),.v (.int .i64 b),.v (.int .i64 n),.fn 75 [] []]) ([.row .deed l_])=some (fu (aS a b n l_) (.tup []) [.row .deed (aX a b n l_)]):=fN (A:=fun x_:Int×Int×Int×(List Deed) =>[.os 0,.v (.int .i64 x_.1),.v (.int .i64 x_.2.1),.v (.int .i64 x_.2.2.1),.fn 75 [] []]) (H:=fun x_=>[.row .deed x_.2.2.2]) (K:=fun x_=>fu (aS x_.1 x_.2.1 x_.2.2.1 x_.2.2.2) (.tup []) [.row .deed (aX x_.1 x_.2.1 x_.2.2.1 x_.2.2.2)]) (x:=(a,b,n,l_))
theorem j8:FnOkO Tryz.prog 183 (dZ):=by
 have hG:ConsOk Tryz.prog (mkG [] []):=ap cg0 cg0;refine gI mixed aj hG (fn:=Tryz.f183) (c:=ae Tryz.f183) kr kr kr kr fun l o con h=>?_;obtain⟨⟨a,b,n,l_⟩,rfl,rfl,rfl⟩:=dY h;clear h;try dsimp only
 refine⟨_,_,_,rfl,fun hp=>?_⟩;unfold aS at hp;refine⟨nbl rfl,(fun id st=>bif Nat.beq id 0 then some (LCR (ρ:=Empty) (σ:=(List Deed)) 1 [] [0] (fun k_0 s_0=>⟨[(0,.os 0),(1,.v (.int .i64 a)),(2,.v (.int .i64 b)),(3,.v (.int .i64 n)),(10,.v (.int .i64 (k_0:Int)))],[.row .deed s_0]⟩) (bJ a b n) (bT a b n) (Int.toNat n) l_ (n<9223372036854775808) ((·.elim)) ((·.elim)) st)else none),?_,?_⟩
 ·unfold ae Tryz.f183;simp only[al,true_and,and_true,and_assoc]
  ·refine dp mixed aj hG kr (fun _=>rfl) n rfl id (fun hb0 k_0 s_0 hlt0 hq0 hw hc=>⟨L0,ag _,?_⟩) (fun hb0 s_0 hc=>?_)
   ·unfold bT at hq0;try simp only[hw,Int.toNat_natCast]at hq0
    exact bF (jl [0])
   ·exact bG (jl [0])
 ·unfold ae Tryz.f183;try unfold aX
  exact cJ (jl [0])
@[go_sem] def bf (a:Int)(m:Int)(b:Int)(k_0:Nat)(s_0:List Deed×Int×Int):(Int×List Deed)⊕(List Deed×Int×Int):=(bif(s_0.2.1 !=s_0.2.2)then(bif(decide (s_0.2.1 > s_0.2.2))then .inr ((aX (i64.wrap (m - s_0.2.1)) m s_0.2.2 s_0.1),(i64.wrap (s_0.2.1 - s_0.2.2)),s_0.2.2)else .inr ((aX (i64.wrap (m - s_0.2.1)) (i64.wrap ((i64.wrap (m+s_0.2.2)) - s_0.2.1)) s_0.2.1 s_0.1),s_0.2.1,(i64.wrap (s_0.2.2 - s_0.2.1))))else .inl (s_0.2.1,s_0.1))
def cg (a:Int)(m:Int)(b:Int)(k_0:Nat)(s_0:List Deed×Int×Int):Prop:=((s_0.2.1 !=s_0.2.2)=true→(((decide (s_0.2.1 > s_0.2.2))=true→(aS (i64.wrap (m - s_0.2.1)) m s_0.2.2 s_0.1))∧((decide (s_0.2.1 > s_0.2.2))=false→(aS (i64.wrap (m - s_0.2.1)) (i64.wrap ((i64.wrap (m+s_0.2.2)) - s_0.2.1)) s_0.2.1 s_0.1))))
def ax (a:Int)(m:Int)(b:Int)(l_:List Deed):List Deed:=(match am (bf a m b) (Int.toNat (b - a)+1) 0 (l_,(i64.wrap (m - a)),(i64.wrap (b - m)))with| .inl x_0_0=>(aX (i64.wrap (m - x_0_0.1)) m x_0_0.1 x_0_0.2) | .inr s_0=>default)
def bq (a:Int)(m:Int)(b:Int)(l_:List Deed):Prop:=(okI (bf a m b) (cg a m b) (Int.toNat (b - a)+1) 0 (l_,(i64.wrap (m - a)),(i64.wrap (b - m)))∧(∀ z_,am (bf a m b) (Int.toNat (b - a)+1) 0 (l_,(i64.wrap (m - a)),(i64.wrap (b - m)))≠ .inr z_)∧(∀ x_0_0,am (bf a m b) (Int.toNat (b - a)+1) 0 (l_,(i64.wrap (m - a)),(i64.wrap (b - m)))=.inl x_0_0→(aS (i64.wrap (m - x_0_0.1)) m x_0_0.1 x_0_0.2)))
noncomputable def eI:List SV→List Ob→Option HCon:=iz (fun x_:Int×Int×Int×(List Deed) =>[.os 0,.v (.int .i64 x_.1),.v (.int .i64 x_.2.1),.v (.int .i64 x_.2.2.1),.fn 75 [] []]) (fun x_=>[.row .deed x_.2.2.2]) (fun x_=>fu (bq x_.1 x_.2.1 x_.2.2.1 x_.2.2.2) (.tup []) [.row .deed (ax x_.1 x_.2.1 x_.2.2.1 x_.2.2.2)])
@[go_sem] theorem uU (a:Int)(m:Int)(b:Int)(l_:List Deed):eI ([.os 0,.v (.int .i64 a),.v (.int .i64 m),.v (.int .i64 b),.fn 75 [] []]) ([.row .deed l_])=some (fu (bq a m b l_) (.tup []) [.row .deed (ax a m b l_)]):=fN (A:=fun x_:Int×Int×Int×(List Deed) =>[.os 0,.v (.int .i64 x_.1),.v (.int .i64 x_.2.1),.v (.int .i64 x_.2.2.1),.fn 75 [] []]) (H:=fun x_=>[.row .deed x_.2.2.2]) (K:=fun x_=>fu (bq x_.1 x_.2.1 x_.2.2.1 x_.2.2.2) (.tup []) [.row .deed (ax x_.1 x_.2.1 x_.2.2.1 x_.2.2.2)]) (x:=(a,m,b,l_))
theorem lG:FnOkO Tryz.prog 170 (eI):=by
 have hG:ConsOk Tryz.prog (mkG [] [(183,dZ)]):=ap cg0 (cgc j8 cg0);refine gI mixed aj hG (fn:=Tryz.f170) (c:=ae Tryz.f170) kr kr kr kr fun l o con h=>?_;obtain⟨⟨a,m,b,l_⟩,rfl,rfl,rfl⟩:=dY h;clear h;try dsimp only
 refine⟨_,_,_,rfl,fun hp=>?_⟩;unfold bq at hp;refine⟨nbl rfl,(fun id st=>bif Nat.beq id 0 then some (LCV (ρ:=(Int×List Deed)) (σ:=(List Deed×Int×Int)) 1 [] [0] (fun k_0 s_0=>⟨[(0,.os 0),(2,.v (.int .i64 m)),(4,.fn 75 [] []),(10,.v (.int .i64 s_0.2.1)),(11,.v (.int .i64 s_0.2.2))],[.row .deed s_0.1]⟩) (bf a m b) (cg a m b) (Int.toNat (b - a)+1) (l_,(i64.wrap (m - a)),(i64.wrap (b - m))) (fun _=>.normal) (fun x_0_0=>⟨[(0,.os 0),(2,.v (.int .i64 m)),(4,.fn 75 [] []),(10,.v (.int .i64 x_0_0.1))],[.row .deed x_0_0.2]⟩) st)else none),?_,?_⟩
 ·unfold ae Tryz.f170;simp only[al,true_and,and_true,and_assoc]
  ·refine dR mixed aj hG kr (fun _=>rfl) fun k_0 s_0 hq0=>⟨L0,ag _,?_⟩
   ·unfold cg at hq0;exact cJ (jl [0])
 ·unfold ae Tryz.f170;try unfold ax
  exact cJ (jl [0])
noncomputable def Do (rec_:Int→Int→Int→List Deed→List Deed)(recp_:Int→Int→Int→List Deed→Prop):List SV→List Ob→Option HCon:=iz (fun x_:Int×Int×Int×(List Deed) =>[.os 0,.v (.int .i64 x_.1),.v (.int .i64 x_.2.1),.v (.int .i64 x_.2.2.1),.fn 75 [] []]) (fun x_=>[.row .deed x_.2.2.2]) (fun x_=>fu (recp_ x_.1 x_.2.1 x_.2.2.1 x_.2.2.2) (.tup []) [.row .deed (rec_ x_.1 x_.2.1 x_.2.2.1 x_.2.2.2)])
@[go_sem] theorem BZ (rec_:Int→Int→Int→List Deed→List Deed)(recp_:Int→Int→Int→List Deed→Prop)(a:Int)(m:Int)(b:Int)(l_:List Deed):Do rec_ recp_ ([.os 0,.v (.int .i64 a),.v (.int .i64 m),.v (.int .i64 b),.fn 75 [] []]) ([.row .deed l_])=some (fu (recp_ a m b l_) (.tup []) [.row .deed (rec_ a m b l_)]):=fN (A:=fun x_:Int×Int×Int×(List Deed) =>[.os 0,.v (.int .i64 x_.1),.v (.int .i64 x_.2.1),.v (.int .i64 x_.2.2.1),.fn 75 [] []]) (H:=fun x_=>[.row .deed x_.2.2.2]) (K:=fun x_=>fu (recp_ x_.1 x_.2.1 x_.2.2.1 x_.2.2.2) (.tup []) [.row .deed (rec_ x_.1 x_.2.1 x_.2.2.1 x_.2.2.2)]) (x:=(a,m,b,l_))
@[go_sem] def lH (a:Int)(l_:List Deed)(k_0:Nat)(s_0:Int×Int):Int⊕(Int×Int):=(bif(decide (s_0.1<s_0.2))then(bif(decide ((cF (l_.getD (Int.toNat (i64.wrap (bw .u64 (u64.wrap (i64.wrap (s_0.1+s_0.2))) 1))) (default:Deed)) (l_.getD (Int.toNat a) (default:Deed))) <0))then .inr ((i64.wrap ((i64.wrap (bw .u64 (u64.wrap (i64.wrap (s_0.1+s_0.2))) 1))+1)),s_0.2)else .inr (s_0.1,(i64.wrap (bw .u64 (u64.wrap (i64.wrap (s_0.1+s_0.2))) 1))))else .inl s_0.1)
def ov (a:Int)(l_:List Deed)(k_0:Nat)(s_0:Int×Int):Prop:=((decide (s_0.1<s_0.2))=true→((0≤(i64.wrap (bw .u64 (u64.wrap (i64.wrap (s_0.1+s_0.2))) 1))∧(i64.wrap (bw .u64 (u64.wrap (i64.wrap (s_0.1+s_0.2))) 1)) < (l_.length:Int))∧(0≤a∧a< (l_.length:Int))))
@[go_sem] def qZ (l_:List Deed)(x_0_0:Int)(k_1:Nat)(s_1:List Deed×Int):(List Deed)⊕(List Deed×Int):=(bif(decide (s_1.2< (i64.wrap (x_0_0 - 1))))then .inr (((s_1.1.set (Int.toNat s_1.2) (s_1.1.getD (Int.toNat (i64.wrap (s_1.2+1))) (default:Deed))).set (Int.toNat (i64.wrap (s_1.2+1))) (s_1.1.getD (Int.toNat s_1.2) (default:Deed))),(i64.wrap (s_1.2+1)))else .inl s_1.1)
def qr (l_:List Deed)(x_0_0:Int)(k_1:Nat)(s_1:List Deed×Int):Prop:=((decide (s_1.2< (i64.wrap (x_0_0 - 1))))=true→((0≤(i64.wrap (s_1.2+1))∧(i64.wrap (s_1.2+1)) < (s_1.1.length:Int))∧((0≤s_1.2∧s_1.2< (s_1.1.length:Int))∧((0≤s_1.2∧s_1.2< (s_1.1.length:Int))∧(0≤(i64.wrap (s_1.2+1))∧(i64.wrap (s_1.2+1)) < ((s_1.1.set (Int.toNat s_1.2) (s_1.1.getD (Int.toNat (i64.wrap (s_1.2+1))) (default:Deed))).length:Int))))))
@[go_sem] def lI (m:Int)(l_:List Deed)(k_2:Nat)(s_2:Int×Int):Int⊕(Int×Int):=(bif(decide (s_2.1<s_2.2))then(bif(!(decide ((cF (l_.getD (Int.toNat m) (default:Deed)) (l_.getD (Int.toNat (i64.wrap (bw .u64 (u64.wrap (i64.wrap (s_2.1+s_2.2))) 1))) (default:Deed))) <0)))then .inr ((i64.wrap ((i64.wrap (bw .u64 (u64.wrap (i64.wrap (s_2.1+s_2.2))) 1))+1)),s_2.2)else .inr (s_2.1,(i64.wrap (bw .u64 (u64.wrap (i64.wrap (s_2.1+s_2.2))) 1))))else .inl s_2.1)
def ow (m:Int)(l_:List Deed)(k_2:Nat)(s_2:Int×Int):Prop:=((decide (s_2.1<s_2.2))=true→((0≤m∧m< (l_.length:Int))∧(0≤(i64.wrap (bw .u64 (u64.wrap (i64.wrap (s_2.1+s_2.2))) 1))∧(i64.wrap (bw .u64 (u64.wrap (i64.wrap (s_2.1+s_2.2))) 1)) < (l_.length:Int))))
@[go_sem] def q_ (l_:List Deed)(x_2_0:Int)(k_3:Nat)(s_3:List Deed×Int):(List Deed)⊕(List Deed×Int):=(bif(decide (s_3.2 > x_2_0))then .inr (((s_3.1.set (Int.toNat s_3.2) (s_3.1.getD (Int.toNat (i64.wrap (s_3.2 - 1))) (default:Deed))).set (Int.toNat (i64.wrap (s_3.2 - 1))) (s_3.1.getD (Int.toNat s_3.2) (default:Deed))),(i64.wrap (s_3.2 - 1)))else .inl s_3.1)
def qs (l_:List Deed)(x_2_0:Int)(k_3:Nat)(s_3:List Deed×Int):Prop:=((decide (s_3.2 > x_2_0))=true→((0≤(i64.wrap (s_3.2 - 1))∧(i64.wrap (s_3.2 - 1)) < (s_3.1.length:Int))∧((0≤s_3.2∧s_3.2< (s_3.1.length:Int))∧((0≤s_3.2∧s_3.2< (s_3.1.length:Int))∧(0≤(i64.wrap (s_3.2 - 1))∧(i64.wrap (s_3.2 - 1)) < ((s_3.1.set (Int.toNat s_3.2) (s_3.1.getD (Int.toNat (i64.wrap (s_3.2 - 1))) (default:Deed))).length:Int))))))
@[go_sem] def pn (a:Int)(m:Int)(b:Int)(l_:List Deed)(k_4:Nat)(s_4:Int×Int):Int⊕(Int×Int):=(bif(decide (s_4.1<s_4.2))then(bif(!(decide ((cF (l_.getD (Int.toNat (i64.wrap ((i64.wrap ((i64.wrap ((i64.wrap (bw .u64 (u64.wrap (i64.wrap (a+b))) 1))+m)) - 1)) - (i64.wrap (bw .u64 (u64.wrap (i64.wrap (s_4.1+s_4.2))) 1))))) (default:Deed)) (l_.getD (Int.toNat (i64.wrap (bw .u64 (u64.wrap (i64.wrap (s_4.1+s_4.2))) 1))) (default:Deed))) <0)))then .inr ((i64.wrap ((i64.wrap (bw .u64 (u64.wrap (i64.wrap (s_4.1+s_4.2))) 1))+1)),s_4.2)else .inr (s_4.1,(i64.wrap (bw .u64 (u64.wrap (i64.wrap (s_4.1+s_4.2))) 1))))else .inl s_4.1)
def ox (a:Int)(m:Int)(b:Int)(l_:List Deed)(k_4:Nat)(s_4:Int×Int):Prop:=((decide (s_4.1<s_4.2))=true→((0≤(i64.wrap ((i64.wrap ((i64.wrap ((i64.wrap (bw .u64 (u64.wrap (i64.wrap (a+b))) 1))+m)) - 1)) - (i64.wrap (bw .u64 (u64.wrap (i64.wrap (s_4.1+s_4.2))) 1))))∧(i64.wrap ((i64.wrap ((i64.wrap ((i64.wrap (bw .u64 (u64.wrap (i64.wrap (a+b))) 1))+m)) - 1)) - (i64.wrap (bw .u64 (u64.wrap (i64.wrap (s_4.1+s_4.2))) 1)))) < (l_.length:Int))∧(0≤(i64.wrap (bw .u64 (u64.wrap (i64.wrap (s_4.1+s_4.2))) 1))∧(i64.wrap (bw .u64 (u64.wrap (i64.wrap (s_4.1+s_4.2))) 1)) < (l_.length:Int))))
def Dp (rec_:Int→Int→Int→List Deed→List Deed)(recp_:Int→Int→Int→List Deed→Prop)(a:Int)(m:Int)(b:Int)(l_:List Deed):List Deed:=(bif((i64.wrap (m - a)) ==1)then(match am (lH a l_) (l_.length+1) 0 (m,b)with| .inl x_0_0=>(match am (qZ l_ x_0_0) (l_.length+1) 0 (l_,a)with| .inl x_1_0=>x_1_0| .inr s_1=>default) | .inr s_0=>default)else(bif((i64.wrap (b - m)) ==1)then(match am (lI m l_) (l_.length+1) 0 (a,m)with| .inl x_2_0=>(match am (q_ l_ x_2_0) (l_.length+1) 0 (l_,m)with| .inl x_3_0=>x_3_0| .inr s_3=>default) | .inr s_2=>default)else(match am (pn a m b l_) (l_.length+1) 0 ((bif(decide (m > (i64.wrap (bw .u64 (u64.wrap (i64.wrap (a+b))) 1))))then(i64.wrap ((i64.wrap ((i64.wrap (bw .u64 (u64.wrap (i64.wrap (a+b))) 1))+m)) - b))else a),(bif(decide (m > (i64.wrap (bw .u64 (u64.wrap (i64.wrap (a+b))) 1))))then(i64.wrap (bw .u64 (u64.wrap (i64.wrap (a+b))) 1))else m))with| .inl x_4_0=>(bif((decide (x_4_0<m))&&(decide (m< (i64.wrap ((i64.wrap ((i64.wrap (bw .u64 (u64.wrap (i64.wrap (a+b))) 1))+m)) - x_4_0)))))then(bif((decide (a<x_4_0))&&(decide (x_4_0< (i64.wrap (bw .u64 (u64.wrap (i64.wrap (a+b))) 1)))))then(bif((decide ((i64.wrap (bw .u64 (u64.wrap (i64.wrap (a+b))) 1)) < (i64.wrap ((i64.wrap ((i64.wrap (bw .u64 (u64.wrap (i64.wrap (a+b))) 1))+m)) - x_4_0))))&&(decide ((i64.wrap ((i64.wrap ((i64.wrap (bw .u64 (u64.wrap (i64.wrap (a+b))) 1))+m)) - x_4_0)) <b)))then(rec_ (i64.wrap (bw .u64 (u64.wrap (i64.wrap (a+b))) 1)) (i64.wrap ((i64.wrap ((i64.wrap (bw .u64 (u64.wrap (i64.wrap (a+b))) 1))+m)) - x_4_0)) b (rec_ a x_4_0 (i64.wrap (bw .u64 (u64.wrap (i64.wrap (a+b))) 1)) (ax x_4_0 m (i64.wrap ((i64.wrap ((i64.wrap (bw .u64 (u64.wrap (i64.wrap (a+b))) 1))+m)) - x_4_0)) l_)))else(rec_ a x_4_0 (i64.wrap (bw .u64 (u64.wrap (i64.wrap (a+b))) 1)) (ax x_4_0 m (i64.wrap ((i64.wrap ((i64.wrap (bw .u64 (u64.wrap (i64.wrap (a+b))) 1))+m)) - x_4_0)) l_)))else(bif((decide ((i64.wrap (bw .u64 (u64.wrap (i64.wrap (a+b))) 1)) < (i64.wrap ((i64.wrap ((i64.wrap (bw .u64 (u64.wrap (i64.wrap (a+b))) 1))+m)) - x_4_0))))&&(decide ((i64.wrap ((i64.wrap ((i64.wrap (bw .u64 (u64.wrap (i64.wrap (a+b))) 1))+m)) - x_4_0)) <b)))then(rec_ (i64.wrap (bw .u64 (u64.wrap (i64.wrap (a+b))) 1)) (i64.wrap ((i64.wrap ((i64.wrap (bw .u64 (u64.wrap (i64.wrap (a+b))) 1))+m)) - x_4_0)) b (ax x_4_0 m (i64.wrap ((i64.wrap ((i64.wrap (bw .u64 (u64.wrap (i64.wrap (a+b))) 1))+m)) - x_4_0)) l_))else(ax x_4_0 m (i64.wrap ((i64.wrap ((i64.wrap (bw .u64 (u64.wrap (i64.wrap (a+b))) 1))+m)) - x_4_0)) l_)))else(bif((decide (a<x_4_0))&&(decide (x_4_0< (i64.wrap (bw .u64 (u64.wrap (i64.wrap (a+b))) 1)))))then(bif((decide ((i64.wrap (bw .u64 (u64.wrap (i64.wrap (a+b))) 1)) < (i64.wrap ((i64.wrap ((i64.wrap (bw .u64 (u64.wrap (i64.wrap (a+b))) 1))+m)) - x_4_0))))&&(decide ((i64.wrap ((i64.wrap ((i64.wrap (bw .u64 (u64.wrap (i64.wrap (a+b))) 1))+m)) - x_4_0)) <b)))then(rec_ (i64.wrap (bw .u64 (u64.wrap (i64.wrap (a+b))) 1)) (i64.wrap ((i64.wrap ((i64.wrap (bw .u64 (u64.wrap (i64.wrap (a+b))) 1))+m)) - x_4_0)) b (rec_ a x_4_0 (i64.wrap (bw .u64 (u64.wrap (i64.wrap (a+b))) 1)) l_))else(rec_ a x_4_0 (i64.wrap (bw .u64 (u64.wrap (i64.wrap (a+b))) 1)) l_))else(bif((decide ((i64.wrap (bw .u64 (u64.wrap (i64.wrap (a+b))) 1)) < (i64.wrap ((i64.wrap ((i64.wrap (bw .u64 (u64.wrap (i64.wrap (a+b))) 1))+m)) - x_4_0))))&&(decide ((i64.wrap ((i64.wrap ((i64.wrap (bw .u64 (u64.wrap (i64.wrap (a+b))) 1))+m)) - x_4_0)) <b)))then(rec_ (i64.wrap (bw .u64 (u64.wrap (i64.wrap (a+b))) 1)) (i64.wrap ((i64.wrap ((i64.wrap (bw .u64 (u64.wrap (i64.wrap (a+b))) 1))+m)) - x_4_0)) b l_)else l_))) | .inr s_4=>default)))
def ra (rec_:Int→Int→Int→List Deed→List Deed)(recp_:Int→Int→Int→List Deed→Prop)(a:Int)(m:Int)(b:Int)(l_:List Deed):Prop:=((((i64.wrap (m - a)) ==1)=true→(okI (lH a l_) (ov a l_) (l_.length+1) 0 (m,b)∧(∀ z_,am (lH a l_) (l_.length+1) 0 (m,b)≠ .inr z_)∧(∀ x_0_0,am (lH a l_) (l_.length+1) 0 (m,b)=.inl x_0_0→(okI (qZ l_ x_0_0) (qr l_ x_0_0) (l_.length+1) 0 (l_,a)∧(∀ z_,am (qZ l_ x_0_0) (l_.length+1) 0 (l_,a)≠ .inr z_)))))∧(((i64.wrap (m - a)) ==1)=false→((((i64.wrap (b - m)) ==1)=true→(okI (lI m l_) (ow m l_) (l_.length+1) 0 (a,m)∧(∀ z_,am (lI m l_) (l_.length+1) 0 (a,m)≠ .inr z_)∧(∀ x_2_0,am (lI m l_) (l_.length+1) 0 (a,m)=.inl x_2_0→(okI (q_ l_ x_2_0) (qs l_ x_2_0) (l_.length+1) 0 (l_,m)∧(∀ z_,am (q_ l_ x_2_0) (l_.length+1) 0 (l_,m)≠ .inr z_)))))∧(((i64.wrap (b - m)) ==1)=false→(okI (pn a m b l_) (ox a m b l_) (l_.length+1) 0 ((bif(decide (m > (i64.wrap (bw .u64 (u64.wrap (i64.wrap (a+b))) 1))))then(i64.wrap ((i64.wrap ((i64.wrap (bw .u64 (u64.wrap (i64.wrap (a+b))) 1))+m)) - b))else a),(bif(decide (m > (i64.wrap (bw .u64 (u64.wrap (i64.wrap (a+b))) 1))))then(i64.wrap (bw .u64 (u64.wrap (i64.wrap (a+b))) 1))else m))∧(∀ z_,am (pn a m b l_) (l_.length+1) 0 ((bif(decide (m > (i64.wrap (bw .u64 (u64.wrap (i64.wrap (a+b))) 1))))then(i64.wrap ((i64.wrap ((i64.wrap (bw .u64 (u64.wrap (i64.wrap (a+b))) 1))+m)) - b))else a),(bif(decide (m > (i64.wrap (bw .u64 (u64.wrap (i64.wrap (a+b))) 1))))then(i64.wrap (bw .u64 (u64.wrap (i64.wrap (a+b))) 1))else m))≠ .inr z_)∧(∀ x_4_0,am (pn a m b l_) (l_.length+1) 0 ((bif(decide (m > (i64.wrap (bw .u64 (u64.wrap (i64.wrap (a+b))) 1))))then(i64.wrap ((i64.wrap ((i64.wrap (bw .u64 (u64.wrap (i64.wrap (a+b))) 1))+m)) - b))else a),(bif(decide (m > (i64.wrap (bw .u64 (u64.wrap (i64.wrap (a+b))) 1))))then(i64.wrap (bw .u64 (u64.wrap (i64.wrap (a+b))) 1))else m))=.inl x_4_0→((((decide (x_4_0<m))&&(decide (m< (i64.wrap ((i64.wrap ((i64.wrap (bw .u64 (u64.wrap (i64.wrap (a+b))) 1))+m)) - x_4_0)))))=true→((bq x_4_0 m (i64.wrap ((i64.wrap ((i64.wrap (bw .u64 (u64.wrap (i64.wrap (a+b))) 1))+m)) - x_4_0)) l_)∧((((decide (a<x_4_0))&&(decide (x_4_0< (i64.wrap (bw .u64 (u64.wrap (i64.wrap (a+b))) 1)))))=true→((recp_ a x_4_0 (i64.wrap (bw .u64 (u64.wrap (i64.wrap (a+b))) 1)) (ax x_4_0 m (i64.wrap ((i64.wrap ((i64.wrap (bw .u64 (u64.wrap (i64.wrap (a+b))) 1))+m)) - x_4_0)) l_))∧(((decide ((i64.wrap (bw .u64 (u64.wrap (i64.wrap (a+b))) 1)) < (i64.wrap ((i64.wrap ((i64.wrap (bw .u64 (u64.wrap (i64.wrap (a+b))) 1))+m)) - x_4_0))))&&(decide ((i64.wrap ((i64.wrap ((i64.wrap (bw .u64 (u64.wrap (i64.wrap (a+b))) 1))+m)) - x_4_0)) <b)))=true→(recp_ (i64.wrap (bw .u64 (u64.wrap (i64.wrap (a+b))) 1)) (i64.wrap ((i64.wrap ((i64.wrap (bw .u64 (u64.wrap (i64.wrap (a+b))) 1))+m)) - x_4_0)) b (rec_ a x_4_0 (i64.wrap (bw .u64 (u64.wrap (i64.wrap (a+b))) 1)) (ax x_4_0 m (i64.wrap ((i64.wrap ((i64.wrap (bw .u64 (u64.wrap (i64.wrap (a+b))) 1))+m)) - x_4_0)) l_))))))∧(((decide (a<x_4_0))&&(decide (x_4_0< (i64.wrap (bw .u64 (u64.wrap (i64.wrap (a+b))) 1)))))=false→(((decide ((i64.wrap (bw .u64 (u64.wrap (i64.wrap (a+b))) 1)) < (i64.wrap ((i64.wrap ((i64.wrap (bw .u64 (u64.wrap (i64.wrap (a+b))) 1))+m)) - x_4_0))))&&(decide ((i64.wrap ((i64.wrap ((i64.wrap (bw .u64 (u64.wrap (i64.wrap (a+b))) 1))+m)) - x_4_0)) <b)))=true→(recp_ (i64.wrap (bw .u64 (u64.wrap (i64.wrap (a+b))) 1)) (i64.wrap ((i64.wrap ((i64.wrap (bw .u64 (u64.wrap (i64.wrap (a+b))) 1))+m)) - x_4_0)) b (ax x_4_0 m (i64.wrap ((i64.wrap ((i64.wrap (bw .u64 (u64.wrap (i64.wrap (a+b))) 1))+m)) - x_4_0)) l_)))))))∧(((decide (x_4_0<m))&&(decide (m< (i64.wrap ((i64.wrap ((i64.wrap (bw .u64 (u64.wrap (i64.wrap (a+b))) 1))+m)) - x_4_0)))))=false→((((decide (a<x_4_0))&&(decide (x_4_0< (i64.wrap (bw .u64 (u64.wrap (i64.wrap (a+b))) 1)))))=true→((recp_ a x_4_0 (i64.wrap (bw .u64 (u64.wrap (i64.wrap (a+b))) 1)) l_)∧(((decide ((i64.wrap (bw .u64 (u64.wrap (i64.wrap (a+b))) 1)) < (i64.wrap ((i64.wrap ((i64.wrap (bw .u64 (u64.wrap (i64.wrap (a+b))) 1))+m)) - x_4_0))))&&(decide ((i64.wrap ((i64.wrap ((i64.wrap (bw .u64 (u64.wrap (i64.wrap (a+b))) 1))+m)) - x_4_0)) <b)))=true→(recp_ (i64.wrap (bw .u64 (u64.wrap (i64.wrap (a+b))) 1)) (i64.wrap ((i64.wrap ((i64.wrap (bw .u64 (u64.wrap (i64.wrap (a+b))) 1))+m)) - x_4_0)) b (rec_ a x_4_0 (i64.wrap (bw .u64 (u64.wrap (i64.wrap (a+b))) 1)) l_)))))∧(((decide (a<x_4_0))&&(decide (x_4_0< (i64.wrap (bw .u64 (u64.wrap (i64.wrap (a+b))) 1)))))=false→(((decide ((i64.wrap (bw .u64 (u64.wrap (i64.wrap (a+b))) 1)) < (i64.wrap ((i64.wrap ((i64.wrap (bw .u64 (u64.wrap (i64.wrap (a+b))) 1))+m)) - x_4_0))))&&(decide ((i64.wrap ((i64.wrap ((i64.wrap (bw .u64 (u64.wrap (i64.wrap (a+b))) 1))+m)) - x_4_0)) <b)))=true→(recp_ (i64.wrap (bw .u64 (u64.wrap (i64.wrap (a+b))) 1)) (i64.wrap ((i64.wrap ((i64.wrap (bw .u64 (u64.wrap (i64.wrap (a+b))) 1))+m)) - x_4_0)) b l_))))))))))))
noncomputable def R_ (rec_:Int→Int→Int→List Deed→List Deed)(recp_:Int→Int→Int→List Deed→Prop):List SV→List Ob→Option HCon:=iz (fun x_:Int×Int×Int×(List Deed) =>[.os 0,.v (.int .i64 x_.1),.v (.int .i64 x_.2.1),.v (.int .i64 x_.2.2.1),.fn 75 [] []]) (fun x_=>[.row .deed x_.2.2.2]) (fun x_=>fu (ra rec_ recp_ x_.1 x_.2.1 x_.2.2.1 x_.2.2.2) (.tup []) [.row .deed (Dp rec_ recp_ x_.1 x_.2.1 x_.2.2.1 x_.2.2.2)])
theorem OV (rec_:Int→Int→Int→List Deed→List Deed)(recp_:Int→Int→Int→List Deed→Prop)(hr:FnOkO Tryz.prog 149 (Do rec_ recp_)):FnOkO Tryz.prog 149 (R_ rec_ recp_):=by
 have hG:ConsOk Tryz.prog (mkG [(75,fun l=>iB (cn [.st .deed,.st .deed] l))] [(149,(Do rec_ recp_)),(170,eI)]):=ap (cgc (lF.norm [.st .deed,.st .deed]) cg0) (cgc hr (cgc lG cg0));refine gI mixed aj hG (fn:=Tryz.f149) (c:=ae Tryz.f149) kr kr kr kr fun l o con h=>?_;obtain⟨⟨a,m,b,l_⟩,rfl,rfl,rfl⟩:=dY h;clear h;try dsimp only
 refine⟨_,_,_,rfl,fun hp=>?_⟩;unfold ra at hp;refine⟨nbl rfl,(fun id st=>bif Nat.beq id 0 then some (LCV (ρ:=Int) (σ:=(Int×Int)) 1 [] [0] (fun k_0 s_0=>⟨[(0,.os 0),(1,.v (.int .i64 a)),(4,.fn 75 [] []),(10,.v (.int .i64 s_0.1)),(11,.v (.int .i64 s_0.2))],[.row .deed l_]⟩) (lH a l_) (ov a l_) (l_.length+1) (m,b) (fun _=>.normal) (fun x_0_0=>⟨[(0,.os 0),(1,.v (.int .i64 a)),(10,.v (.int .i64 x_0_0))],[.row .deed l_]⟩) st)else bif Nat.beq id 2 then some (LCV (ρ:=(List Deed)) (σ:=(List Deed×Int)) 1 [] [0] (fun k_1 s_1=>⟨[(0,.os 0),(10,.v (.int .i64 (ev (am (lH a l_) (l_.length+1) 0 (m,b))))),(13,.v (.int .i64 s_1.2))],[.row .deed s_1.1]⟩) (qZ l_ (ev (am (lH a l_) (l_.length+1) 0 (m,b)))) (qr l_ (ev (am (lH a l_) (l_.length+1) 0 (m,b)))) (l_.length+1) (l_,a) (fun _=>.normal) (fun x_1_0=>⟨[],[.row .deed x_1_0]⟩) st)else bif Nat.beq id 4 then some (LCV (ρ:=Int) (σ:=(Int×Int)) 1 [] [0] (fun k_2 s_2=>⟨[(0,.os 0),(2,.v (.int .i64 m)),(4,.fn 75 [] []),(14,.v (.int .i64 s_2.1)),(15,.v (.int .i64 s_2.2))],[.row .deed l_]⟩) (lI m l_) (ow m l_) (l_.length+1) (a,m) (fun _=>.normal) (fun x_2_0=>⟨[(0,.os 0),(2,.v (.int .i64 m)),(14,.v (.int .i64 x_2_0))],[.row .deed l_]⟩) st)else bif Nat.beq id 6 then some (LCV (ρ:=(List Deed)) (σ:=(List Deed×Int)) 1 [] [0] (fun k_3 s_3=>⟨[(0,.os 0),(14,.v (.int .i64 (ev (am (lI m l_) (l_.length+1) 0 (a,m))))),(17,.v (.int .i64 s_3.2))],[.row .deed s_3.1]⟩) (q_ l_ (ev (am (lI m l_) (l_.length+1) 0 (a,m)))) (qs l_ (ev (am (lI m l_) (l_.length+1) 0 (a,m)))) (l_.length+1) (l_,m) (fun _=>.normal) (fun x_3_0=>⟨[],[.row .deed x_3_0]⟩) st)else bif Nat.beq id 1000140 then some (JC (⟨[(0,.os 0),(1,.v (.int .i64 a)),(2,.v (.int .i64 m)),(3,.v (.int .i64 b)),(4,.fn 75 [] []),(18,.v (.int .i64 (i64.wrap (bw .u64 (u64.wrap (i64.wrap (a+b))) 1)))),(19,.v (.int .i64 (i64.wrap ((i64.wrap (bw .u64 (u64.wrap (i64.wrap (a+b))) 1))+m)))),(20,.v (.int .i64 (bif(decide (m > (i64.wrap (bw .u64 (u64.wrap (i64.wrap (a+b))) 1))))then(i64.wrap ((i64.wrap ((i64.wrap (bw .u64 (u64.wrap (i64.wrap (a+b))) 1))+m)) - b))else a))),(21,.v (.int .i64 (bif(decide (m > (i64.wrap (bw .u64 (u64.wrap (i64.wrap (a+b))) 1))))then(i64.wrap (bw .u64 (u64.wrap (i64.wrap (a+b))) 1))else m)))],[.row .deed l_]⟩))else bif Nat.beq id 8 then some (LCV (ρ:=Int) (σ:=(Int×Int)) 1 [] [0] (fun k_4 s_4=>⟨[(0,.os 0),(1,.v (.int .i64 a)),(2,.v (.int .i64 m)),(3,.v (.int .i64 b)),(4,.fn 75 [] []),(18,.v (.int .i64 (i64.wrap (bw .u64 (u64.wrap (i64.wrap (a+b))) 1)))),(19,.v (.int .i64 (i64.wrap ((i64.wrap (bw .u64 (u64.wrap (i64.wrap (a+b))) 1))+m)))),(20,.v (.int .i64 s_4.1)),(21,.v (.int .i64 s_4.2)),(22,.v (.int .i64 (i64.wrap ((i64.wrap ((i64.wrap (bw .u64 (u64.wrap (i64.wrap (a+b))) 1))+m)) - 1))))],[.row .deed l_]⟩) (pn a m b l_) (ox a m b l_) (l_.length+1) ((bif(decide (m > (i64.wrap (bw .u64 (u64.wrap (i64.wrap (a+b))) 1))))then(i64.wrap ((i64.wrap ((i64.wrap (bw .u64 (u64.wrap (i64.wrap (a+b))) 1))+m)) - b))else a),(bif(decide (m > (i64.wrap (bw .u64 (u64.wrap (i64.wrap (a+b))) 1))))then(i64.wrap (bw .u64 (u64.wrap (i64.wrap (a+b))) 1))else m)) (fun _=>.normal) (fun x_4_0=>⟨[(0,.os 0),(1,.v (.int .i64 a)),(2,.v (.int .i64 m)),(3,.v (.int .i64 b)),(4,.fn 75 [] []),(18,.v (.int .i64 (i64.wrap (bw .u64 (u64.wrap (i64.wrap (a+b))) 1)))),(19,.v (.int .i64 (i64.wrap ((i64.wrap (bw .u64 (u64.wrap (i64.wrap (a+b))) 1))+m)))),(20,.v (.int .i64 x_4_0))],[.row .deed l_]⟩) st)else none),?_,?_⟩
 ·unfold ae Tryz.f149;simp only[al,true_and,and_true,and_assoc];refine⟨?_,?_,?_,?_,?_⟩
  ·refine dR mixed aj hG kr (fun _=>rfl) fun k_0 s_0 hq0=>⟨L0,ag _,?_⟩
   ·unfold ov at hq0;exact cJ (jl [0])
  ·refine dR mixed aj hG kr (fun _=>rfl) fun k_1 s_1 hq1=>⟨L0,ag _,?_⟩
   ·unfold qr at hq1;exact cJ (jl [0])
  ·refine dR mixed aj hG kr (fun _=>rfl) fun k_2 s_2 hq2=>⟨L0,ag _,?_⟩
   ·unfold ow at hq2;exact cJ (jl [0])
  ·refine dR mixed aj hG kr (fun _=>rfl) fun k_3 s_3 hq3=>⟨L0,ag _,?_⟩
   ·unfold qs at hq3;exact cJ (jl [0])
  ·refine dR mixed aj hG kr (fun _=>rfl) fun k_4 s_4 hq4=>⟨L0,ag _,?_⟩
   ·unfold ox at hq4;exact cJ (jl [0])
 ·unfold ae Tryz.f149;try unfold Dp
  exact cJ (jl [0])
def mJ:Nat→(Int→Int→Int→List Deed→List Deed)×(Int→Int→Int→List Deed→Prop)
 |0=>(fun _ _ _ l=>l,fun _ _ _ _=>False)
 |n+1=>(Dp (mJ n).1 (mJ n).2,ra (mJ n).1 (mJ n).2)
theorem G4:∀ n,FnOkO Tryz.prog 149 (Do (mJ n).1 (mJ n).2)
 |0=>by
  have hG:ConsOk Tryz.prog (mkG [] []):=ap cg0 cg0;refine gI mixed aj hG (fn:=Tryz.f149) (c:=ae Tryz.f149) kr kr kr kr fun l o con h=>?_;obtain⟨⟨a,m,b,l_⟩,rfl,rfl,rfl⟩:=dY h;exact⟨_,_,_,rfl,fun hp=>hp.elim⟩
 |n+1=>OV _ _ (G4 n)
def bZ (a:Int)(m:Int)(b:Int)(l_:List Deed):List Deed:=(mJ (l_.length+1)).1 a m b l_
def bQ (a:Int)(m:Int)(b:Int)(l_:List Deed):Prop:=(mJ (l_.length+1)).2 a m b l_
noncomputable def ed:List SV→List Ob→Option HCon:=iz (fun x_:Int×Int×Int×(List Deed) =>[.os 0,.v (.int .i64 x_.1),.v (.int .i64 x_.2.1),.v (.int .i64 x_.2.2.1),.fn 75 [] []]) (fun x_=>[.row .deed x_.2.2.2]) (fun x_=>fu (bQ x_.1 x_.2.1 x_.2.2.1 x_.2.2.2) (.tup []) [.row .deed (bZ x_.1 x_.2.1 x_.2.2.1 x_.2.2.2)])
@[go_sem] theorem tJ (a:Int)(m:Int)(b:Int)(l_:List Deed):ed ([.os 0,.v (.int .i64 a),.v (.int .i64 m),.v (.int .i64 b),.fn 75 [] []]) ([.row .deed l_])=some (fu (bQ a m b l_) (.tup []) [.row .deed (bZ a m b l_)]):=fN (A:=fun x_:Int×Int×Int×(List Deed) =>[.os 0,.v (.int .i64 x_.1),.v (.int .i64 x_.2.1),.v (.int .i64 x_.2.2.1),.fn 75 [] []]) (H:=fun x_=>[.row .deed x_.2.2.2]) (K:=fun x_=>fu (bQ x_.1 x_.2.1 x_.2.2.1 x_.2.2.2) (.tup []) [.row .deed (bZ x_.1 x_.2.1 x_.2.2.1 x_.2.2.2)]) (x:=(a,m,b,l_))
theorem kG:FnOkO Tryz.prog 149 ed where
 enter:=fun l h c e=>by
  obtain⟨⟨a,m,b,l_⟩,rfl,rfl,rfl⟩:=dY e;exact(G4 (l_.length+1)).enter _ _ _ (BZ _ _ a m b l_)
 calls:=fun l h c e hp=>by
  obtain⟨⟨a,m,b,l_⟩,rfl,rfl,rfl⟩:=dY e;exact(G4 (l_.length+1)).calls _ _ _ (BZ _ _ a m b l_) hp
@[go_sem] def aO (n:Int)(k_0:Nat)(s_0:List Deed×Int×Int):(Int×List Deed)⊕(List Deed×Int×Int):=(bif(decide (s_0.2.2≤n))then .inr ((az s_0.2.1 s_0.2.2 s_0.1),s_0.2.2,(i64.wrap (s_0.2.2+20)))else .inl (s_0.2.1,s_0.1))
def ci (n:Int)(k_0:Nat)(s_0:List Deed×Int×Int):Prop:=((decide (s_0.2.2≤n))=true→(aR s_0.2.1 s_0.2.2 s_0.1))
@[go_sem] def bh (n:Int)(s_1:List Deed×Int)(k_2:Nat)(s_2:List Deed×Int×Int):(Int×List Deed)⊕(List Deed×Int×Int):=(bif(decide (s_2.2.2≤n))then .inr ((bZ s_2.2.1 (i64.wrap (s_2.2.1+s_1.2)) s_2.2.2 s_2.1),s_2.2.2,(i64.wrap (s_2.2.2+(i64.wrap (2*s_1.2)))))else .inl (s_2.2.1,s_2.1))
def cj (n:Int)(s_1:List Deed×Int)(k_2:Nat)(s_2:List Deed×Int×Int):Prop:=((decide (s_2.2.2≤n))=true→(bQ s_2.2.1 (i64.wrap (s_2.2.1+s_1.2)) s_2.2.2 s_2.1))
@[go_sem] def bi (n:Int)(k_1:Nat)(s_1:List Deed×Int):(List Deed)⊕(List Deed×Int):=(bif(decide (s_1.2<n))then(match am (bh n s_1) (Int.toNat n+1) 0 (s_1.1,0,(i64.wrap (2*s_1.2)))with| .inl x_2_0=>(bif(decide ((i64.wrap (x_2_0.1+s_1.2)) <n))then .inr ((bZ x_2_0.1 (i64.wrap (x_2_0.1+s_1.2)) n x_2_0.2),(i64.wrap (s_1.2*2)))else .inr (x_2_0.2,(i64.wrap (s_1.2*2)))) | .inr s_2=>.inr default)else .inl s_1.1)
def bN (n:Int)(k_1:Nat)(s_1:List Deed×Int):Prop:=((decide (s_1.2<n))=true→(okI (bh n s_1) (cj n s_1) (Int.toNat n+1) 0 (s_1.1,0,(i64.wrap (2*s_1.2)))∧(∀ z_,am (bh n s_1) (Int.toNat n+1) 0 (s_1.1,0,(i64.wrap (2*s_1.2)))≠ .inr z_)∧(∀ x_2_0,am (bh n s_1) (Int.toNat n+1) 0 (s_1.1,0,(i64.wrap (2*s_1.2)))=.inl x_2_0→((decide ((i64.wrap (x_2_0.1+s_1.2)) <n))=true→(bQ x_2_0.1 (i64.wrap (x_2_0.1+s_1.2)) n x_2_0.2)))))
def bR (n:Int)(l_:List Deed):List Deed:=(match am (aO n) (Int.toNat n+1) 0 (l_,0,20)with| .inl x_0_0=>(match am (bi n) (Int.toNat n+1) 0 ((az x_0_0.1 n x_0_0.2),20)with| .inl x_1_0=>x_1_0| .inr s_1=>default) | .inr s_0=>default)
def bH (n:Int)(l_:List Deed):Prop:=(okI (aO n) (ci n) (Int.toNat n+1) 0 (l_,0,20)∧(∀ z_,am (aO n) (Int.toNat n+1) 0 (l_,0,20)≠ .inr z_)∧(∀ x_0_0,am (aO n) (Int.toNat n+1) 0 (l_,0,20)=.inl x_0_0→((aR x_0_0.1 n x_0_0.2)∧(okI (bi n) (bN n) (Int.toNat n+1) 0 ((az x_0_0.1 n x_0_0.2),20)∧(∀ z_,am (bi n) (Int.toNat n+1) 0 ((az x_0_0.1 n x_0_0.2),20)≠ .inr z_)))))
noncomputable def eJ:List SV→List Ob→Option HCon:=iz (fun x_:Int×(List Deed) =>[.os 0,.v (.int .i64 x_.1),.fn 75 [] []]) (fun x_=>[.row .deed x_.2]) (fun x_=>fu (bH x_.1 x_.2) (.tup []) [.row .deed (bR x_.1 x_.2)])
@[go_sem] theorem uV (n:Int)(l_:List Deed):eJ ([.os 0,.v (.int .i64 n),.fn 75 [] []]) ([.row .deed l_])=some (fu (bH n l_) (.tup []) [.row .deed (bR n l_)]):=fN (A:=fun x_:Int×(List Deed) =>[.os 0,.v (.int .i64 x_.1),.fn 75 [] []]) (H:=fun x_=>[.row .deed x_.2]) (K:=fun x_=>fu (bH x_.1 x_.2) (.tup []) [.row .deed (bR x_.1 x_.2)]) (x:=(n,l_))
theorem lJ:FnOkO Tryz.prog 107 (eJ):=by
 have hG:ConsOk Tryz.prog (mkG [] [(148,dz),(149,ed)]):=ap cg0 (cgc iN (cgc kG cg0));refine gI mixed aj hG (fn:=Tryz.f107) (c:=ae Tryz.f107) kr kr kr kr fun l o con h=>?_;obtain⟨⟨n,l_⟩,rfl,rfl,rfl⟩:=dY h;clear h;try dsimp only
 refine⟨_,_,_,rfl,fun hp=>?_⟩;unfold bH at hp;refine⟨nbl rfl,(fun id st=>bif Nat.beq id 0 then some (LCV (ρ:=(Int×List Deed)) (σ:=(List Deed×Int×Int)) 1 [] [0] (fun k_0 s_0=>⟨[(0,.os 0),(1,.v (.int .i64 n)),(2,.fn 75 [] []),(6,.v (.int .i64 20)),(7,.v (.int .i64 s_0.2.1)),(8,.v (.int .i64 s_0.2.2))],[.row .deed s_0.1]⟩) (aO n) (ci n) (Int.toNat n+1) (l_,0,20) (fun _=>.normal) (fun x_0_0=>⟨[(0,.os 0),(1,.v (.int .i64 n)),(2,.fn 75 [] []),(6,.v (.int .i64 20)),(7,.v (.int .i64 x_0_0.1))],[.row .deed x_0_0.2]⟩) st)else bif Nat.beq id 2 then some (LCV (ρ:=(List Deed)) (σ:=(List Deed×Int)) 1 [] [0] (fun k_1 s_1=>⟨[(0,.os 0),(1,.v (.int .i64 n)),(2,.fn 75 [] []),(6,.v (.int .i64 s_1.2))],[.row .deed s_1.1]⟩) (bi n) (bN n) (Int.toNat n+1) ((az (ev (am (aO n) (Int.toNat n+1) 0 (l_,0,20))).1 n (ev (am (aO n) (Int.toNat n+1) 0 (l_,0,20))).2),20) (fun _=>.normal) (fun x_1_0=>⟨[],[.row .deed x_1_0]⟩) st)else none),?_,?_⟩
 ·unfold ae Tryz.f107;simp only[al,true_and,and_true,and_assoc];refine⟨?_,?_⟩
  ·refine dR mixed aj hG kr (fun _=>rfl) fun k_0 s_0 hq0=>⟨L0,ag _,?_⟩
   ·unfold ci at hq0;exact cJ (jl [0])
  ·refine dR mixed aj hG kr (fun _=>rfl) fun k_1 s_1 hq1=>⟨(fun id st=>bif Nat.beq id 4 then some (LCV (ρ:=(Int×List Deed)) (σ:=(List Deed×Int×Int)) 1 [] [0] (fun k_2 s_2=>⟨[(0,.os 0),(1,.v (.int .i64 n)),(2,.fn 75 [] []),(6,.v (.int .i64 s_1.2)),(7,.v (.int .i64 s_2.2.1)),(8,.v (.int .i64 s_2.2.2))],[.row .deed s_2.1]⟩) (bh n s_1) (cj n s_1) (Int.toNat n+1) (s_1.1,0,(i64.wrap (2*s_1.2))) (fun _=>.normal) (fun x_2_0=>⟨[(0,.os 0),(1,.v (.int .i64 n)),(2,.fn 75 [] []),(6,.v (.int .i64 s_1.2)),(7,.v (.int .i64 x_2_0.1))],[.row .deed x_2_0.2]⟩) st)else none),?_,?_⟩
   ·simp only[al,true_and,and_true]
    ·refine dR mixed aj hG kr (fun _=>rfl) fun k_2 s_2 hq2=>⟨L0,ag _,?_⟩
     ·unfold cj at hq2;exact cJ (jl [0])
   ·unfold bN at hq1;exact cJ (jl [0])
 ·unfold ae Tryz.f107;try unfold bR
  exact cJ (jl [0])
def br (l_:List Deed):List Deed:=(bR (l_.length:Int) l_)
def ba (l_:List Deed):Prop:=(l_.length≤aU→(bH (l_.length:Int) l_))
noncomputable def c9:List SV→List Ob→Option HCon:=iz (fun x_:(List Deed) =>[.os 0,.fn 75 [] []]) (fun x_=>[.row .deed x_]) (fun x_=>fu (ba x_) (.tup []) [.row .deed (br x_)])
@[go_sem] theorem qt (l_:List Deed):c9 ([.os 0,.fn 75 [] []]) ([.row .deed l_])=some (fu (ba l_) (.tup []) [.row .deed (br l_)]):=fN (A:=fun x_:(List Deed) =>[.os 0,.fn 75 [] []]) (H:=fun x_=>[.row .deed x_]) (K:=fun x_=>fu (ba x_) (.tup []) [.row .deed (br x_)]) (x:=l_)
theorem ia:FnOkO Tryz.prog 74 (c9):=by
 have hG:ConsOk Tryz.prog (mkG [] [(107,eJ)]):=ap cg0 (cgc lJ cg0);refine gI mixed aj hG (fn:=Tryz.f74) (c:=ae Tryz.f74) kr kr kr kr fun l o con h=>?_;obtain⟨l_,rfl,rfl,rfl⟩:=dY h;clear h;try dsimp only
 refine⟨_,_,_,rfl,fun hp=>?_⟩;unfold ba at hp;refine⟨nbl rfl,L0,?_,?_⟩
 ·unfold ae Tryz.f74;simp only[al,and_self,true_and,and_true]
 ·unfold ae Tryz.f74;try unfold br
  exact cJ (jl [0])
end Go.Sx
end
section
namespace Go.Sx
theorem EY {p:Pk}{f:FuncId}{a b:List SV}:vK [p] (.fn f a b)=wx p (.fn f a b):=(rfl)
theorem EZ {f:FuncId}{a b:List SV}:wx .o (.fn f a b)=.fn f a b:=(rfl)
end Go.Sx
end
section
namespace Go.Sx
open Go.Proofs
def lV (l_:List Deed):Unit:=()
noncomputable def ef:List SV→List Ob→Option HCon:=iz (fun x_:(List Deed) =>[.os 0]) (fun x_=>[.row .deed x_]) (fun x_=>fu True (.fn 108 [] [.ptr 1 0]) [.row .deed x_,.cells [.os 0]])
@[go_sem] theorem tK (l_:List Deed):ef ([.os 0]) ([.row .deed l_])=some (fu True (.fn 108 [] [.ptr 1 0]) [.row .deed l_,.cells [.os 0]]):=fN (A:=fun x_:(List Deed) =>[.os 0]) (H:=fun x_=>[.row .deed x_]) (K:=fun x_=>fu True (.fn 108 [] [.ptr 1 0]) [.row .deed x_,.cells [.os 0]]) (x:=l_)
theorem kH:FnOkO Tryz.prog 76 (ef):=by
 have hG:ConsOk Tryz.prog (mkG [] []):=ap cg0 cg0;refine gI mixed aj hG (fn:=Tryz.f76) (c:=ae Tryz.f76) kr kr kr kr fun l o con h=>?_;obtain⟨l_,rfl,rfl,rfl⟩:=dY h;clear h;try dsimp only
 refine⟨_,_,_,rfl,fun hp=>?_⟩;refine⟨nbl rfl,L0,?_,?_⟩
 ·unfold ae Tryz.f76;simp only[al,and_self,true_and,and_true]
 ·unfold ae Tryz.f76;try unfold lV
  exact cJ (jl [0,1])
@[go_sem] def d8 (l_:List Deed)(known:Int)(k_0:Nat)(s_0:List (Int×Bool)):Empty⊕(List (Int×Bool)):=(bif(((l_.getD k_0 (default:Deed)).kind==4)&&(decide ((l_.getD k_0 (default:Deed)).known≤known)))then .inr (fS .int .bool s_0 ((l_.getD k_0 (default:Deed)).of_) true)else .inr s_0)
def cU (l_:List Deed)(hour:Int)(known:Int):List Deed:=(match am (d8 l_ known) l_.length 0 ([])with| .inl x=>x.elim| .inr s_0=>(br (aY l_ known hour s_0)))
def fA (l_:List Deed)(hour:Int)(known:Int):Prop:=(l_.length≤aU→(∀ s_0,am (d8 l_ known) l_.length 0 ([])=.inr s_0→((l_.length*88≤d5)∧((a7 l_ known hour s_0)∧(ba (aY l_ known hour s_0))))))
@[go_sem] def nZ:List SV→Option Con:=(pR .deed fun l_=>(pI fun hour=>(pI fun known=>(pE (.det (fA l_ hour known) (.fn 108 [] [.ep [.rs .deed (cU l_ hour known)] 0]))))))
theorem Wv {p:Prop}(h:p:=by simp only[go_sem,Nat.reduceBEq,Nat.reduceLeDiff,Nat.reduceLT,decide_true,Nat.reduceAdd,Nat.reduceSub,Nat.reduceMul,Int.reduceLE,Int.reduceLT,Int.reduceToNat,Int.reduceNeg,reduceCtorEq,EY,EZ];all_goals exact cl):p:=h
theorem sJ:FnOk Tryz.prog 41 nZ:=by
 have hG:ConsOk Tryz.prog (mkG [(72,fun l=>nY (cn [.sl .deed] l))] [(71,dK),(74,c9),(76,ef)]):=ap (cgc (sI.norm [.sl .deed]) cg0) (cgc jg (cgc ia (cgc kH cg0)));refine aL [.o] mixed aj hG (fn:=Tryz.f41) (c:=ae Tryz.f41) kr kr kr kr (cI fun l_=>(aM fun hour=>(aM fun known=>(aw (fun hp=>?_)))));dsimp only[av]at hp;unfold fA at hp;refine⟨nbl rfl,(fun id st=>bif Nat.beq id 0 then some (LCR (ρ:=Empty) (σ:=(List (Int×Bool))) 4 [] [0,1,2,3] (fun k_0 s_0=>⟨[(0,.rs .deed l_),(4,.ptr 0 0),(5,.ptr 1 0),(7,.ptr 3 0),(11,.rs .deed l_),(12,.v (.int .i64 (l_.length:Int))),(13,.v (.int .i64 (k_0:Int)))],[.cells [.v (.int .i64 hour)],.cells [.v (.int .i64 known)],.mp .int .bool s_0 none,.cells [.os 2]]⟩) (d8 l_ known) pT l_.length ([]) (l_.length≤aU) ((·.elim)) ((·.elim)) st)else none),?_,?_⟩
 ·unfold ae Tryz.f41;simp only[al,true_and,and_true]
  ·refine dp mixed aj hG kr (fun _=>rfl) (l_.length:Int) rfl fK (fun hb0 k_0 s_0 hlt0 _ hw hc=>⟨L0,ag _,?_⟩) (fun hb0 s_0 hc=>?_)
   ·exact bF (jl [0,1,2,3])
   ·exact bG (jl [0,1,2,3])
 ·unfold ae Tryz.f41;try unfold cU
  exact Wv
theorem Al {l0:List Nat}(a0:JL l0){p:Prop}(h:JL l0→p:=by intro ja;(first|done|(repeat' (first|with_reducible refine And.intro ?_ ?_|((with_reducible show _≠_);first|assumption|omega|(simp_all [dy,ev];done) |grind) |with_reducible intro _)) <;>(first|done|with_reducible exact Empty.elim ‹Empty› |with_reducible assumption|rfl|omega|assumption|decide|exact fk ja|(refine Or.inr ?_;exact fkY ja) |(refine Or.inl ?_;exact fkY ja) |(refine Or.inl ⟨rfl,?_⟩;exact fkY ja) |exact czl|(simp only[*,cond_true,cond_false,Bool.not_true,Bool.not_false,go_sem,Nat.reduceBEq,Nat.reduceLeDiff,Nat.reduceLT,decide_true,Nat.reduceAdd,Nat.reduceSub,Nat.reduceMul,Int.reduceLE,Int.reduceLT,Int.reduceToNat,Int.reduceNeg,reduceCtorEq];(repeat' (first|with_reducible refine And.intro ?_ ?_|((with_reducible show _≠_);first|assumption|omega|(simp_all [dy,ev];done) |grind) |with_reducible intro _)) <;>(first|done|assumption|rfl|omega|decide|exact fk ja|(refine Or.inr ?_;exact fkY ja) |(refine Or.inl ?_;exact fkY ja) |(refine Or.inl ⟨rfl,?_⟩;exact fkY ja) |(simp_all [dy,ev];done))) |(exfalso;rename_i h1 h2;rw[h1]at h2;cases h2) |(exfalso;rename_i h1 h2;simp only[h1,Bool.not_false,Bool.not_true,Bool.true_or,Bool.or_true,Bool.false_or,Bool.or_false,reduceCtorEq]at h2;done) |(exfalso;clear hy hG;simp_all;done) |(simp only[*,Sum.inr.injEq,forall_eq',true_implies,forall_const,reduceCtorEq,false_implies,and_true,List.length_append,List.length_cons,List.length_nil,Nat.zero_add,go_sem,Nat.reduceBEq,Nat.reduceLeDiff,Nat.reduceLT,decide_true,Nat.reduceAdd,Nat.reduceSub,Nat.reduceMul,Int.reduceLE,Int.reduceLT,Int.reduceToNat,Int.reduceNeg,reduceCtorEq]at hq2;first|exact hq2.1|exact hq2.2.1|exact hq2|exact hq2.2|(simp only[hq2];done)) |(simp only[*,Sum.inr.injEq,forall_eq',true_implies,forall_const,reduceCtorEq,false_implies,and_true,List.length_append,List.length_cons,List.length_nil,Nat.zero_add,go_sem,Nat.reduceBEq,Nat.reduceLeDiff,Nat.reduceLT,decide_true,Nat.reduceAdd,Nat.reduceSub,Nat.reduceMul,Int.reduceLE,Int.reduceLT,Int.reduceToNat,Int.reduceNeg,reduceCtorEq]at hq1;first|exact hq1.1|exact hq1.2.1|exact hq1|exact hq1.2|(simp only[hq1];done)) |(clear hy hG;simp_all only[dy,ev,Sum.inr.injEq,forall_eq',true_implies,forall_const,reduceCtorEq,false_implies,and_true,List.length_append,List.length_cons,List.length_nil,Nat.zero_add,go_sem,Nat.reduceBEq,Nat.reduceLeDiff,Nat.reduceLT,decide_true,Nat.reduceAdd,Nat.reduceSub,Nat.reduceMul,Int.reduceLE,Int.reduceLT,Int.reduceToNat,Int.reduceNeg,reduceCtorEq];done) |(simp_all [okI,dy,ev];done) |(simp_all [dy,ev];(first|done|exact fk2 ja)) |exact fk2 ja))):p:=h a0
theorem E0 {l0:List Nat}(a0:JL l0){p:Prop}(h:JL l0→p:=by intro ja;simp only[go_sem,Nat.reduceBEq,Nat.reduceLeDiff,Nat.reduceLT,decide_true,Nat.reduceAdd,Nat.reduceSub,Nat.reduceMul,Int.reduceLE,Int.reduceLT,Int.reduceToNat,Int.reduceNeg,reduceCtorEq,hc,hw];all_goals exact Al ja):p:=h a0
theorem E1 {l0:List Nat}(a0:JL l0){p:Prop}(h:JL l0→p:=by intro ja;simp only[go_sem,Nat.reduceBEq,Nat.reduceLeDiff,Nat.reduceLT,decide_true,Nat.reduceAdd,Nat.reduceSub,Nat.reduceMul,Int.reduceLE,Int.reduceLT,Int.reduceToNat,Int.reduceNeg,reduceCtorEq,hc];all_goals exact Al ja):p:=h a0
@[go_sem] def xO (x:Deed):List SV:=[.agg (cellsOf .deed x)]
@[go_sem] def bE (l_:List Deed)(k_0:Nat)(s_0:List Deed):Empty⊕(List Deed):=.inr (s_0++[(l_.getD k_0 (default:Deed))])
def cA (l_:List Deed)(items_:List (List SV))(k_0:Nat)(s_0:List Deed):Prop:=(items_[s_0.length]? =some (xO (l_.getD k_0 (default:Deed))))
def aF (l_:List Deed):List Deed:=(match am (bE l_) l_.length 0 ([]:List Deed)with| .inl x=>x.elim| .inr s_0=>s_0)
def ca (l_:List Deed)(items_:List (List SV)):Prop:=(l_.length≤aU→(okI (bE l_) (cA l_ items_) l_.length 0 ([]:List Deed)∧(∀ s_0,am (bE l_) l_.length 0 ([]:List Deed)=.inr s_0→(items_.length=s_0.length))))
theorem Qd {l0:List Nat}(a0:JL l0){p:Prop}(h:JL l0→p:=by intro ja;simp only[go_sem,Nat.reduceBEq,Nat.reduceLeDiff,Nat.reduceLT,decide_true,Nat.reduceAdd,Nat.reduceSub,Nat.reduceMul,Int.reduceLE,Int.reduceLT,Int.reduceToNat,Int.reduceNeg,reduceCtorEq];all_goals exact Al ja):p:=h a0
theorem jL (l_:List Deed)(items_:List (List SV))(hp:ca l_ items_):Db Tryz.prog 108 (fun y=>[y,.ep [.rs .deed l_] 0]) [] items_:=by
 unfold ca at hp;refine LZ mixed aj (fn:=Tryz.f108) (c:=ae Tryz.f108) kr kr kr kr rfl (n:=0) rfl (G:=fun r_=>A3 [] [] (JD items_ r_)) (fun r_ hy=>?_) (fun args w=>by kernel_rfl);have hG:ConsOk Tryz.prog (A3 [] [] (JD items_ r_)):=yz cg0 cg0 hy;refine⟨hG,nbl rfl,(fun id st=>bif Nat.beq id 0 then some (LCY (ρ:=Empty) (σ:=(List Deed)) 1 [] [0] (fun k_0 s_0=>⟨[(0,.os 0),(5,.rs .deed l_),(6,.v (.int .i64 (l_.length:Int))),(7,.v (.int .i64 (k_0:Int)))],[.ab (r_.1 (s_0.length+1))]⟩) (bE l_) (cA l_ items_) l_.length ([]:List Deed) (l_.length≤aU) ((·.elim)) ((·.elim)) ⟨[],[.ab (r_.1 0)]⟩ st)else none),?_,?_⟩
 ·unfold ae Tryz.f108;simp only[al,true_and,and_true]
  ·refine EV mixed aj hG kr (fun _=>rfl) (l_.length:Int) rfl fK (fun hb0 k_0 s_0 hlt0 hq0 hw hc=>⟨L0,ag _,?_⟩) (fun hb0 s_0 hc=>?_)
   ·unfold cA at hq0;try simp only[hw,Int.toNat_natCast]at hq0
    exact E0 (jl [0])
   ·exact E1 (jl [0])
 ·unfold ae Tryz.f108;exact Qd (jl [0])
@[go_sem] theorem Yi {f:FuncId}:wB (.fn f [] [])=some [.fn f [] []]:=(rfl)
theorem xb {κ υ:Type}[DecidableEq κ](l:List (κ×υ))(x z:κ)(y:υ):fR (u7 l x y) z=if z=x then some y else fR l z:=by
 induction l with
 |nil=>simp[u7,fR]
 |cons a r ih=>
  obtain⟨a,b⟩:=a;unfold u7;by_cases h:x=a
  ·subst h;simp only[if_pos];unfold fR;by_cases hz:z=x <;>simp[hz]
  ·rw[if_neg h];unfold fR;by_cases hz:z=a
   ·subst hz;rw[if_pos rfl,if_neg (fun e=>h e.symm),if_pos rfl]
   ·rw[if_neg hz,ih,if_neg hz]
def eC:List (Int×(Option Nat)):=(fS .int .fnc (fS .int .fnc (fS .int .fnc ([]) 1 (some 103)) 2 (some 104)) 3 (some 105))
@[go_sem] def qu:List SV→Option Con:=(pE (.det True (.nm .int .fnc (eC))))
theorem v_:FnOk Tryz.prog 69 qu:=by
 have hG:ConsOk Tryz.prog (mkG [] []):=ap cg0 cg0;refine iT [] mixed aj hG (fn:=Tryz.f69) (c:=ae Tryz.f69) kr kr kr kr (aw (fun hp=>?_));dsimp only[av]at hp;refine⟨nbl rfl,L0,ag _,?_⟩
 ·unfold ae Tryz.f69;try unfold eC
  exact zq1
theorem qw (k:Int):b9 .int .fnc eC k=bif k==1 then some 103 else bif k==2 then some 104 else bif k==3 then some 105 else none:=by
 by_cases h1:k=1
 ·subst h1;rfl
 by_cases h2:k=2
 ·subst h2;rfl
 by_cases h3:k=3
 ·subst h3;rfl
 have e1:(k==1)=false:=by simpa using h1
 have e2:(k==2)=false:=by simpa using h2
 have e3:(k==3)=false:=by simpa using h3
 rw[e1,e2,e3];simp only[eC,b9,fS,xb,if_neg h1,if_neg h2,if_neg h3];rfl
end Go.Sx
end
