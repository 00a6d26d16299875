/- Part of the proof that the law RegisterSpec returns true and leaves its arguments as they were, for all arguments of bulk at most 1048576 (the Upto form). -/
import Derived.Test.YthcbieoehjhjfaaGreatQ108
import Derived.Test.YthcbieoehjhjfaaGreatQ107
import Derived.Sort.Statements
import Derived.Shelf.SlSortCmp.Insertion
import Derived.Test.YthcbieoehjhjfaaGreatProg
import Derived.Shelf.RegionOpenPlain
import Derived.WalkKit
import Derived.Lib.Walk
import Derived.Lib.SliceRun
import Derived.Lib.JoinLaws
import Derived.Lib.AppendZeros
import Derived.Lib.AppendZerosOnto
import Derived.Lib.Overlaps
import Derived.Laws.Externs
import Derived.Laws.IdiomCopy
set_option linter.all false
set_option maxHeartbeats 4000000
set_option maxRecDepth 100000
section
namespace Go.Sx
open Go.RowKit
open IntKind (i64)
abbrev RF:= { r:Nat->Res // ∀ k,(r k).n=k}
def KI (items:List (List SV))(r:RF):List SV->Res->Option YCon:=itY items r.1
@[go_sem] theorem TW {items:List (List SV)}{r:RF}{k:Nat}{args:List SV}:KI items r args (r.1 (k+1))=some (Br (items[k]? =some args) r.1 (k+2)):=Ho r.2 k args
section
variable {ρ σ:Type}
def lcy (pre:Prop)(run:ρ⊕σ)(exE:ρ->Ex)(outE:ρ->St)(outN:σ->St)(stp:St):LCon where
 α:=Option (ρ⊕σ)
 pre:=pre
 post:=fun|none=>True|some r=>r=run
 ex:=fun|none=>.ret|some (.inl x) =>exE x|some (.inr _) =>.normal
 out:=fun|none=>stp|some (.inl x) =>outE x|some (.inr s) =>outN s
def LCY (m:Nat)(ns:List NLoc)(js:List Nat)(D:Nat->σ->St)(step:Nat->σ->ρ⊕σ)(p:Nat->σ->Prop)(n:Nat)(s0:σ)(B:Prop)(exE:ρ->Ex)(outE:ρ->St)(stp:St)(st:St):LCon:=
 lcy (oM m ns js st (D 0 s0)/\B/\okI step p n 0 s0) (aj step n 0 s0) exE outE (D n) stp
variable {m:Nat}{ns:List NLoc}{js:List Nat}{step:Nat->σ->ρ⊕σ}{p:Nat->σ->Prop}{n:Nat}{s0:σ}{B:Prop}{exE:ρ->Ex}{outE:ρ->St}{stp st:St}{Q:Ex->St->Prop}{D:Nat->σ->St}
theorem FB {pre:Prop}{run:ρ⊕σ}{outN:σ->St}:mK Q (some (lcy pre run exE outE outN stp))=(pre/\(∀ x,run=.inl x->Q (exE x) (outE x))/\(∀ s,run=.inr s->Q .normal (outN s))/\Q .ret stp):=by
 apply propext;constructor
 ·rintro⟨h1,h2⟩;exact⟨h1,fun x hx=>h2 (some (.inl x)) hx.symm,fun s hs=>h2 (some (.inr s)) hs.symm,h2 none trivial⟩
 ·rintro⟨h1,h2,h3,h4⟩;refine⟨h1,fun r hr=>?_⟩;match r,hr with
  |none,_=>exact h4
  |some (.inl x),hr=>exact h2 x hr.symm
  |some (.inr s),hr=>exact h3 s hr.symm
@[go_sem] theorem Qb:mK Q (some (LCY m ns js D step p n s0 B exE outE stp st))=((oM m ns js st (D 0 s0)/\B/\okI step p n 0 s0)/\(∀ x,aj step n 0 s0=.inl x->Q (exE x) (outE x))/\(∀ s,aj step n 0 s0=.inr s->Q .normal (D n s))/\Q .ret stp):=FB
def cY (step:Nat->σ->ρ⊕σ)(exE:ρ->Ex)(outE:ρ->St)(D:Nat->σ->St)(stp:St)(m id k:Nat)(s:σ):Ex->St->Prop
 | .normal,st=>n8 D m k st (step k s)
 | .exit j,st=>jM exE outE m (bif Nat.beq j id then .normal else .exit j) st (step k s)
 | .ret,st=>jM exE outE m .ret st (step k s)\/fN stp m st
 | .pan x,st=>jM exE outE m (.pan x) st (step k s)
variable {id k j:Nat}{s:σ}{x:Value}{e e':Ex}
@[go_sem] theorem Qc:cY step exE outE D stp m id k s .normal st=n8 D m k st (step k s):=(rfl)
@[go_sem] theorem TX:cY step exE outE D stp m id k s (.exit j) st=jM exE outE m (bif Nat.beq j id then .normal else .exit j) st (step k s):=(rfl)
@[go_sem] theorem UQ:cY step exE outE D stp m id k s .ret st=(jM exE outE m .ret st (step k s)\/fN stp m st):=(rfl)
@[go_sem] theorem UR:cY step exE outE D stp m id k s (.pan x) st=jM exE outE m (.pan x) st (step k s):=(rfl)
@[congr] theorem Sa {st':St}(h:st=st')(he:e=e'):cY step exE outE D stp m id k s e st=cY step exE outE D stp m id k s e' st':=by rw[h,he]
end
section
variable {P:Program}{ρ σ:Type}{ts:Tis}{G:Cons}{ro:Option Nat}{N:Nat}{id:Nat}{c:Code}{C:St->Option LCon}{m:Nat}{ns:List NLoc}{js:List Nat}{step:Nat->σ->ρ⊕σ}{p:Nat->σ->Prop}{n:Nat}{s0:σ}{exE:ρ->Ex}{outE:ρ->St}{D:Nat->σ->St}{stp:St}
theorem NK {n0:Nat}(hn0:n0=m){s:σ}{k:Nat}(hlt:k<n){I:Nat×σ->Prop}{μ:Nat×σ->Nat}{outN:σ->St}{pre:Prop}{run:ρ⊕σ}
  (hI:∀ s',step k s=.inr s'->I (k+1,s')/\μ (k+1,s') <μ (k,s)) (hx:∀ x,step k s=.inl x->run=.inl x):
  ∀ e st',cY step exE outE D stp m id k s e st'->oG (fun x:Nat×σ=>D x.1 x.2) I μ n0 (k,s) id (fun e st'=>∃ r js,(lcy pre run exE outE outN stp).post r/\(lcy pre run exE outE outN stp).ex r=e/\n0<=((lcy pre run exE outE outN stp).out r).h.length/\Sub js n0 st' ((lcy pre run exE outE outN stp).out r)) e st':=by
 subst hn0;have hfin:∀ e st',jM exE outE n0 e st' (step k s)->∃ r js,(lcy pre run exE outE outN stp).post r/\(lcy pre run exE outE outN stp).ex r=e/\n0<=((lcy pre run exE outE outN stp).out r).h.length/\Sub js n0 st' ((lcy pre run exE outE outN stp).out r):=by
  intro e st' q;cases hs:step k s with
  |inr s'=>rw[hs]at q;exact q.elim
  |inl x=>
   rw[hs]at q;obtain⟨q2,js,q3,q4⟩:=q;exact⟨some (.inl x),js,(hx x hs).symm,q2,q3,q4⟩
 intro e st' hq;cases e with
 |normal=>
  change n8 D n0 k st' (step k s)at hq;cases hs:step k s with
  |inl x=>rw[hs]at hq;exact hq.elim
  |inr s'=>
   rw[hs]at hq;obtain⟨js,q3,q4⟩:=hq;obtain⟨i1,i2⟩:=hI s' hs;exact⟨(k+1,s'),js,i1,i2,q3,q4⟩
 |exit j=>
  change jM exE outE n0 (bif Nat.beq j id then .normal else .exit j) st' (step k s)at hq;show bif Nat.beq j id then _ else _;cases hb:Nat.beq j id with
  |true=>rw[hb]at hq;exact hfin _ _ hq
  |false=>rw[hb]at hq;exact hfin _ _ hq
 |ret=>
  rcases hq with hq|hq
  ·exact hfin _ _ hq
  ·obtain⟨js,q3,q4⟩:=hq;exact⟨none,js,trivial,rfl,q3,q4⟩
 |pan x=>exact hfin _ _ hq
theorem HU {B:Prop}(hm:P.follows .mixedOrders=true)(hts:ts.ok P)(hG:ConsOk P G)(hc:cj N c=true)(hC:∀ st,C st=some (LCY m ns js D step p n s0 B exE outE stp st))(M:Int)(hn:n=M.toNat)(hB:B->M<9223372036854775808)
  (h:B->∀ k s,k<n->p k s->i64.wrap ((k:Int)+1)=((k+1:Nat):Int)->decide ((k:Int) <M)=true->∃ L,ak P ro N L c/\exec ts G L c (D k s) (cY step exE outE D stp m id k s))
  (h2:B->∀ s,decide ((n:Int) <M)=false->exec ts G L0 c (D n s) (cZ (D n s) m id)):iG P ro N id (.loop c) C:=by
 refine sr hm hts hG hc fun st lc hC' hp=>?_;rw[hC st]at hC';cases hC';obtain⟨⟨hlen,hok,hle,hsub⟩,hB',h1⟩:=hp;refine⟨Nat×σ,fun x=>D x.1 x.2,fun x=>x.1<=n/\okI step p (n - x.1) x.1 x.2/\aj step (n - x.1) x.1 x.2=aj step n 0 s0,fun x=>n - x.1,(0,s0),mkN ns st,js,⟨Nat.zero_le _,by simpa using h1,by simp⟩,rG ns st st (.refl _) hok,by rw[hlen];exact hle,by rw[hlen];exact hsub,?_⟩;rintro⟨k,s⟩ ⟨hk,hJ,hrun⟩;simp only at hk hJ hrun;rcases Nat.lt_or_ge k n with hlt|hge
 ·rw[show n - k=(n - k - 1)+1 by omega]at hrun hJ;obtain⟨L,hl,hex⟩:=h hB' k s hlt hJ.1 (Ht (hn▸hlt) (hB hB')) (decide_eq_true (by omega));have hI:∀ s',step k s=.inr s'->okI step p (n - (k+1)) (k+1) s'/\aj step (n - (k+1)) (k+1) s'=aj step n 0 s0:=fun s' hs=>by
   have:=hJ.2 s' hs;rw[show n - k - 1=n - (k+1) by omega]at this hrun;simp only[aj,hs]at hrun;exact⟨this,hrun⟩
  have hx:∀ x,step k s=.inl x->aj step n 0 s0=.inl x:=fun x hs=>by
   simp only[aj,hs]at hrun;exact hrun.symm
  exact⟨L,_,hl,fun e st' q=>NK hlen hlt (fun s' hs=>⟨⟨hlt,hI s' hs⟩,by simp only;omega⟩) hx e st' q,hex⟩
 ·have hkn:k=n:=by omega
  subst hkn;have hex:=h2 hB' s (by rw[decide_eq_false_iff_not];omega);refine⟨L0,_,ah c,fun e st' hq=>?_,hex⟩;simp only[Nat.sub_self,aj]at hrun;cases e with
  |exit j=>
   change bif Nat.beq j id then fN (D k s) m st' else False at hq;show bif Nat.beq j id then _ else _;cases hb:Nat.beq j id with
   |true=>
    rw[hb]at hq;obtain⟨js,q3,q4⟩:=hq;exact⟨some (.inr s),js,hrun,rfl,by rw[hlen];exact q3,by rw[hlen];exact q4⟩
   |false=>rw[hb]at hq;exact hq.elim
  |_=>exact hq.elim
end
def lG (n:Nat):List Ob:=List.replicate n .dead
def HV (items:List (List SV))(r:RF)(n:Nat):Ex->St->Prop
 | .normal,st=>fN ⟨[],.ab (r.1 0)::lG n⟩ (n+1) ⟨[],st.h⟩\/fN ⟨[],.ab (r.1 (items.length+1))::lG n⟩ (n+1) ⟨[],st.h⟩
 | .ret,st=>fN ⟨[],.ab (r.1 0)::lG n⟩ (n+1) ⟨[],st.h⟩\/fN ⟨[],.ab (r.1 (items.length+1))::lG n⟩ (n+1) ⟨[],st.h⟩
 |_,_=>False
section
variable {items:List (List SV)}{r:RF}{n:Nat}{st:St}{e e':Ex}
@[go_sem] theorem KJ:HV items r n .normal st=(fN ⟨[],.ab (r.1 0)::lG n⟩ (n+1) ⟨[],st.h⟩\/fN ⟨[],.ab (r.1 (items.length+1))::lG n⟩ (n+1) ⟨[],st.h⟩):=(rfl)
@[go_sem] theorem Qd:HV items r n .ret st=(fN ⟨[],.ab (r.1 0)::lG n⟩ (n+1) ⟨[],st.h⟩\/fN ⟨[],.ab (r.1 (items.length+1))::lG n⟩ (n+1) ⟨[],st.h⟩):=(rfl)
@[go_sem] theorem TY:lG 0=[]:=(rfl)
@[go_sem] theorem TZ:lG 1=[.dead]:=(rfl)
@[go_sem] theorem T0:lG 2=[.dead,.dead]:=(rfl)
@[go_sem] theorem T1:lG 3=[.dead,.dead,.dead]:=(rfl)
@[go_sem] theorem T2:lG 4=[.dead,.dead,.dead,.dead]:=(rfl)
end
theorem By {js:List Nat}{n0:Nat}{h h':List Ob}(q:Sub js n0 ⟨[],h⟩ ⟨[],h'⟩):Sub js n0 ⟨[(0,.tup [])],h⟩ ⟨[(0,.tup [])],h'⟩:=by
 refine⟨q.1,?_,q.2.2⟩;simp only[ET,lk];exact⟨⟨rfl,rfl⟩,trivial⟩
open Classical in
theorem NL {P:Program} {ts:Tis} {G:RF->Cons} (hm:P.follows .mixedOrders=true) (hts:ts.ok P) {f:FuncId} {fn:Func} {c:Code} (hf:P.funcs[f]? =some fn) (hb:fn.body=some c) (hname:(fn.name== "runtime.NumGoroutine")=false) (hc:cj fn.ntmps c=true) (hr:fn.results.toList=[])
  {items:List (List SV)} {mk:SV->List SV} {hs:List Ob} {n:Nat} (hn:hs.length=n)
  (h:∀ r:RF,YOk P (KI items r)->ConsOk P (G r)/\(mk (.os 0)).length<=fn.ntmps/\∃ L,ak P none fn.ntmps L c/\exec ts (G r) L c ⟨jF 0 (mk (.os 0)),.ab (r.1 1)::hs⟩ (HV items r n))
  (he:∀ (args:Array Value) (w:World),(callFunc f args).run P w=.ok (.enter f args) w):C8 P f mk hs items:=by
 refine LR (fun r0 hr0 hy=>?_) he;obtain⟨hG,h1,L,h2,h3⟩:=h ⟨r0,hr0⟩ hy;refine⟨fun l o=>if l=mk (.os 0)/\o=.ab (r0 1)::hs then some { α:=Bool,pre:=True,post:=fun _=>True,res:=fun b=>.ret (.tup []) (.ab (r0 (if b then items.length+1 else 0))::lG n)}else none,?_,_,if_pos ⟨rfl,rfl⟩,trivial,fun b _=>⟨_,_,_,rfl,by cases b <;>simp⟩⟩;refine wE hm hts hG hf hb hname hc fun l o con hC _=>?_;split at hC
 rotate_left
 ·cases hC
 rename_i hlo;obtain⟨rfl,rfl⟩:=hlo;cases hC;refine⟨h1,L,_,h2,fun e st hq=>?_,h3⟩;have key:∀ st:St,(fN ⟨[],.ab (r0 0)::lG n⟩ (n+1) ⟨[],st.h⟩\/fN ⟨[],.ab (r0 (items.length+1))::lG n⟩ (n+1) ⟨[],st.h⟩)->rX (Ob.ab (r0 1)::hs).length { α:=Bool,pre:=True,post:=fun _=>True,res:=fun b=>.ret (.tup []) (.ab (r0 (if b then items.length+1 else 0))::lG n)} (kh (jm ts st fn.results.toList)) st.h:=fun st q=>by
  rw[hr];show ∃ r s' h' js,_;rcases q with⟨js,q1,q2⟩ | ⟨js,q1,q2⟩
  ·exact⟨false,_,_,js,trivial,rfl,by rw[List.length_cons,hn];exact q1,by rw[List.length_cons,hn];exact By q2⟩
  ·exact⟨true,_,_,js,trivial,rfl,by rw[List.length_cons,hn];exact q1,by rw[List.length_cons,hn];exact By q2⟩
 cases e with
 |normal=>exact key st hq
 |ret=>exact key st hq
 |exit j=>exact hq.elim
 |pan x=>exact hq.elim
section
variable {ρ σ τ:Type}
theorem tT {step:τ->σ->ρ⊕σ}:∀ {a b:List τ} {s s':σ},fJ step a s=.inr s'->fJ step (a++b) s=fJ step b s'
 | [],_,_,_,h=>by simp only[fJ,Sum.inr.injEq]at h;subst h;rfl
 |x::a,b,s,s',h=>by
  simp only[List.cons_append,fJ]at h |-;cases hs:step x s with
  |inl y=>rw[hs]at h;cases h
  |inr s1=>rw[hs]at h;simp only at h |-;exact tT h
theorem Bz {step:τ->σ->ρ⊕σ}{p:τ->σ->Prop}:∀ {a b:List τ} {s s':σ},fJ step a s=.inr s'->okL step p (a++b) s->okL step p b s'
 | [],_,_,_,h,hk=>by simp only[fJ,Sum.inr.injEq]at h;subst h;exact hk
 |x::a,b,s,s',h,hk=>by
  simp only[List.cons_append,fJ]at h hk;cases hs:step x s with
  |inl y=>rw[hs]at h;cases h
  |inr s1=>rw[hs]at h;exact Bz h (hk.2 s1 hs)
def LCP (m:Nat)(ns:List NLoc)(js:List Nat)(D:List Nat->Option Nat->σ->St)(step:τ->σ->ρ⊕σ)(p:τ->σ->Prop)(l:List τ)(s0:σ)(exE:ρ->Ex)(outE:ρ->St)(outN:σ->St)(st:St):LCon where
 α:=ρ⊕σ
 pre:=oM m ns js st (D (List.range l.length) none s0)/\∀ L,L.Perm l->okL step p L s0
 post:=fun r=>∃ L,L.Perm l/\fJ step L s0=r
 ex:=fun| .inl x=>exE x| .inr _=>.normal
 out:=fun| .inl x=>outE x| .inr s=>outN s
variable {m:Nat}{ns:List NLoc}{js:List Nat}{step:τ->σ->ρ⊕σ}{p:τ->σ->Prop}{l:List τ}{s0:σ}{exE:ρ->Ex}{outE:ρ->St}{outN:σ->St}{st:St}{Q:Ex->St->Prop}{D:List Nat->Option Nat->σ->St}
@[go_sem] theorem Qe:mK Q (some (LCP m ns js D step p l s0 exE outE outN st))=((oM m ns js st (D (List.range l.length) none s0)/\∀ L,L.Perm l->okL step p L s0)/\∀ L,L.Perm l->(∀ x,fJ step L s0=.inl x->Q (exE x) (outE x))/\∀ s,fJ step L s0=.inr s->Q .normal (outN s)):=by
 apply propext;constructor
 ·rintro⟨h1,h2⟩;exact⟨h1,fun L hL=>⟨fun x hx=>h2 (.inl x) ⟨L,hL,hx⟩,fun s hs=>h2 (.inr s) ⟨L,hL,hs⟩⟩⟩
 ·rintro⟨h1,h2⟩;refine⟨h1,fun r ⟨L,hL,hr⟩ =>?_⟩;cases r with
  |inl x=>exact(h2 L hL).1 x hr
  |inr s=>exact(h2 L hL).2 s hr
variable {P:Program}{ts:Tis}{G:Cons}{ro:Option Nat}{N id:Nat}{c:Code}{C:St->Option LCon}
theorem HW (d:τ)(it:Nat)(hm:P.follows .mixedOrders=true)(hts:ts.ok P)(hG:ConsOk P G)(hc:cj N c=true)(hC:∀ st,C st=some (LCP m ns js D step p l s0 exE outE outN st))
  (h:∀ left cur s,(∀ j,j∈left->j<l.length/\p (l.getD j d) s)->∃ L,ak P ro N L c/\exec ts G L c (D left cur s) (cM step l d exE outE outN D m id it left s)):iG P ro N id (.loop c) C:=by
 refine sr hm hts hG hc fun st lc hC' hp=>?_;rw[hC st]at hC';cases hC';obtain⟨⟨hlen,hok,hle,hsub⟩,hO⟩:=hp;subst hlen;have hfix:∀ q:List Nat,q.Perm (List.range l.length)->(q.map fun j=>l.getD j d).Perm l:=fun q hq=>by
  have:=hq.map (fun j=>l.getD j d)
  rwa[wK]at this
 refine⟨List Nat×Option Nat×σ,fun x=>D x.1 x.2.1 x.2.2,fun x=>∃ q:List Nat,(q++x.1).Perm (List.range l.length)/\fJ step (q.map fun j=>l.getD j d) s0=.inr x.2.2,fun x=>x.1.length,(List.range l.length,none,s0),mkN ns st,js,⟨[],.refl _,rfl⟩,rG ns st st (.refl _) hok,hle,hsub,?_⟩;rintro⟨left,cur,s⟩ ⟨q,hq,hrun⟩;simp only at hq hrun;have hmem:∀ j,j∈left->(q++j::left.erase j).Perm (List.range l.length):=fun j hj=>((List.perm_cons_erase hj).symm.append_left q).trans hq;have hp0:∀ j,j∈left->j<l.length/\p (l.getD j d) s:=fun j hj=>by
  refine⟨List.mem_range.1 (hq.mem_iff.1 (List.mem_append_right _ hj)),?_⟩;have:=hO _ (hfix _ (hmem j hj));rw[List.map_append]at this;exact(Bz hrun this).1
 obtain⟨L,hl,hex⟩:=h left cur s hp0;refine⟨L,_,hl,?_,hex⟩;have hfin:∀ e st' o,exC step l d exE outE st.h.length left s e st' o->∃ r js,(LCP st.h.length ns js D step p l s0 exE outE outN st).post r/\(LCP st.h.length ns js D step p l s0 exE outE outN st).ex r=e/\st.h.length<=((LCP st.h.length ns js D step p l s0 exE outE outN st).out r).h.length/\Sub js st.h.length st' ((LCP st.h.length ns js D step p l s0 exE outE outN st).out r):=by
  intro e st' o z;cases o with
  |none=>exact z.elim
  |some j=>
   obtain⟨hj,z⟩:=z;cases hs:step (l.getD j d) s with
   |inr s'=>rw[hs]at z;exact z.elim
   |inl x=>
    rw[hs]at z;obtain⟨q2,js2,q3,q4⟩:=z;refine⟨.inl x,js2,⟨_,hfix _ (hmem j hj),?_⟩,q2,q3,q4⟩;rw[List.map_append,tT hrun];simp only[List.map_cons,fJ,hs]
 intro e st' hz;cases e with
 |normal=>
  change nxC step l d D st.h.length left s st' (rF (ag st'.h it))at hz;cases ho:rF (ag st'.h it)with
  |none=>rw[ho]at hz;exact hz.elim
  |some j=>
   rw[ho]at hz;obtain⟨hj,hz⟩:=hz;cases hs:step (l.getD j d) s with
   |inl x=>rw[hs]at hz;exact hz.elim
   |inr s'=>
    rw[hs]at hz;obtain⟨js2,q3,q4⟩:=hz;refine⟨(left.erase j,some j,s'),js2,⟨q++[j],?_,?_⟩,?_,q3,q4⟩
    ·rw[List.append_assoc];exact hmem j hj
    ·rw[List.map_append,tT hrun];simp only[List.map_cons,List.map_nil,fJ,hs]
    ·have:=List.length_pos_of_mem hj;simp only[List.length_erase_of_mem hj];omega
 |exit j=>
  have hz':(bif Nat.beq j id then(left=[]->fN (outN s) st.h.length st')/\(left≠[]->exC step l d exE outE st.h.length left s .normal st' (rF (ag st'.h it)))else exC step l d exE outE st.h.length left s (.exit j) st' (rF (ag st'.h it))):=hz;show bif Nat.beq j id then _ else _;cases hb:Nat.beq j id with
  |true=>
   rw[hb]at hz';simp only[cond_true]at hz' |-;by_cases hlt:left=[]
   ·obtain⟨js2,q3,q4⟩:=hz'.1 hlt;refine⟨.inr s,js2,⟨_,hfix q (by rw[hlt,List.append_nil]at hq;exact hq),hrun⟩,rfl,q3,q4⟩
   ·exact hfin _ _ _ (hz'.2 hlt)
  |false=>
   rw[hb]at hz';exact hfin _ _ _ hz'
 |ret=>exact hfin _ _ _ hz
 |pan x=>exact hfin _ _ _ hz
end
theorem fkY {st2 st:St}{n0:Nat}{js:List Nat}(_:JL js)(h1:n0<=st2.h.length:=by(first|(show _<=_;decide) |(simp only[*,go_sem,Nat.reduceBEq,Nat.reduceLeDiff,Nat.reduceAdd,Nat.reduceSub,Nat.reduceMul,Int.reduceLE,Int.reduceLT,Int.reduceToNat,Int.reduceNeg,reduceCtorEq];done) |(simp only[*,go_sem,Nat.reduceBEq,Nat.reduceLeDiff,Nat.reduceAdd,Nat.reduceSub,Nat.reduceMul,Int.reduceLE,Int.reduceLT,Int.reduceToNat,Int.reduceNeg,reduceCtorEq];(repeat' (first|with_reducible refine And.intro ?_ ?_|((with_reducible show _≠_);first|assumption|omega|(simp_all [cO,dK];done) |grind) |with_reducible intro _)) <;>(first|rfl|decide|assumption|omega|(simp_all [cO,dK];done) |fail))))(h2:Sub js n0 st st2:=by(first|(show _<=_;decide) |(simp only[*,go_sem,Nat.reduceBEq,Nat.reduceLeDiff,Nat.reduceAdd,Nat.reduceSub,Nat.reduceMul,Int.reduceLE,Int.reduceLT,Int.reduceToNat,Int.reduceNeg,reduceCtorEq];done) |(simp only[*,go_sem,Nat.reduceBEq,Nat.reduceLeDiff,Nat.reduceAdd,Nat.reduceSub,Nat.reduceMul,Int.reduceLE,Int.reduceLT,Int.reduceToNat,Int.reduceNeg,reduceCtorEq];(repeat' (first|with_reducible refine And.intro ?_ ?_|((with_reducible show _≠_);first|assumption|omega|(simp_all [cO,dK];done) |grind) |with_reducible intro _)) <;>(first|rfl|decide|assumption|omega|(simp_all [cO,dK];done) |fail)))):fN st2 n0 st:=zY js h1 h2
theorem NM {α:Type 1}{G:List SV->α->Prop}{X:SV}{k:List SV->Option α}(h:∀ l c,k l=some c->G (X::l) c):∀ l c,pQ X k l=some c->G l c:=fun l c hc=>by
 obtain⟨r,rfl,h1⟩:=NF hc;exact h r c h1
end Go.Sx
end
section
namespace Go.Sx
open Go.Proofs
open IntKind (i64 u64)
def kE (n:Int)(d:Int):Int:=(i64.wrap (Int.tdiv (i64.wrap (n - (Int.tmod (i64.wrap ((Int.tmod n d)+d)) d))) d))
def mm (n:Int)(d:Int):Prop:=(d≠0/\(d≠0/\d≠0))
@[go_sem] def sD:List SV->Option Con:=(pI fun n=>(pI fun d=>(pE (.det (mm n d) (.v (.int .i64 (kE n d)))))))
theorem xT:FnOk Tryz.prog 61 sD:=by
 have hG:ConsOk Tryz.prog (mkG [] []):=av cg0 cg0;refine aR [.o] mixed al hG (fn:=Tryz.f61) (c:=ae Tryz.f61) kr kr kr kr (cq fun n=>(cq fun d=>(aD (fun hp=>?_))));dsimp only[aC]at hp;unfold mm at hp;refine⟨nbl rfl,L0,ah _,?_⟩
 ·unfold ae Tryz.f61;try unfold kE
  exact zq1
def eF (a:Ratio)(n:Int):Int×Int×Int:=(bif((az a) !=0)then(0,0,(az a))else(bif((decide (n< (-1073741824))) ||(decide (n > 1073741824)))then(0,0,1)else((kE (i64.wrap (a.n*n)) a.d),(i64.wrap (0 - (kE (i64.wrap ((i64.wrap (0 - a.n))*n)) a.d))),0)))
def qU (a:Ratio)(n:Int):Prop:=(((az a) !=0)=false->(((decide (n< (-1073741824))) ||(decide (n > 1073741824)))=false->((mm (i64.wrap (a.n*n)) a.d)/\(mm (i64.wrap ((i64.wrap (0 - a.n))*n)) a.d))))
theorem xU {a:Ratio}(h:(az a !=0)=false):1<=a.d:=by
 unfold az at h;by_cases hd:a.d<1
 ·simp[hd]at h
 ·omega
theorem wY (a:Ratio)(n:Int):qU a n:=fun h _=>by
 have:=xU h;exact⟨⟨by omega,by omega,by omega⟩,⟨by omega,by omega,by omega⟩⟩
@[go_sem] def qV:List SV->Option Con:=(pD .ratio fun a=>(pI fun n=>(pE (.det True (.tup [.v (.int .i64 ((eF a n).1)),.v (.int .i64 ((eF a n).2.1)),.v (.int .i64 ((eF a n).2.2))])))))
theorem wZ:FnOk Tryz.prog 32 qV:=by
 have hG:ConsOk Tryz.prog (mkG [(60,kS),(61,sD)] []):=av (cgc mR (cgc xT cg0)) cg0;refine aR [.o,.o,.o] mixed al hG (fn:=Tryz.f32) (c:=ae Tryz.f32) kr kr kr kr (aS fun a=>(cq fun n=>(aD (fun hp=>?_))));dsimp only[aC]at hp;have hp:=wY a n;unfold qU at hp;refine⟨nbl rfl,L0,ah _,?_⟩
 ·unfold ae Tryz.f32;try unfold eF
  exact zq1
def jr (n:Int)(d:Int):Ratio×Int:=letI q3:=({ n:=0,d:=0}:Ratio);letI q6:=bW n;letI q7:=bW d;letI q0:=((Bx (Int.toNat q6) (Int.toNat q7):Nat):Int);letI q1:=u64.wrap (Int.tdiv q6 q0);letI q2:=u64.wrap (Int.tdiv q7 q0);letI q4:=i64.wrap q1;letI q5:=i64.wrap q2;(bif(d==0)then(q3,120)else(bif(decide ((if q1<q2 then q2 else q1) > 1073741824))then(q3,2)else(bif((decide (n<0)) !=(decide (d<0)))then(({ n:=(i64.wrap (0 - q4)),d:=q5}:Ratio),0)else(({ n:=q4,d:=q5}:Ratio),0))))
def mn (n:Int)(d:Int):Prop:=letI q1:=bW n;letI q2:=bW d;letI q0:=((Bx (Int.toNat q1) (Int.toNat q2):Nat):Int);((d==0)=false->((0<=q1/\0<=q2)/\(q0≠0/\q0≠0)))
@[go_sem] def sE:List SV->Option Con:=(pI fun n=>(pI fun d=>(pE (.det (mn n d) (.tup [.agg (cellsOf .ratio ((jr n d).1)),.v (.int .i64 ((jr n d).2))])))))
theorem xV:FnOk Tryz.prog 143 sE:=by
 have hG:ConsOk Tryz.prog (mkG [(88,C83),(89,jN)] []):=av (cgc HM (cgc mQ cg0)) cg0;refine aR [.st .ratio,.o] mixed al hG (fn:=Tryz.f143) (c:=ae Tryz.f143) kr kr kr kr (cq fun n=>(cq fun d=>(aD (fun hp=>?_))));dsimp only[aC]at hp;unfold mn at hp;refine⟨nbl rfl,L0,ah _,?_⟩
 ·unfold ae Tryz.f143;try unfold jr
  exact zq4
def d_ (a:Ratio)(b:Ratio):Int×Int:=((i64.wrap ((i64.wrap (a.n*b.d))+(i64.wrap (b.n*a.d)))),(i64.wrap (a.d*b.d)))
@[go_sem] def qW:List SV->Option Con:=(pD .ratio fun a=>(pD .ratio fun b=>(pE (.det True (.tup [.v (.int .i64 ((d_ a b).1)),.v (.int .i64 ((d_ a b).2))])))))
theorem w5:FnOk Tryz.prog 118 qW:=by
 have hG:ConsOk Tryz.prog (mkG [] []):=av cg0 cg0;refine aR [.o,.o] mixed al hG (fn:=Tryz.f118) (c:=ae Tryz.f118) kr kr kr kr (aS fun a=>(aS fun b=>(aD (fun hp=>?_))));dsimp only[aC]at hp;refine⟨nbl rfl,L0,ah _,?_⟩
 ·unfold ae Tryz.f118;try unfold d_
  exact zq1
def dX (a:Ratio)(b:Ratio):Ratio×Int:=(bif(((az a) !=0) ||((az b) !=0))then(({ n:=0,d:=0}:Ratio),120)else(((jr ((d_ a b).1) ((d_ a b).2)).1),(jr ((d_ a b).1) ((d_ a b).2)).2))
def g8 (a:Ratio)(b:Ratio):Prop:=((((az a) !=0) ||((az b) !=0))=false->(mn ((d_ a b).1) ((d_ a b).2)))
@[go_sem] noncomputable def lH:List SV->Option Con:=(pQ (.agg [.fn 118 [] []]) (pD .ratio fun a=>(pD .ratio fun b=>(pE (.det (g8 a b) (.tup [.agg (cellsOf .ratio ((dX a b).1)),.v (.int .i64 ((dX a b).2))]))))))
theorem o9:FnOk Tryz.prog 119 lH:=by
 have hG:ConsOk Tryz.prog (mkG [(60,kS),(118,qW),(143,sE)] []):=av (cgc mR (cgc w5 (cgc xV cg0))) cg0;refine aR [.st .ratio,.o] mixed al hG (fn:=Tryz.f119) (c:=ae Tryz.f119) kr kr kr kr (NM (aS fun a=>(aS fun b=>(aD (fun hp=>?_)))));dsimp only[aC]at hp;unfold g8 at hp;refine⟨nbl rfl,L0,ah _,?_⟩
 ·unfold ae Tryz.f119;try unfold dX
  exact zq1
def dY (a:Ratio)(b:Ratio):Ratio×Int:=(((dX a b).1),(dX a b).2)
def nC (a:Ratio)(b:Ratio):Prop:=(g8 a b)
@[go_sem] def ut:List SV->Option Con:=(pD .ratio fun a=>(pD .ratio fun b=>(pE (.det (nC a b) (.tup [.agg (cellsOf .ratio ((dY a b).1)),.v (.int .i64 ((dY a b).2))])))))
theorem Ab:FnOk Tryz.prog 91 ut:=by
 have hG:ConsOk Tryz.prog (mkG [(119,lH)] []):=av (cgc o9 cg0) cg0;refine aR [.st .ratio,.o] mixed al hG (fn:=Tryz.f91) (c:=ae Tryz.f91) kr kr kr kr (aS fun a=>(aS fun b=>(aD (fun hp=>?_))));dsimp only[aC]at hp;unfold nC at hp;refine⟨nbl rfl,L0,ah _,?_⟩
 ·unfold ae Tryz.f91;try unfold dY
  exact zq1
@[go_sem] def qX (bX:List Int)(k_0:Nat)(s_0:Unit):Int⊕Unit:=(bif((bX.getD k_0 0) !=0)then .inl (bX.getD k_0 0)else .inr ())
def gm (bX:List Int):Int:=(match aj (qX bX) bX.length 0 ()with| .inl x_0_0=>x_0_0| .inr s_0=>0)
@[go_sem] def sF:List SV->Option Con:=(pR .int fun bX=>(pE (.det True (.v (.int .i64 (gm bX))))))
theorem xW:FnOk Tryz.prog 52 sF:=by
 have hG:ConsOk Tryz.prog (mkG [] []):=av cg0 cg0;refine aR [.o] mixed al hG (fn:=Tryz.f52) (c:=ae Tryz.f52) kr kr kr kr (dN fun bX=>(aD (fun hp=>?_)));dsimp only[aC]at hp;refine⟨nbl rfl,(fun id st=>bif Nat.beq id 0 then some (LCR (ρ:=Int) (σ:=Unit) 0 [] [] (fun k_0 s_0=>⟨[(3,.v (.int .i64 0)),(6,.rs .int bX),(7,.v (.int .i64 (bX.length:Int))),(8,.v (.int .i64 (k_0:Int)))],[]⟩) (qX bX) pT bX.length () (bX.length<=bb) (fun _=>.ret) (fun x_0_0=>⟨[(2,.v (.int .i64 x_0_0))],[]⟩) st)else none),?_,?_⟩
 ·unfold ae Tryz.f52;simp only[ak,true_and,and_true]
  ·refine d9 mixed al hG kr (fun _=>rfl) (bX.length:Int) rfl gX (fun hb0 k_0 s_0 hlt0 _ hw hc=>⟨L0,ah _,?_⟩) (fun hb0 s_0 hc=>?_)
   ·exact bY (jl [])
   ·exact bZ (jl [])
 ·unfold ae Tryz.f52;try unfold gm
  exact zq1
def bL (x:Holding)(y:Holding):Int:=(gm ([(df x.right y.right),(df x.farm y.farm)]))
@[go_sem] def o5:List SV->Option Con:=(pD .holding fun x=>(pD .holding fun y=>(pE (.det True (.v (.int .i64 (bL x y)))))))
theorem tU:FnOk Tryz.prog 51 o5:=by
 have hG:ConsOk Tryz.prog (mkG [(38,fm),(52,fun l=>sF (cX [.sl .int] l))] []):=av (cgc gj (cgc (xW.norm [.sl .int]) cg0)) cg0;refine aR [.o] mixed al hG (fn:=Tryz.f51) (c:=ae Tryz.f51) kr kr kr kr (aS fun x=>(aS fun y=>(aD (fun hp=>?_))));dsimp only[aC]at hp;refine⟨nbl rfl,L0,ah _,?_⟩
 ·unfold ae Tryz.f51;try unfold bL
  exact zq1
theorem lI (x y:Int):df x y=if x<y then -1 else if x > y then 1 else 0:=by
 unfold df gD;simp[Bool.cond_eq_ite]
theorem De (x:Int)(l:List Int):gm (x::l)=if x=0 then gm l else x:=by
 have key:∀ l:List Int,gm l=match fJ (ρ:=Int) (fun(x:Int) (_:Unit) =>bif(x !=0)then .inl x else .inr ()) l ()with| .inl y=>y| .inr _=>0:=fun l=>by
  unfold gm;have:=zU (ρ:=Int) (fun(x:Int) (_:Unit) =>bif(x !=0)then .inl x else .inr ()) 0 l ();rw[<-this];rfl
 rw[key,key];simp only[fJ];by_cases h:x=0
 ·subst h;rfl
 ·have:(x !=0)=true:=by simpa using h
  rw[if_neg h,this];rfl
theorem FC:gm []=0:=rfl
def tV:List (Int×Int)->Prop
 | [] =>False
 |(a,b)::r=>a<b\/a=b/\tV r
theorem yP:∀ l:List (Int×Int),(gm (l.map fun p=>df p.1 p.2) <0↔tV l)
 | [] =>by simp[FC,tV]
 |(a,b)::r=>by
  have hc:=lI a b;simp only[List.map_cons,De,hc,tV];rcases Int.lt_trichotomy a b with h|h|h
  ·simp[h]
  ·subst h;simp only[Int.lt_irrefl,if_false,if_true,true_and,false_or,gt_iff_lt];exact yP r
  ·have h1:¬a<b:=by omega
   have h2:a≠b:=by omega
   simp[h1,h2,h]
def hlt (a b:Holding):Prop:=tV [(a.right,b.right),(a.farm,b.farm)]
theorem w6 (a b:Holding):bL a b<0↔hlt a b:=yP [(a.right,b.right),(a.farm,b.farm)]
open Go.Shelf Go.Sort in
theorem NN {α:Type}{f:α->α->Int}{r:α->α->Prop}(e:∀ x y,f x y<0↔r x y)(h1:∀ x,¬r x x)(h2:∀ x y z,r x y->r y z->r x z)(h3:∀ x y z,¬r x y->¬r y z->¬r x z):SWO (ltOf f):=by
 have e1:∀ x y,ltOf f x y=true↔r x y:=fun x y=>by unfold ltOf;rw[decide_eq_true_eq,e]
 have e2:∀ x y,ltOf f x y=false↔¬r x y:=fun x y=>by rw[<-e1];simp
 exact⟨fun x=>(e2 x x).2 (h1 x),fun x y z a b=>(e1 x z).2 (h2 x y z ((e1 x y).1 a) ((e1 y z).1 b)),fun x y z a b=>(e2 x z).2 (h3 x y z ((e2 x y).1 a) ((e2 y z).1 b))⟩
open Go.Shelf Go.Sort in
theorem uu:SWO (ltOf bL):=NN w6 (fun x=>by simp only[hlt,tV,and_false,or_false];omega) (fun x y z h1 h2=>by simp only[hlt,tV,and_false,or_false]at *;omega) (fun x y z h1 h2=>by simp only[hlt,tV,and_false,or_false]at *;omega)
end Go.Sx
end
section
set_option linter.all false
namespace Go.Proofs
open Go.Shelf Go.RowKit Go.Lib
section
variable {P:Program}
theorem ins_copyK (w:World){dT sT ty elem:TypeId}{sz b o dLen dCap:Nat}{a:Addr}{sLen sCap:Nat}{cs:List Value}
  (hu:P.underlying dT=some (.slice elem)) (hs:∀ w,(Go.sizeOf elem).run P w=.ok sz w) (hn:cs.length=Nat.min sLen dLen*sz)
  (hsrc:∀ j v,cs[j]? =some v->w.cell? (a.add j)=some v) (hc:∀ j,j<cs.length->(w.cell? ⟨b,o+j,none⟩).isSome=true) (hf:∀ j,j<cs.length->w.frozen? ⟨b,o+j,none⟩=false) (h1:∀ v∈cs,v.oneCell'=true):
  (Builtin.copy_ #[dT,sT] ty #[.slice (some ⟨b,o,none⟩) dLen dCap,.slice (some a) sLen sCap]).run P w=.ok (goInt (Nat.min sLen dLen)) (w.setCells b o cs):=by
 have hl:=run_loadCells_list (P:=P) w a cs hsrc;have hst:=run_storeCells_cells (P:=P) b o cs 0 w (by simpa using hc) (by simpa using hf) h1;simp[Builtin.copy_,run_underlying hu,Builtin.lenOf,Builtin.firstCells,hs,<-hn,hl,hst]
theorem ins_copyI (w:World){o:Oper}{a:Act}{K:Act->World->Prop}{Q:Exit->Act->World->Prop}(d s:Operand)(t t':TypeId)
  (ho:o.op=.call { callee:=.builtin .copy,args:= #[d,s],argTypes:= #[t,t']}) (v u:Value) (hd:a.eval d=v) (hs:a.eval s=u) {v':Value} {w':World}
  (hr:(Builtin.copy_ #[t,t'] o.type #[v,u]).run P w=.ok v' w') (h:K (a.put o.dst v') w'):o.wp P a w K Q:=by
 unfold Oper.wp execOp;simp only[ho,resolve,invoke,builtin,Sem.run_bind,Sem.run_pure,Result.andThen_ok,List.map_toArray,List.map_cons,List.map_nil,hd,hs,hr];exact h
theorem ins_copyL (w:World){ops:Array Oper}{rest:List Oper}{o:Oper}{a:Act}{Q:Exit->Act->World->Prop}(hgd:o.guard=none)(d s:Operand)(t t':TypeId)
  (ho:o.op=.call { callee:=.builtin .copy,args:= #[d,s],argTypes:= #[t,t']}) (v u:Value) (hd:a.eval d=v) (hs:a.eval s=u) {v':Value} {w':World}
  (hr:(Builtin.copy_ #[t,t'] o.type #[v,u]).run P w=.ok v' w') (h:wpList P ops Q rest (a.put o.dst v') w'):wpList P ops Q (o::rest) a w:=
 wpList_plain hgd fun _ hK=>ins_copyI w d s t t' ho v u hd hs hr (hK _ _ h)
theorem ins_copyS {ops:Array Oper}{o:Oper}{a:Act}{w:World}{K:Act->World->Prop}{Q:Exit->Act->World->Prop}{E:Prop}
  (hg:o.guard=none) (d x:Operand) (dT sT:TypeId) (hop:o.op=Op.call { callee:=Callee.builtin Builtin.copy,args:= #[d,x],argTypes:= #[dT,sT]})
  (v u:Value) (hd:a.eval d=v) (hx:a.eval x=u) {v':Value} {w':World} (hr:(Builtin.copy_ #[dT,sT] o.type #[v,u]).run P w=.ok v' w') (hK:K (a.put o.dst v') w'):
  if Region.wanted o (yielded ops a.tmps)=true then Oper.wp P o a w K Q else E:=by
 have hw:Region.wanted o (yielded ops a.tmps)=true:=by simp[Region.wanted,hg]
 rw[if_pos hw];unfold Oper.wp;simp[execOp,hop,resolve,invoke,builtin,hd,hx,hr,Result.andThen];exact hK
theorem ins_isSome (b:Nat)(vs:List Value)(o:Nat)(w:World)(h:∀ j,j<vs.length->(w.cell? ⟨b,o+j,none⟩).isSome=true)(k:Nat)(hk:(w.cell? ⟨b,k,none⟩).isSome=true):((w.setCells b o vs).cell? ⟨b,k,none⟩).isSome=true:=by
 by_cases hin:o<=k/\k<o+vs.length
 ·have:=World.cell?_setCells_in b vs o w h (k - o) (by omega);rw[show o+(k - o)=k by omega]at this;rw[this];rfl
 ·rw[World.cell?_setCells_out b vs o w ⟨b,k,none⟩ (fun _ _=>by show k<o\/o+vs.length<=k;omega)];exact hk
end
set_option maxRecDepth 100000 in
theorem insD_shift (b off n c i vb voff m vc:Nat)(cs vs:List Value)(w:World)(hi:i<n)(hm:0<m)(hroom:n+m<=c)(hc63:n+m<=140737488355328)(hvb:vb≠b)
  (hcl:cs.length=n*9) (hvl:vs.length=m*9)
  (hcs:∀ j v,cs[j]? =some v->w.cell? ⟨b,off+j,none⟩=some v) (hsp:∀ j,j< (n+m)*9->(w.cell? ⟨b,off+j,none⟩).isSome=true) (hfz:∀ j,j< (n+m)*9->w.frozen? ⟨b,off+j,none⟩=false)
  (hvs:∀ j v,vs[j]? =some v->w.cell? ⟨vb,voff+j,none⟩=some v) (h1c:∀ v∈cs,v.oneCell'=true) (h1v:∀ v∈vs,v.oneCell'=true)
  (tA tB:TypeId) (kA kB:Nat) (hsa:w.shape? vb=some (tA,kA)) (hsb:w.shape? b=some (tB,kB)) (hkB:kB≠0) (hfa:w.frozen? ⟨vb,voff,none⟩=false) (hfe:w.frozen? ⟨vb,kA,none⟩=false):
  Calls Tryz.prog 39 #[.slice (some ⟨b,off,none⟩) n c,.int .i64 i,.slice (some ⟨vb,voff,none⟩) m vc] w fun e w'=>
   e=.returned (.slice (some ⟨b,off,none⟩) (n+m) c)/\w'=(w.drew.setCells b (off+(i+m)*9) (cs.drop (i*9))).setCells b (off+i*9) vs:=by
 have t0:=Tryz.underlying32;have a0:=Tryz.isAgg32;have z0:=Tryz.sizeOf32;have v0:=Tryz.zeroValue32;have t3:=Tryz.underlying3;have a3:=Tryz.isAgg3;have z3:=Tryz.sizeOf3;have v3:=Tryz.zeroValue3;have t4:=Tryz.underlying4;have a4:=Tryz.isAgg4;have z4:=Tryz.sizeOf4;have v4:=Tryz.zeroValue4;have t9:=Tryz.underlying35;have a9:=Tryz.isAgg35;have z9:=Tryz.sizeOf35;have v9:=Tryz.zeroValue35;have u0:=run_underlying Tryz.underlying32;have u3:=run_underlying Tryz.underlying3;have u4:=run_underlying Tryz.underlying4;have u9:=run_underlying Tryz.underlying35;have hz1:¬ ((m:Int)=0):=by omega
 have hz2:¬ ((i:Int)=(n:Int)):=by omega
 have hov:∀ lb cb,(callFunc 63 #[.slice (some ⟨vb,voff,none⟩) m vc,.slice (some ⟨b,off+(i+m)*9,none⟩) lb cb]).run Tryz.prog w=.ok (.value (.bool false)) w:=fun lb cb=>by
  rw[run_callFunc_extern Tryz.func63 (by kernel_rfl) (by kernel_rfl) (by kernel_rfl) (e:=Extern.SlicesOverlaps.overlaps #[32,32] #[4]) (by kernel_rfl),
   Lib.run_overlaps_apart w 32 4 35 Tryz.underlying32 9 Tryz.sizeOf35 ⟨vb,voff,none⟩ ⟨b,off+(i+m)*9,none⟩ m vc lb cb hvb tA tB kA kB hsa hsb hkB hfa hfe]
  rfl
 have hdl:(cs.drop (i*9)).length=(n - i)*9:=by rw[List.length_drop,hcl];omega
 have mixed:Tryz.prog.follows .mixedOrders=true:=by kernel_rfl
 have hw1:IntKind.i64.wrap ((i:Int)+(m:Int))=(i:Int)+(m:Int):=by rw[IntKind.wrap_i64];omega
 have hb1:(0:Int)<=(i:Int)+(m:Int):=by omega
 have hin:i<=n:=by omega
 have htn:((i:Int)+(m:Int)).toNat=i+m:=by omega
 have hb2:¬ (c=i+m):=by omega
 have hb3:(i:Int)<=(n:Int)+(m:Int):=by omega
 have hb4:¬ (c=i):=by omega
 have hcp1:∀ ty dc sc,(Builtin.copy_ #[32,32] ty #[.slice (some ⟨b,off+(i+m)*9,none⟩) (n+m - (i+m)) dc,.slice (some ⟨b,off+i*9,none⟩) (n+m - i) sc]).run Tryz.prog w.drew=.ok (goInt (n - i:Nat)) (w.drew.setCells b (off+(i+m)*9) (cs.drop (i*9))):=fun ty dc sc=>by
  have hmin:Nat.min (n+m - i) (n+m - (i+m))=n - i:=by simp only[Nat.min_def];split <;>omega
  have:=ins_copyK (P:=Tryz.prog) (dT:=32) (sT:=32) (ty:=ty) (elem:=35) (sz:=9) (b:=b) (o:=off+(i+m)*9) (dLen:=n+m - (i+m)) (dCap:=dc) (a:=⟨b,off+i*9,none⟩) (sLen:=n+m - i) (sCap:=sc) (cs:=cs.drop (i*9)) w.drew Tryz.underlying32 Tryz.sizeOf35 (by rw[hdl,hmin])
   (fun j v hj=>by rw[Addr.add_lit,Nat.add_assoc];exact hcs (i*9+j) v (by rwa[List.getElem?_drop]at hj))
   (fun j hj=>by rw[Nat.add_assoc];exact hsp _ (by omega)) (fun j hj=>by rw[Nat.add_assoc];exact hfz _ (by omega)) (fun v hv=>h1c v (List.mem_of_mem_drop hv))
  rw[hmin]at this;exact this
 obtain⟨W1,hW1⟩:∃ W1,W1=w.drew.setCells b (off+(i+m)*9) (cs.drop (i*9)):=⟨_,rfl⟩;have hsp1:∀ k,k< (n+m)*9->(W1.cell? ⟨b,off+k,none⟩).isSome=true:=fun k hk=>by
  rw[hW1];exact ins_isSome b _ _ _ (fun j hj=>by rw[Nat.add_assoc];exact hsp _ (by omega)) _ (hsp k hk)
 have hcp2:∀ (W:World),(∀ x,W.cell? x=W1.cell? x)->(∀ x,W.frozen? x=W1.frozen? x)->∀ ty dc,(Builtin.copy_ #[32,32] ty #[.slice (some ⟨b,off+i*9,none⟩) (n+m - i) dc,.slice (some ⟨vb,voff,none⟩) m vc]).run Tryz.prog W=.ok (goInt m) (W.setCells b (off+i*9) vs):=fun W hWc hWf ty dc=>by
  have hmin:Nat.min m (n+m - i)=m:=by simp only[Nat.min_def];split <;>omega
  have:=ins_copyK (P:=Tryz.prog) (dT:=32) (sT:=32) (ty:=ty) (elem:=35) (sz:=9) (b:=b) (o:=off+i*9) (dLen:=n+m - i) (dCap:=dc) (a:=⟨vb,voff,none⟩) (sLen:=m) (sCap:=vc) (cs:=vs) W Tryz.underlying32 Tryz.sizeOf35 (by rw[hvl,hmin])
   (fun j v hj=>by
    rw[Addr.add_lit,hWc,hW1,World.cell?_setCells_out b _ _ _ _ (fun h _=>absurd h hvb)];exact hvs j v hj)
   (fun j hj=>by rw[hWc,Nat.add_assoc];exact hsp1 _ (by omega)) (fun j hj=>by rw[hWf,hW1,World.frozen?_setCells,Nat.add_assoc];exact hfz _ (by omega)) h1v
  rw[hmin]at this;exact this
 rw[<-hW1]at hcp1
 go_enter Tryz.func39,Tryz.ntmps39
 go_wp2_with (simp only[hov])
 go_region_law_o (refine ins_copyS rfl _ _ 32 32 rfl _ _ (by simp[Act.eval,Act.put]) (by simp[Act.eval,Act.put]) (hcp1 _ _ _) ?_)
 go_wp2_with (at_builtin;refine ins_copyL _ rfl _ _ 32 32 rfl _ _ rfl rfl (hcp2 _ (fun _=>rfl) (fun _=>rfl) _ _) ?_)
 go_ret
 first|exact⟨rfl,rfl⟩ |exact⟨rfl,by rw[hW1]⟩
set_option maxRecDepth 100000 in
theorem insD_grow (b off n c i vb voff m vc:Nat)(cs vs:List Value)(w:World)(hi:i<n)(hm:0<m)(hnc:n<=c)(hroom:c<n+m)(hbig:(n+m)*88<=140737488355328)
  (hcl:cs.length=n*9) (hvl:vs.length=m*9)
  (hcs:∀ j v,cs[j]? =some v->w.cell? ⟨b,off+j,none⟩=some v)
  (hvs:∀ j v,vs[j]? =some v->w.cell? ⟨vb,voff+j,none⟩=some v) (h1c:∀ v∈cs,v.oneCell'=true) (h1v:∀ v∈vs,v.oneCell'=true):
  Calls Tryz.prog 39 #[.slice (some ⟨b,off,none⟩) n c,.int .i64 i,.slice (some ⟨vb,voff,none⟩) m vc] w fun e w'=>
   e=.returned (.slice (some ⟨w.heap.size,0,none⟩) (n+m) (grownCap w (n+m) c 35))/\∃ ROW:Array Value,ROW.size=grownCap w (n+m) c 35*9/\(∀ j v,j<i*9->cs[j]? =some v->ROW[j]? =some v)/\
   w'=(((w.alloc (.cells ROW 35)).drew.setCells w.heap.size (i*9) vs).drew).setCells w.heap.size ((i+m)*9) (cs.drop (i*9)):=by
 have t0:=Tryz.underlying32;have a0:=Tryz.isAgg32;have z0:=Tryz.sizeOf32;have v0:=Tryz.zeroValue32;have t3:=Tryz.underlying3;have a3:=Tryz.isAgg3;have z3:=Tryz.sizeOf3;have v3:=Tryz.zeroValue3;have t4:=Tryz.underlying4;have a4:=Tryz.isAgg4;have z4:=Tryz.sizeOf4;have v4:=Tryz.zeroValue4;have u0:=run_underlying Tryz.underlying32;have u3:=run_underlying Tryz.underlying3;have u4:=run_underlying Tryz.underlying4;have mixed:Tryz.prog.follows .mixedOrders=true:=by kernel_rfl
 obtain⟨i0,hi0,hz0,hzs,hzb⟩:∃ i0,Tryz.prog.info? 35=some i0/\i0.zero=some (.agg #[.int .i64 0,.int .i64 0,.int .i64 0,.int .i64 0,.int .i64 0,.slice none 0 0,.int .i64 0,.int .i64 0,.int .i64 0])/\i0.size=9/\i0.bytes=88:=⟨_,rfl,rfl,rfl,rfl⟩;have hz1:¬ ((m:Int)=0):=by omega
 have hz2:¬ ((i:Int)=(n:Int)):=by omega
 have hz3:(c:Int) < (n:Int)+(m:Int):=by omega
 have hbw:b<w.heap.size:=block_lt_of_cell (hcs 0 _ (List.getElem?_eq_getElem (by omega)));have hvw:vb<w.heap.size:=block_lt_of_cell (hvs 0 _ (List.getElem?_eq_getElem (by omega)));have hkk:(n:Int)+(m:Int) - (i:Int)=((n+m - i:Nat):Int):=by omega
 have hik:i+(n+m - i)=n+m:=by omega
 have hold:(Builtin.firstCells i0.size i (.slice (some ⟨b,off,none⟩) i c)).run Tryz.prog w.drew=.ok (cs.take (i*9)).toArray w.drew:=by
  rw[hzs];exact run_firstCells_some w.drew 9 i ⟨b,off,none⟩ i c (cs.take (i*9)) (by rw[List.length_take];omega) (fun j v hj=>by
   rw[Addr.add_lit];rw[List.getElem?_take]at hj;split at hj
   ·exact hcs j v hj
   ·cases hj)
 have hrz:∀ ty,(Builtin.append_ #[32,3] ty #[.slice (some ⟨b,off,none⟩) i c,.int .i64 ((n:Int)+(m:Int) - (i:Int))]).run Tryz.prog w=
   .ok (.slice (some ⟨w.heap.size,0,none⟩) (n+m) (grownCap w (n+m) c 35)) (w.drew.alloc (.cells ((cs.take (i*9)).toArray++Builtin.zeroCells (Value.agg #[.int .i64 0,.int .i64 0,.int .i64 0,.int .i64 0,.int .i64 0,.slice none 0 0,.int .i64 0,.int .i64 0,.int .i64 0]).cells (n+m - i)++Builtin.zeroCells (Value.agg #[.int .i64 0,.int .i64 0,.int .i64 0,.int .i64 0,.int .i64 0,.slice none 0 0,.int .i64 0,.int .i64 0,.int .i64 0]).cells (grownCap w (n+m) c 35 - (n+m))) 35)):=fun ty=>by
  have h:=Lib.run_append_grow_zeros (P:=Tryz.prog) w 32 3 ty 35 i0 _ .i64 .i64 Tryz.underlying32 Tryz.underlying3 hi0 hz0 (some ⟨b,off,none⟩) i c (cs.take (i*9)) hold (n+m - i) (by omega) (by omega) (by omega) (by omega) (by rw[hzb];omega) (by rw[hzb,hik];exact growslice_fits hroom hbig);rw[hik]at h;rw[hkk];exact h
 obtain⟨G,hG⟩:∃ G,G=grownCap w (n+m) c 35:=⟨_,rfl⟩;obtain⟨ROW,hROW⟩:∃ ROW:Array Value,ROW=(cs.take (i*9)).toArray++Builtin.zeroCells (Value.agg #[.int .i64 0,.int .i64 0,.int .i64 0,.int .i64 0,.int .i64 0,.slice none 0 0,.int .i64 0,.int .i64 0,.int .i64 0]).cells (n+m - i)++Builtin.zeroCells (Value.agg #[.int .i64 0,.int .i64 0,.int .i64 0,.int .i64 0,.int .i64 0,.slice none 0 0,.int .i64 0,.int .i64 0,.int .i64 0]).cells (G - (n+m)):=⟨_,rfl⟩;rw[<-hG]at hrz |-;rw[<-hROW]at hrz;have hGn:n+m<=G:=by rw[hG];exact grownCap_ge w _ _ _
 have hzc:∀ k,(Builtin.zeroCells (Value.agg #[.int .i64 0,.int .i64 0,.int .i64 0,.int .i64 0,.int .i64 0,.slice none 0 0,.int .i64 0,.int .i64 0,.int .i64 0]).cells k).size=k*9:=fun k=>by
  simp[Builtin.zeroCells,Value.cells,Nat.mul_comm]
 have hRs:ROW.size=G*9:=by
  rw[hROW,Array.size_append,Array.size_append,hzc,hzc,List.size_toArray,List.length_take];omega
 have hRl:(n+m)*9<=ROW.size:=by omega
 have hRt:∀ j v,j<i*9->cs[j]? =some v->ROW[j]? =some v:=fun j v hj hv=>by
  have hjl:=(List.getElem?_eq_some_iff.1 hv).1;rw[hROW,Array.getElem?_append_left (by rw[Array.size_append,List.size_toArray,List.length_take];omega),Array.getElem?_append_left (by rw[List.size_toArray,List.length_take];omega)];simp[List.getElem?_take,hj,hv]
 obtain⟨W1,hW1⟩:∃ W1,W1=w.drew.alloc (.cells ROW 35):=⟨_,rfl⟩;rw[<-hW1]at hrz;have hN:∀ j,j< (n+m)*9->(W1.cell? ⟨w.heap.size,j,none⟩).isSome=true:=fun j hj=>by
  rw[hW1,World.cell?_alloc_at (w:=w.drew) ROW _ w.heap.size j rfl,Array.getElem?_eq_getElem (by omega)];rfl
 have hNf:∀ j,W1.frozen? ⟨w.heap.size,j,none⟩=false:=fun j=>by rw[hW1];exact World.frozen?_alloc_at (w:=w.drew) ROW _ w.heap.size j rfl
 have hOb:∀ j v,w.cell? ⟨b,j,none⟩=some v->W1.cell? ⟨b,j,none⟩=some v:=fun j v h=>by rw[hW1,World.cell?_alloc_past (w:=w.drew) _ b j hbw];exact h
 have hOv:∀ j v,w.cell? ⟨vb,j,none⟩=some v->W1.cell? ⟨vb,j,none⟩=some v:=fun j v h=>by rw[hW1,World.cell?_alloc_past (w:=w.drew) _ vb j hvw];exact h
 have hcpA:∀ (W:World),(∀ x,W.cell? x=W1.cell? x)->(∀ x,W.frozen? x=W1.frozen? x)->∀ ty dc,(Builtin.copy_ #[32,32] ty #[.slice (some ⟨w.heap.size,i*9,none⟩) (n+m - i) dc,.slice (some ⟨vb,voff,none⟩) m vc]).run Tryz.prog W=.ok (goInt m) (W.setCells w.heap.size (i*9) vs):=fun W hWc hWf ty dc=>by
  have hmin:Nat.min m (n+m - i)=m:=by simp only[Nat.min_def];split <;>omega
  have:=ins_copyK (P:=Tryz.prog) (dT:=32) (sT:=32) (ty:=ty) (elem:=35) (sz:=9) (b:=w.heap.size) (o:=i*9) (dLen:=n+m - i) (dCap:=dc) (a:=⟨vb,voff,none⟩) (sLen:=m) (sCap:=vc) (cs:=vs) W Tryz.underlying32 Tryz.sizeOf35 (by rw[hvl,hmin])
   (fun j v hj=>by rw[Addr.add_lit,hWc];exact hOv _ v (hvs j v hj))
   (fun j hj=>by rw[hWc];exact hN _ (by omega)) (fun j hj=>by rw[hWf];exact hNf _) h1v
  rw[hmin]at this;exact this
 have hG63:G<=9223372036854775807:=by
  have:=grownCap_le_maxLen w (n+m) c 35 (by unfold maxLen;omega);rw[<-hG]at this;unfold maxLen at this;omega
 have hGi:¬ (G=i):=by omega
 have hGim:¬ (G=i+m):=by omega
 have hci:¬ (c=i):=by omega
 have hbN:b≠w.heap.size:=by omega
 have hdl:(cs.drop (i*9)).length=(n - i)*9:=by rw[List.length_drop,hcl];omega
 have hcpB:∀ (W:World),(∀ x,W.cell? x=(W1.setCells w.heap.size (i*9) vs).cell? x)->(∀ x,W.frozen? x=(W1.setCells w.heap.size (i*9) vs).frozen? x)->∀ ty dc sc,(Builtin.copy_ #[32,32] ty #[.slice (some ⟨w.heap.size,(i+m)*9,none⟩) (n+m - (i+m)) dc,.slice (some ⟨b,off+i*9,none⟩) (n - i) sc]).run Tryz.prog W=.ok (goInt (n - i:Nat)) (W.setCells w.heap.size ((i+m)*9) (cs.drop (i*9))):=fun W hWc hWf ty dc sc=>by
  have hmin:Nat.min (n - i) (n+m - (i+m))=n - i:=by simp only[Nat.min_def];split <;>omega
  have:=ins_copyK (P:=Tryz.prog) (dT:=32) (sT:=32) (ty:=ty) (elem:=35) (sz:=9) (b:=w.heap.size) (o:=(i+m)*9) (dLen:=n+m - (i+m)) (dCap:=dc) (a:=⟨b,off+i*9,none⟩) (sLen:=n - i) (sCap:=sc) (cs:=cs.drop (i*9)) W Tryz.underlying32 Tryz.sizeOf35 (by rw[hdl,hmin])
   (fun j v hj=>by
    rw[Addr.add_lit,hWc,World.cell?_setCells_out _ _ _ _ _ (fun h _=>absurd h hbN),Nat.add_assoc];exact hOb _ v (hcs (i*9+j) v (by rwa[List.getElem?_drop]at hj)))
   (fun j hj=>by rw[hWc];exact ins_isSome _ _ _ _ (fun t ht=>hN _ (by omega)) _ (hN _ (by omega)))
   (fun j hj=>by rw[hWf,World.frozen?_setCells];exact hNf _) (fun v hv=>h1c v (List.mem_of_mem_drop hv))
  rw[hmin]at this;exact this
 subst hW1;have hE1:∀ x,((w.alloc (.cells ROW 35)).drew).cell? x=(w.drew.alloc (.cells ROW 35)).cell? x:=fun x=>rfl;have hE2:∀ x,((w.alloc (.cells ROW 35)).drew).frozen? x=(w.drew.alloc (.cells ROW 35)).frozen? x:=fun x=>rfl;have hF1:∀ x,(((w.alloc (.cells ROW 35)).drew.setCells w.heap.size (i*9) vs).drew).cell? x=((w.drew.alloc (.cells ROW 35)).setCells w.heap.size (i*9) vs).cell? x:=fun x=>rfl;have hF2:∀ x,(((w.alloc (.cells ROW 35)).drew.setCells w.heap.size (i*9) vs).drew).frozen? x=((w.drew.alloc (.cells ROW 35)).setCells w.heap.size (i*9) vs).frozen? x:=fun x=>rfl;have hw1:IntKind.i64.wrap ((i:Int)+(m:Int))=(i:Int)+(m:Int):=by rw[IntKind.wrap_i64];omega
 have hb1:(0:Int)<=(i:Int)+(m:Int):=by omega
 have hin:i<=n:=by omega
 have htn:((i:Int)+(m:Int)).toNat=i+m:=by omega
 have hb3:(i:Int)<=(n:Int):=by omega
 have t9:=Tryz.underlying35;have a9:=Tryz.isAgg35;have z9:=Tryz.sizeOf35;have v9:=Tryz.zeroValue35;have u9:=run_underlying Tryz.underlying35;clear hkk hik hold hROW hG
 go_enter Tryz.func39,Tryz.ntmps39
 go_wp2_with (first
  |(at_builtin;refine Lib.wpList_append_run _ rfl _ _ _ _ rfl _ _ rfl rfl _ _ (hrz _) ?_)
  |(at_builtin;refine ins_copyL _ rfl _ _ 32 32 rfl _ _ rfl rfl (hcpA _ hE1 hE2 _ _) ?_)
  |(at_builtin;refine ins_copyL _ rfl _ _ 32 32 rfl _ _ rfl rfl (hcpB _ (fun _=>rfl) (fun _=>rfl) _ _ _) ?_))
 go_region_law_o (refine ins_copyS rfl _ _ 32 32 rfl (.slice (some ⟨w.heap.size,(i+m)*9,none⟩) (n+m - (i+m)) (G - (i+m))) (.slice (some ⟨b,off+i*9,none⟩) (n - i) (c - i)) (by simp[Act.eval,Act.put]) (by simp[Act.eval,Act.put]) (hcpB _ hF1 hF2 3 (G - (i+m)) (c - i)) ?_)
 go_wp2
 go_ret
 exact⟨rfl,ROW,hRs,hRt,rfl⟩
end Go.Proofs
end
section
namespace Go.Sx
open Go.RowKit
def orC {α:Type 1}:Option α->Option α->Option α
 |some x,_=>some x
 |none,y=>y
@[go_sem] theorem Sb {α:Type 1}{x:α}{y:Option α}:orC (some x) y=some x:=(rfl)
@[go_sem] theorem Sc {α:Type 1}{y:Option α}:orC none y=y:=(rfl)
theorem qj {α:Type 1}{a b:Option α}{c:α}(h:orC a b=some c):a=some c\/b=some c:=by
 cases a with
 |none=>exact .inr h
 |some x=>exact .inl h
theorem FnOkO.or {P:Program}{f:FuncId}{C D:List SV->List Ob->Option HCon}(h1:FnOkO P f C)(h2:FnOkO P f D):FnOkO P f (fun l h=>orC (C l h) (D l h)):=
 ⟨fun l h c hc=>by rcases qj hc with e|e;exact h1.enter l h c e;exact h2.enter l h c e,
  fun l h c hc=>by rcases qj hc with e|e;exact h1.calls l h c e;exact h2.calls l h c e⟩
theorem FnOk.or {P:Program}{f:FuncId}{C D:List SV->Option Con}(h1:FnOk P f C)(h2:FnOk P f D):FnOk P f (fun l=>orC (C l) (D l)):=
 ⟨fun l c hc=>by rcases qj hc with e|e;exact h1.enter l c e;exact h2.enter l c e,
  fun l c hc=>by rcases qj hc with e|e;exact h1.calls l c e;exact h2.calls l c e⟩
end Go.Sx
end
section
namespace Go.Sx
open Go.Proofs
open IntKind (i64)
def ap (n:Int)(lo:Int)(hi:Int):Bool:=((decide (n>=lo))&&(decide (n<=hi)))
@[go_sem] def iX:List SV->Option Con:=(pI fun n=>(pI fun lo=>(pI fun hi=>(pE (.det True (.v (.bool (ap n lo hi))))))))
theorem jU:FnOk Tryz.prog 47 iX:=by
 have hG:ConsOk Tryz.prog (mkG [] []):=av cg0 cg0;refine aR [.o] mixed al hG (fn:=Tryz.f47) (c:=ae Tryz.f47) kr kr kr kr (cq fun n=>(cq fun lo=>(cq fun hi=>(aD (fun hp=>?_)))));dsimp only[aC]at hp;refine⟨nbl rfl,L0,ah _,?_⟩
 ·unfold ae Tryz.f47;try unfold ap
  exact zq1
def gF (x:Deed):Bool:=letI q1:=(x.parts.length:Int) ==0;letI q2:=x.of_==0;letI q3:=x.to==0;letI q0:=(((x.right==0)&&(x.since==0))&&q3)&&q1;(bif(x.kind==1)then(q1&&q2)else(bif(x.kind==2)then(q3&&q2)else(bif(x.kind==3)then((q3&&q1)&&q2)else(bif(x.kind==4)then q0 else(q0&&q2)))))
@[go_sem] def o6:List SV->Option Con:=(pD .deed fun x=>(pE (.det True (.v (.bool (gF x))))))
theorem tW:FnOk Tryz.prog 66 o6:=by
 have hG:ConsOk Tryz.prog (mkG [] []):=av cg0 cg0;refine aR [.o] mixed al hG (fn:=Tryz.f66) (c:=ae Tryz.f66) kr kr kr kr (aS fun x=>(aD (fun hp=>?_)));dsimp only[aC]at hp;refine⟨nbl rfl,L0,ah _,?_⟩
 ·unfold ae Tryz.f66;try unfold gF
  exact zq1
@[go_sem] def dO (d:District)(l_:List Part)(k_0:Nat)(s_0:Int×Int×List (Int×Bool)):Unit⊕(Int×Int×List (Int×Bool)):=letI q1:=l_.getD k_0 default;letI q0:=dY ({ n:=s_0.1,d:=s_0.2.1}:Ratio) (q1.share);(bif(((!(ap (q1.farm) 0 (i64.wrap ((d.farms.length:Int) - 1)))) ||(dL .int .bool s_0.2.2 (q1.farm))) ||(decide (q1.share.n<=0)))then .inl ()else(bif(q0.2 !=0)then .inl ()else .inr ((q0.1).n,(q0.1).d,(fH .int .bool s_0.2.2 (q1.farm) true))))
def iH (d:District)(l_:List Part)(k_0:Nat)(s_0:Int×Int×List (Int×Bool)):Prop:=letI q0:=l_.getD k_0 default;(d.farms.length<=bb->((((!(ap (q0.farm) 0 (i64.wrap ((d.farms.length:Int) - 1)))) ||(dL .int .bool s_0.2.2 (q0.farm))) ||(decide (q0.share.n<=0)))=false->(nC ({ n:=s_0.1,d:=s_0.2.1}:Ratio) (q0.share))))
def eT (d:District)(l_:List Part):Bool:=(match aj (dO d l_) l_.length 0 (0,1,[])with| .inl x_0_0=>false| .inr s_0=>((ap (l_.length:Int) 1 16)&&((s_0.1==1)&&(s_0.2.1==1))))
def iv (d:District)(l_:List Part):Prop:=(l_.length<=bb->okI (dO d l_) (iH d l_) l_.length 0 (0,1,[]))
@[go_sem] def oa:List SV->Option Con:=(pD .district fun d=>(pR .part fun l_=>(pE (.det (iv d l_) (.v (.bool (eT d l_)))))))
theorem sG:FnOk Tryz.prog 67 oa:=by
 have hG:ConsOk Tryz.prog (mkG [(47,iX),(91,ut)] []):=av (cgc jU (cgc Ab cg0)) cg0;refine aR [.o] mixed al hG (fn:=Tryz.f67) (c:=ae Tryz.f67) kr kr kr kr (aS fun d=>(dN fun l_=>(aD (fun hp=>?_))));dsimp only[aC]at hp;unfold iv at hp;refine⟨nbl rfl,(fun id st=>bif Nat.beq id 0 then some (LCR (ρ:=Unit) (σ:=(Int×Int×List (Int×Bool))) 3 [] [0,1,2] (fun k_0 s_0=>⟨[(1,.rs .part l_),(2,.ptr 0 0),(5,.ptr 2 0),(6,.os 1),(13,.rs .part l_),(14,.v (.int .i64 (l_.length:Int))),(15,.v (.int .i64 (k_0:Int)))],[.cells (cellsOf .district d),.mp .int .bool s_0.2.2 none,.cells [.v (.int .i64 s_0.1),.v (.int .i64 s_0.2.1)]]⟩) (dO d l_) (iH d l_) l_.length (0,1,[]) (l_.length<=bb) (fun _=>.ret) (fun x_0_0=>⟨[(4,.v (.bool false))],[.dead,.dead,.dead]⟩) st)else none),?_,?_⟩
 ·unfold ae Tryz.f67;simp only[ak,true_and,and_true]
  ·refine d9 mixed al hG kr (fun _=>rfl) (l_.length:Int) rfl gX (fun hb0 k_0 s_0 hlt0 hq0 hw hc=>⟨L0,ah _,?_⟩) (fun hb0 s_0 hc=>?_)
   ·unfold iH at hq0;try simp only[hw,Int.toNat_natCast]at hq0
    exact bY (jl [0,1,2])
   ·exact bZ (jl [0,1,2])
 ·unfold ae Tryz.f67;try unfold eT
  exact zq1
def bU (a0:District)(a1:List (Int×Deed))(a2:Deed):Bool:=letI q1:=i64.wrap ((a0.farms.length:Int) - 1);letI q0:=((ap a2.right 0 (i64.wrap ((a0.rights.length:Int) - 1)))&&((a0.rights.getD (Int.toNat a2.right) default).kind==1))&&(ap a2.since 0 q1);letI q2:=dL .int .deed a1 a2.of_;(bif((((!(ap a2.no 0 1048576)) ||(!(ap a2.at_ 0 4096))) ||(!(ap a2.known 0 1048576))) ||(!(gF a2)))then false else(bif(a2.kind==1)then((q0&&(ap a2.to 0 q1))&&(a2.to !=a2.since))else(bif(a2.kind==2)then(q0&&(eT a0 a2.parts))else(bif(a2.kind==3)then q0 else(bif(a2.kind==4)then(((pd .int .deed a1 a2.of_)&&(q2.kind !=4))&&(decide (a2.known>=q2.known)))else false)))))
def jg (a0:District)(a1:List (Int×Deed))(a2:Deed):Prop:=letI q1:=(a0.rights.length:Int);letI q0:=ap a2.right 0 (i64.wrap (q1 - 1));(((((!(ap a2.no 0 1048576)) ||(!(ap a2.at_ 0 4096))) ||(!(ap a2.known 0 1048576))) ||(!(gF a2)))=false->(a0.farms.length<=bb->(a0.rights.length<=bb->((q0=true->(0<=a2.right/\a2.right<q1))/\((a2.kind==1)=false->((a2.kind==2)=true->(((q0&&((a0.rights.getD (Int.toNat a2.right) default).kind==1))&&(ap a2.since 0 (i64.wrap ((a0.farms.length:Int) - 1))))=true->(iv a0 a2.parts))))))))
@[go_sem] def o7:List SV->Option Con:=(pD .district fun a0=>(pM .int .deed fun a1=>(pD .deed fun a2=>(pE (.det (jg a0 a1 a2) (.v (.bool (bU a0 a1 a2))))))))
theorem tX:FnOk Tryz.prog 43 o7:=by
 have hG:ConsOk Tryz.prog (mkG [(47,iX),(66,fun l=>o6 (cX [.st .deed] l)),(67,fun l=>oa (cX [.st .district,.sl .part] l))] []):=av (cgc jU (cgc (tW.norm [.st .deed]) (cgc (sG.norm [.st .district,.sl .part]) cg0))) cg0;refine aR [.o] mixed al hG (fn:=Tryz.f43) (c:=ae Tryz.f43) kr kr kr kr (aS fun a0=>(NJ fun a1=>(aS fun a2=>(aD (fun hp=>?_)))));dsimp only[aC]at hp;unfold jg at hp;refine⟨nbl rfl,L0,ah _,?_⟩
 ·unfold ae Tryz.f43;try unfold bU
  exact zq1
def cN (x:Deed):Bool:=(decide ((x.parts.length:Int) > 16))
@[go_sem] def mT:List SV->Option Con:=(pD .deed fun x=>(pE (.det True (.v (.bool (cN x))))))
theorem qx:FnOk Tryz.prog 42 mT:=by
 have hG:ConsOk Tryz.prog (mkG [] []):=av cg0 cg0;refine aR [.o] mixed al hG (fn:=Tryz.f42) (c:=ae Tryz.f42) kr kr kr kr (aS fun x=>(aD (fun hp=>?_)));dsimp only[aC]at hp;refine⟨nbl rfl,L0,ah _,?_⟩
 ·unfold ae Tryz.f42;try unfold cN
  exact zq1
@[go_sem] def bH (s_:List Deed)(k_0:Nat)(s_0:Unit):Int⊕Unit:=(bif(cN (s_.getD k_0 default))then .inl (k_0:Int)else .inr ())
def cG (s_:List Deed):Int:=(match aj (bH s_) s_.length 0 ()with| .inl x_0_0=>x_0_0| .inr s_0=>(-1))
@[go_sem] def dv:List SV->Option Con:=(pR .deed fun s_=>(pFn 42 (pE ((pE (.det True (.v (.int .i64 (cG s_)))))))))
theorem eu:FnOk Tryz.prog 65 dv:=by
 have hG:ConsOk Tryz.prog (mkG [(42,fun l=>mT (cX [.st .deed] l))] []):=av (cgc (qx.norm [.st .deed]) cg0) cg0;refine aR [.o] mixed al hG (fn:=Tryz.f65) (c:=ae Tryz.f65) kr kr kr kr (dN fun s_=>(su (aD ((aD (fun hp=>?_))))));dsimp only[aC]at hp;refine⟨nbl rfl,(fun id st=>bif Nat.beq id 0 then some (LCR (ρ:=Int) (σ:=Unit) 0 [] [] (fun k_0 s_0=>⟨[(0,.rs .deed s_),(1,.fn 42 [] []),(7,.v (.int .i64 (s_.length:Int))),(8,.v (.int .i64 (k_0:Int)))],[]⟩) (bH s_) pT s_.length () (s_.length<=bb) (fun _=>.ret) (fun x_0_0=>⟨[(4,.v (.int .i64 x_0_0))],[]⟩) st)else none),?_,?_⟩
 ·unfold ae Tryz.f65;simp only[ak,true_and,and_true]
  ·refine d9 mixed al hG kr (fun _=>rfl) (s_.length:Int) rfl gX (fun hb0 k_0 s_0 hlt0 _ hw hc=>⟨L0,ah _,?_⟩) (fun hb0 s_0 hc=>?_)
   ·exact bY (jl [])
   ·exact bZ (jl [])
 ·unfold ae Tryz.f65;try unfold cG
  exact zq1
@[go_sem] noncomputable def di:List SV->Option Con:=fun l=>(dv l)
theorem g9:FnOk Tryz.prog 65 di:=eu
def ay (s_:List Deed):Bool:=(decide ((cG s_)>=0))
@[go_sem] def d4:List SV->Option Con:=(pR .deed fun s_=>(pFn 42 (pE ((pE (.det True (.v (.bool (ay s_)))))))))
theorem zq56 {p:Prop}(h:p:=by simp only[go_sem,Nat.reduceBEq,Nat.reduceLeDiff,Nat.reduceLT,decide_true,Nat.reduceAdd,Nat.reduceSub,Nat.reduceMul,Int.reduceLE,Int.reduceLT,Int.reduceToNat,Int.reduceNeg,reduceCtorEq,di];all_goals exact cl):p:=h
theorem gI:FnOk Tryz.prog 41 d4:=by
 have hG:ConsOk Tryz.prog (mkG [(65,fun l=>di (cX [.sl .deed,.o] l))] []):=av (cgc (g9.norm [.sl .deed,.o]) cg0) cg0;refine aR [.o] mixed al hG (fn:=Tryz.f41) (c:=ae Tryz.f41) kr kr kr kr (dN fun s_=>(su (aD ((aD (fun hp=>?_))))));dsimp only[aC]at hp;refine⟨nbl rfl,L0,ah _,?_⟩
 ·unfold ae Tryz.f41;try unfold ay
  exact zq56
@[go_sem] def cW (d:District)(l_:List Deed)(k_0:Nat)(s_0:List (Int×Deed)):Unit⊕(List (Int×Deed)):=letI q0:=l_.getD k_0 default;(bif(((decide ((k_0:Int) > 0))&&(decide (q0.no<=(l_.getD (Int.toNat (i64.wrap ((k_0:Int) - 1))) default).no))) ||(!(bU d s_0 q0)))then .inl ()else .inr (fH .int .deed s_0 (q0.no) q0))
def iI (d:District)(l_:List Deed)(k_0:Nat)(s_0:List (Int×Deed)):Prop:=letI q0:=i64.wrap ((k_0:Int) - 1);letI q1:=decide ((k_0:Int) > 0);letI q2:=l_.getD k_0 default;((q1=true->(0<=q0/\q0< (l_.length:Int)))/\((q1&&(decide (q2.no<=(l_.getD (Int.toNat q0) default).no)))=false->(jg d s_0 q2)))
def ai (d:District)(l_:List Deed):Int:=(bif((bg d) !=0)then(bg d)else(bif((decide ((l_.length:Int) > 512)) ||(ay l_))then 2 else(match aj (cW d l_) l_.length 0 ([])with| .inl x_0_0=>250| .inr s_0=>0)))
def dl (d:District)(l_:List Deed):Prop:=(((bg d) !=0)=false->(l_.length<=bb->(((decide ((l_.length:Int) > 512)) ||(ay l_))=false->(l_.length<=bb->okI (cW d l_) (iI d l_) l_.length 0 ([])))))
@[go_sem] def eK:List SV->Option Con:=(pD .district fun d=>(pR .deed fun l_=>(pE (.det (dl d l_) (.v (.int .i64 (ai d l_)))))))
theorem fu:FnOk Tryz.prog 15 eK:=by
 have hG:ConsOk Tryz.prog (mkG [(24,fun l=>pF (cX [.st .district] l)),(41,fun l=>d4 (cX [.sl .deed,.o] l)),(43,fun l=>o7 (cX [.st .district,.mp .int .deed,.st .deed] l))] []):=av (cgc (uT.norm [.st .district]) (cgc (gI.norm [.sl .deed,.o]) (cgc (tX.norm [.st .district,.mp .int .deed,.st .deed]) cg0))) cg0;refine aR [.o] mixed al hG (fn:=Tryz.f15) (c:=ae Tryz.f15) kr kr kr kr (aS fun d=>(dN fun l_=>(aD (fun hp=>?_))));dsimp only[aC]at hp;unfold dl at hp;refine⟨nbl rfl,(fun id st=>bif Nat.beq id 0 then some (LCR (ρ:=Unit) (σ:=(List (Int×Deed))) 2 [] [0,1] (fun k_0 s_0=>⟨[(1,.rs .deed l_),(2,.ptr 0 0),(5,.os 1),(21,.rs .deed l_),(22,.v (.int .i64 (l_.length:Int))),(23,.v (.int .i64 (k_0:Int)))],[.cells (cellsOf .district d),.mp .int .deed s_0 none]⟩) (cW d l_) (iI d l_) l_.length ([]) (l_.length<=bb) (fun _=>.ret) (fun x_0_0=>⟨[(4,.v (.int .i64 250))],[.dead,.dead]⟩) st)else none),?_,?_⟩
 ·unfold ae Tryz.f15;simp only[ak,true_and,and_true]
  ·refine d9 mixed al hG kr (fun _=>rfl) (l_.length:Int) rfl gX (fun hb0 k_0 s_0 hlt0 hq0 hw hc=>⟨L0,ah _,?_⟩) (fun hb0 s_0 hc=>?_)
   ·unfold iI at hq0;try simp only[hw,Int.toNat_natCast]at hq0
    exact bY (jl [0,1])
   ·exact bZ (jl [0,1])
 ·unfold ae Tryz.f15;try unfold ai
  exact zq1
end Go.Sx
end
section
namespace Go.Sx
open Go.RowKit
def pXM {α:Type 1}(t t2:Tag)(k:List (t.T×t2.T)->List SV->Option α):List SV->Option α
 | .ep [s] 0::r=>pM t t2 k (s::r)
 |_=>none
@[go_sem] theorem Sd {α:Type 1}{t t2:Tag}{k:List (t.T×t2.T)->List SV->Option α}{s:SV}{r:List SV}:pXM t t2 k (.ep [s] 0::r)=pM t t2 k (s::r):=(rfl)
theorem En {α:Type 1}{G:List SV->α->Prop}{t t2:Tag}{k:List (t.T×t2.T)->List SV->Option α}(h:∀ n l c,k n l=some c->G (.ep [.rm t t2 n] 0::l) c):∀ l c,pXM t t2 k l=some c->G l c:=fun l c hc=>by
 unfold pXM at hc;split at hc
 ·obtain⟨x,r,e,h1⟩:=Hn hc;simp only[List.cons.injEq]at e;obtain⟨rfl,rfl⟩:=e;exact h x _ c h1
 ·cases hc
section
universe u
variable {α:Type u}{G:List SV->α->Prop}
def pLS (k:List SV->Option (List SV->Option α)):List SV->Option α
 | .ls l::r=>apO (k l) r
 |_=>none
@[go_sem] theorem US {k:List SV->Option (List SV->Option α)}{l r:List SV}:pLS k (.ls l::r)=apO (k l) r:=(rfl)
end
open Classical in
noncomputable def fQ {τ:Type}(A:τ->List SV)(H:τ->List Ob)(K:τ->HCon):List SV->List Ob->Option HCon:=fun l h=>if e:∃ x,l=A x/\h=H x then some (K e.choose)else none
theorem BA (x:Deed):(⟨x.no,x.kind,x.right,x.since,x.to,x.parts,x.of_,x.at_,x.known⟩:Deed)=x:=rfl
theorem sH (d:District):(⟨d.name,d.hours,⟨d.tank.cap,d.tank.start⟩,d.reaches,d.farms,d.crops,d.rights,d.duties,d.wells⟩:District)=d:=rfl
theorem cl4 {p:Prop}(h:p:=by(repeat' (first|with_reducible refine And.intro ?_ ?_|with_reducible intro _)) <;>(first|done|with_reducible assumption|omega|(simp only[List.nil_append,List.append_nil,Int.toNat_natCast,BA,sH]at *;first|with_reducible assumption|omega|grind) |exact cl3)):p:=h
theorem FD {k:Tag}{x y:k.T}:cellsOf k x=cellsOf k y↔x=y:=⟨fun h=>by
 have h1:=qc x;rw[h,qc y]at h1;exact(Option.some.inj h1).symm,fun h=>by rw[h]⟩
theorem dZ {τ:Type}{A:τ->List SV}{H:τ->List Ob}{K:τ->HCon}{x:τ}(inj:∀ x y,A x=A y->H x=H y->x=y:=by
 intro x y h1 h2;simp only[List.cons.injEq,SV.agg.injEq,SV.ep.injEq,SV.v.injEq,Value.int.injEq,Value.bool.injEq,Value.string.injEq,SV.fn.injEq,SV.rs.injEq,SV.rm.injEq,Ob.row.injEq,Ob.mp.injEq,Ob.cells.injEq,Ob.grid.injEq,heq_eq_eq,FD,true_and,and_true]at h1 h2;first|exact h2|exact h1|(simp_all [Prod.ext_iff];done)):fQ A H K (A x) (H x)=some (K x):=by
 have e:∃ y,A x=A y/\H x=H y:=⟨x,rfl,rfl⟩;unfold fQ;rw[dif_pos e];have:=inj _ _ e.choose_spec.1 e.choose_spec.2;rw[<-this]
theorem cP {τ:Type}{A:τ->List SV}{H:τ->List Ob}{K:τ->HCon}{l:List SV}{h:List Ob}{c:HCon}(hh:fQ A H K l h=some c):∃ x,l=A x/\h=H x/\c=K x:=by
 unfold fQ at hh;split at hh
 ·rename_i e;simp only[Option.some.injEq]at hh;exact⟨e.choose,e.choose_spec.1,e.choose_spec.2,hh.symm⟩
 ·cases hh
def FE (k:Tag)(i:Nat)(t:List (Nat×SV))(h:List Ob):SV->St
 | .v (.slice none 0 0) =>⟨(i,.os h.length)::t,h++[.row k []]⟩
 |_=>⟨t,h⟩
def HX (k:Tag)(id off:Nat)(t:List (Nat×SV))(h:List Ob)(l:List SV):Option SV->St
 |some (.v (.slice none 0 0)) =>⟨t,bp h id (.cells (l.set off (.os h.length)))++[.row k []]⟩
 |_=>⟨t,h⟩
def KK (k:Tag)(id off:Nat)(t:List (Nat×SV))(h:List Ob):Ob->St
 | .cells l=>HX k id off t h l (nth l off)
 |_=>⟨t,h⟩
def HY (k:Tag)(t:List (Nat×SV))(h:List Ob):SV->St
 | .ptr id off=>KK k id off t h (ag h id)
 |_=>⟨t,h⟩
def BB (k:Tag):ResultVar->List (Nat×SV)->List Ob->St
 | .tmp i,t,h=>FE k i t h (lk i t)
 | .cell i _,t,h=>HY k t h (lk i t)
def w7:List (ResultVar×Tag)->St->St
 | [],st=>st
 |x::r,st=>w7 r (BB x.2 x.1 st.t st.h)
theorem KL (k:Tag)(r:ResultVar)(st:St):NilS st (BB k r st.t st.h):=by
 obtain⟨t,h⟩:=st;cases r with
 |tmp i=>
  show NilS _ (FE k i t h (lk i t));unfold FE;split
  ·rename_i e;exact .slot _ (.refl _) e (.inl ⟨_,rfl⟩)
  ·exact .refl _
 |cell i _=>
  show NilS _ (HY k t h (lk i t));unfold HY;split
  ·unfold KK;split
   ·rename_i e;unfold HX;split
    ·rename_i e2;exact .cell _ (.refl _) e (by rw[<-dM];exact e2) (.inl ⟨_,rfl⟩)
    ·exact .refl _
   ·exact .refl _
  ·exact .refl _
theorem NilS.trans {a b c:St}(h1:NilS a b)(h2:NilS b c):NilS a c:=by
 induction h2 with
 |refl=>exact h1
 |cell o _ e1 e2 ho ih=>exact .cell o ih e1 e2 ho
 |slot o _ e1 ho ih=>exact .slot o ih e1 ho
 |slotE k _ e1 ih=>exact .slotE k ih e1
theorem NO (l:List (ResultVar×Tag)):∀ st,NilS st (w7 l st):=by
 induction l with
 |nil=>exact fun st=>.refl _
 |cons x r ih=>exact fun st=>(KL x.2 x.1 st).trans (ih _)
def Eo (l:List (ResultVar×Tag))(rs:List ResultVar)(ts:Tis)(post:SV->Prop)(pp:Value->Prop):Ex->St->Prop
 | .exit _,_=>False
 | .normal,st=>du post (rl true rs ts (w7 l st))
 | .ret,st=>du post (rl true rs ts (w7 l st))
 | .pan x,_=>pp x
section
variable {l:List (ResultVar×Tag)}{rs:List ResultVar}{ts:Tis}{post:SV->Prop}{pp:Value->Prop}{st:St}{k:Tag}{i id off:Nat}{t:List (Nat×SV)}{h:List Ob}{m:List SV}
@[go_sem] theorem Qf:Eo l rs ts post pp .ret st=du post (rl true rs ts (w7 l st)):=(rfl)
@[go_sem] theorem KM:Eo l rs ts post pp .normal st=du post (rl true rs ts (w7 l st)):=(rfl)
@[go_sem] theorem Qg {x:Value}:Eo l rs ts post pp (.pan x) st=pp x:=(rfl)
@[go_sem] theorem Se:w7 [] st=st:=(rfl)
@[go_sem] theorem Qh {r:ResultVar}:w7 ((r,k)::l) ⟨t,h⟩=w7 l (BB k r t h):=(rfl)
@[go_sem] theorem Qi:BB k (.tmp i) t h=FE k i t h (lk i t):=(rfl)
@[go_sem] theorem NP {ty:TypeId}:BB k (.cell i ty) t h=HY k t h (lk i t):=(rfl)
@[go_sem] theorem Sf:FE k i t h (.v (.slice none 0 0))=⟨(i,.os h.length)::t,h++[.row k []]⟩:=(rfl)
@[go_sem] theorem T3:FE k i t h (.os id)=⟨t,h⟩:=(rfl)
@[go_sem] theorem Sg:HY k t h (.ptr id off)=KK k id off t h (ag h id):=(rfl)
@[go_sem] theorem NQ:KK k id off t h (.cells m)=HX k id off t h m (nth m off):=(rfl)
@[go_sem] theorem Sh:HX k id off t h m (some (.v (.slice none 0 0)))=⟨t,bp h id (.cells (m.set off (.os h.length)))++[.row k []]⟩:=(rfl)
@[go_sem] theorem T4:HX k id off t h m (some (.os i))=⟨t,h⟩:=(rfl)
attribute [go_sem] List.set_cons_zero
end
section
variable {P:Program}{ts:Tis}{G:Cons}
theorem nI (l:List (ResultVar×Tag)) (hm:P.follows .mixedOrders=true) (hts:ts.ok P) (hG:ConsOk P G) {f:FuncId} {fn:Func} {c:Code} (hf:P.funcs[f]? =some fn) (hb:fn.body=some c) (hname:(fn.name== "runtime.NumGoroutine")=false)
  (hc:cj fn.ntmps c=true) {C:List SV->Option Con}
  (h:∀ l0 con,C l0=some con->aC con->l0.length<=fn.ntmps/\∃ L,ak P none fn.ntmps L c/\exec ts G L c ⟨jF 0 l0,[]⟩ (Eo l fn.results.toList ts (cS con) (jn con))):FnOk P f C:=by
 refine⟨fun l con _ args w=>?_,fun l0 con hcon hpre F w vs hF hvs=>?_⟩
 ·have hn:¬fn.name= "runtime.NumGoroutine":=by simpa using hname
  simp[callFunc,hf,hn,hb]
 ·obtain⟨hlen,L,hl,hx⟩:=h l0 con hcon hpre;refine mM (n:=0) (callsIn_of_wp_marks hf hb trivial ?_);have hr:StRel F { w:=w,own:=ce} fn.ntmps ce ⟨jF 0 l0,[]⟩ { tmps:=vs++Array.replicate (fn.ntmps - vs.size) undef,defers:=[]} w:=
   ⟨by have:=hvs.1;simp;omega,Dfr.nil,sp hF,Fr.refl _,fun t=>lA hvs _ t⟩
  refine wpIn_mono (ml hm hts hG c hc hl F _ _ hx ce _ w hr) ?_;intro e a' w' hq;have key:∀ F1 own st,(∀ b,F b->F1 b)->StRel F1 { w:=w,own:=ce} fn.ntmps own st a' w'->du (cS con) (rl true fn.results.toList ts (w7 l st))->LeavesInM (rd none) 0 P fn a'.tmps
    (fun e w'=>(∃ s u own',cS con s/\e=.returned u/\Handed F w own' w' s u/\Below w.heap.size w w')\/(∃ x,jn con x/\e=.panicked [{ v:=x,recovered:=false}]/\Below w.heap.size w w')) a'.defers .returning w':=by
   intro F1 own0' st0 hF1 hst0 hdone;obtain⟨own,hst⟩:=(NO l st0).rel hst0;generalize w7 l st0=st at hst hdone;refine iT hst (by simp) fun w2 hst2=>?_;have hst3:=hst2.less hF1 rfl;unfold rl at hdone;cases hs:kh (jm ts st fn.results.toList)with
   |none=>
    simp only[cond_true,ES]at hdone;rw[hs]at hdone;exact hdone.elim
   |some s=>
    obtain⟨u,e1,e2⟩:=so (P:=P) hts hst3 hs;refine⟨u,e1,.inl ?_⟩;simp only[cond_true,ES]at hdone;rw[hs]at hdone;change du (cS con) (uf st.h s)at hdone;cases hg:uf st.h s with
    |none=>rw[hg]at hdone;exact hdone.elim
    |some s2=>
     rw[hg]at hdone;obtain⟨own',hh⟩:=D7 hst3 e2 hg;exact⟨_,u,own',hdone,rfl,hh,lz hst3.fr⟩
  cases e with
  |normal=>obtain⟨F1,own,st,h0,h1,h2⟩:=hq;exact key F1 own st h0 h1 h2
  |ret=>obtain⟨F1,own,st,h0,h1,h2⟩:=hq;exact key F1 own st h0 h1 h2
  |exit id=>obtain⟨F1,own,st,h0,h1,h2⟩:=hq;exact h2.elim
  |panic ch=>
   obtain⟨x,F1,own,st,h0,h1,h2,rfl⟩:=hq;exact iT h1 (by simp) fun w2 hst2=>.inr ⟨x,h2,rfl,lz hst2.fr⟩
  |_=>exact hq.elim
end
end Go.Sx
end
section
namespace Go.Sx
open Go.Proofs
open IntKind (i64 u64)
theorem g_ {l0 l1:List Nat}(a0:JL l0)(a1:JL l1){p:Prop}(h:JL l0->JL l1->p:=by intro ja jb;(first|done|(repeat' (first|with_reducible refine And.intro ?_ ?_|((with_reducible show _≠_);first|assumption|omega|(simp_all [cO,dK];done) |grind) |with_reducible intro _)) <;>(first|done|with_reducible exact Empty.elim ‹Empty› |with_reducible assumption|rfl|omega|assumption|decide|exact fk ja|exact fk jb|exact czl|(simp only[*,cond_true,cond_false,Bool.not_true,Bool.not_false,go_sem,Nat.reduceBEq,Nat.reduceLeDiff,Nat.reduceLT,decide_true,Nat.reduceAdd,Nat.reduceSub,Nat.reduceMul,Int.reduceLE,Int.reduceLT,Int.reduceToNat,Int.reduceNeg,reduceCtorEq];(repeat' (first|with_reducible refine And.intro ?_ ?_|((with_reducible show _≠_);first|assumption|omega|(simp_all [cO,dK];done) |grind) |with_reducible intro _)) <;>(first|done|assumption|rfl|omega|decide|exact fk ja|exact fk jb|(simp_all [cO,dK];done))) |(simp_all [okI,cO,dK];done) |(simp_all [cO,dK];(first|done|exact fk2 ja|exact fk2 jb)) |exact fk2 ja|exact fk2 jb))):p:=h a0 a1
@[go_sem] def iJ:List SV->Option Con:=pR .deed fun l=>pE (.det (l.length*88<=fB) (.nw .deed l))
theorem lJ:FnOk Tryz.prog 40 iJ:=by
 have hG:ConsOk Tryz.prog (mkG [] []):=av cg0 cg0;refine nI [(.tmp 2,.deed)] mixed al hG (fn:=Tryz.f40) (c:=ae Tryz.f40) kr kr kr kr (dN fun l=>aD fun hp=>?_);dsimp only[aC]at hp;refine⟨nbl rfl,L0,ah _,?_⟩;unfold ae Tryz.f40;simp only[go_sem,Nat.reduceBEq,Nat.reduceLeDiff,Nat.reduceAdd,Nat.reduceSub,Nat.reduceMul,Int.reduceLE,Int.reduceLT,Int.reduceToNat,Int.reduceNeg,reduceCtorEq];intro b hb;refine⟨fun h=>?_,fun _=>⟨hp,fun _=>rfl⟩⟩;have hl:=hb h;subst hl;rfl
def eb (z:Deed)(no:Int):Int:=(df z.no no)
@[go_sem] def oc:List SV->Option Con:=(pD .deed fun z=>(pI fun no=>(pE (.det True (.v (.int .i64 (eb z no)))))))
theorem sI:FnOk Tryz.prog 37 oc:=by
 have hG:ConsOk Tryz.prog (mkG [(38,fm)] []):=av (cgc gj cg0) cg0;refine aR [.o] mixed al hG (fn:=Tryz.f37) (c:=ae Tryz.f37) kr kr kr kr (aS fun z=>(cq fun no=>(aD (fun hp=>?_))));dsimp only[aC]at hp;refine⟨nbl rfl,L0,ah _,?_⟩
 ·unfold ae Tryz.f37;try unfold eb
  exact zq1
@[go_sem] def aA (x:List Deed)(target:Int)(k_0:Nat)(s_0:Int×Int):Int⊕(Int×Int):=letI q0:=i64.wrap (im .u64 (u64.wrap (i64.wrap (s_0.1+s_0.2))) 1);(bif(decide (s_0.1<s_0.2))then(bif(decide ((eb (x.getD (Int.toNat q0) default) target) <0))then .inr ((i64.wrap (q0+1)),s_0.2)else .inr (s_0.1,q0))else .inl s_0.1)
def aH (x:List Deed)(target:Int)(k_0:Nat)(s_0:Int×Int):Prop:=((decide (s_0.1<s_0.2))=true->(0<=(i64.wrap (im .u64 (u64.wrap (i64.wrap (s_0.1+s_0.2))) 1))/\(i64.wrap (im .u64 (u64.wrap (i64.wrap (s_0.1+s_0.2))) 1)) < (x.length:Int)))
def an (x:List Deed)(target:Int):Int×Bool:=(match aj (aA x target) (x.length+1) 0 (0,(x.length:Int))with| .inl x_0_0=>(x_0_0,((decide (x_0_0< (x.length:Int)))&&((eb (x.getD (Int.toNat x_0_0) default) target) ==0))) | .inr s_0=>default)
def bw (x:List Deed)(target:Int):Prop:=letI q0:=aA x target;letI q1:=(x.length:Int);letI q2:=x.length+1;(x.length<=bb->(okI q0 (aH x target) q2 0 (0,q1)/\(∀ z_,aj q0 q2 0 (0,q1)≠ .inr z_)/\(∀ x_0_0,aj q0 q2 0 (0,q1)=.inl x_0_0->((decide (x_0_0<q1))=true->(0<=x_0_0/\x_0_0<q1)))))
@[go_sem] def dx:List SV->Option Con:=(pR .deed fun x=>(pI fun target=>(pFn 37 (pE ((pE (.det (bw x target) (.tup [.v (.int .i64 ((an x target).1)),.v (.bool ((an x target).2))]))))))))
theorem ff:FnOk Tryz.prog 36 dx:=by
 have hG:ConsOk Tryz.prog (mkG [(37,fun l=>oc (cX [.st .deed,.o] l))] []):=av (cgc (sI.norm [.st .deed,.o]) cg0) cg0;refine aR [.o,.o] mixed al hG (fn:=Tryz.f36) (c:=ae Tryz.f36) kr kr kr kr (dN fun x=>(cq fun target=>(su (aD ((aD (fun hp=>?_)))))));dsimp only[aC]at hp;unfold bw at hp;refine⟨nbl rfl,(fun id st=>bif Nat.beq id 0 then some (LCV (ρ:=Int) (σ:=(Int×Int)) 0 [] [] (fun k_0 s_0=>⟨[(0,.rs .deed x),(1,.v (.int .i64 target)),(2,.fn 37 [] []),(8,.v (.int .i64 (x.length:Int))),(9,.v (.int .i64 s_0.1)),(10,.v (.int .i64 s_0.2))],[]⟩) (aA x target) (aH x target) (x.length+1) (0,(x.length:Int)) (fun _=>.normal) (fun x_0_0=>⟨[(0,.rs .deed x),(1,.v (.int .i64 target)),(2,.fn 37 [] []),(8,.v (.int .i64 (x.length:Int))),(9,.v (.int .i64 x_0_0))],[]⟩) st)else none),?_,?_⟩
 ·unfold ae Tryz.f36;simp only[ak,true_and,and_true]
  ·refine ez mixed al hG kr (fun _=>rfl) fun k_0 s_0 hq0=>⟨L0,ah _,?_⟩
   ·unfold aH at hq0;exact cH (jl [])
 ·unfold ae Tryz.f36;try unfold an
  exact zq1
def bP (l_:List Deed)(v_:List Deed):List Deed:=(bif((v_.length:Int) ==0)then l_ else(l_++v_))
def cL (l_:List Deed)(v_:List Deed):Prop:=((0<=(l_.length:Int)/\(l_.length:Int)<=(l_.length:Int))/\(v_.length<=bb->(((v_.length:Int) ==0)=false->(l_.length<=bb->((l_++v_).length*88<=fB)))))
noncomputable def fe:List SV->List Ob->Option HCon:=fQ (fun x_:Int×(List Deed)×(List Deed) =>[.os 0,.v (.int .i64 x_.1),.os 1]) (fun x_=>[.row .deed x_.2.1,.row .deed x_.2.2]) (fun x_=>dW (x_.1=(x_.2.1.length:Int)/\(cL x_.2.1 x_.2.2)) (.os 2) [.dead,.row .deed x_.2.2,.row .deed (bP x_.2.1 x_.2.2)])
@[go_sem] theorem eA (i:Int)(l_:List Deed)(v_:List Deed):fe ([.os 0,.v (.int .i64 i),.os 1]) ([.row .deed l_,.row .deed v_])=some (dW (i=(l_.length:Int)/\(cL l_ v_)) (.os 2) [.dead,.row .deed v_,.row .deed (bP l_ v_)]):=dZ (A:=fun x_:Int×(List Deed)×(List Deed) =>[.os 0,.v (.int .i64 x_.1),.os 1]) (H:=fun x_=>[.row .deed x_.2.1,.row .deed x_.2.2]) (K:=fun x_=>dW (x_.1=(x_.2.1.length:Int)/\(cL x_.2.1 x_.2.2)) (.os 2) [.dead,.row .deed x_.2.2,.row .deed (bP x_.2.1 x_.2.2)]) (x:=(i,l_,v_))
theorem zq60 {l0 l1:List Nat}(a0:JL l0)(a1:JL l1){p:Prop}(h:JL l0->JL l1->p:=by intro ja jb;simp only[go_sem,Nat.reduceBEq,Nat.reduceLeDiff,Nat.reduceLT,decide_true,Nat.reduceAdd,Nat.reduceSub,Nat.reduceMul,Int.reduceLE,Int.reduceLT,Int.reduceToNat,Int.reduceNeg,reduceCtorEq,beq_self_eq_true];all_goals exact g_ ja jb):p:=h a0 a1
theorem eU:FnOkO Tryz.prog 39 (fe):=by
 have hG:ConsOk Tryz.prog (mkG [] []):=av cg0 cg0;refine fO mixed al hG (fn:=Tryz.f39) (c:=ae Tryz.f39) kr kr kr kr fun l o con h=>?_;obtain⟨⟨i,l_,v_⟩,rfl,rfl,rfl⟩:=cP h;clear h;try dsimp only
 refine⟨_,_,_,rfl,fun hp=>?_⟩;obtain⟨rfl,hp⟩:=hp;unfold cL at hp;refine⟨nbl rfl,L0,?_,?_⟩
 ·unfold ae Tryz.f39;simp only[ak,and_self,true_and,and_true]
 ·unfold ae Tryz.f39;try unfold bP
  exact zq60 (jl [0,1,0]) (jl [0,1,2])
end Go.Sx
end
section
namespace Go.Sx
open Go.Lib Go.Proofs Go.RowKit Go.Shelf
def pJ (i:Int)(l v:List Deed):List Deed:=l.take i.toNat++(v++l.drop i.toNat)
def rH (i:Int)(l v:List Deed):Prop:=(0<=i/\i<=(l.length:Int))/\v≠[]/\(l.length+v.length)*88<=fB
noncomputable def Df:List SV->List Ob->Option HCon:=fQ (fun x_:Int×(List Deed)×(List Deed) =>[.os 0,.v (.int .i64 x_.1),.os 1]) (fun x_=>[.row .deed x_.2.1,.row .deed x_.2.2]) (fun x_=>dW (rH x_.1 x_.2.1 x_.2.2) (.os 2) [.dead,.dead,.row .deed (pJ x_.1 x_.2.1 x_.2.2)])
@[go_sem] theorem Qj (i:Int)(l_:List Deed)(v_:List Deed):Df ([.os 0,.v (.int .i64 i),.os 1]) ([.row .deed l_,.row .deed v_])=some (dW (rH i l_ v_) (.os 2) [.dead,.dead,.row .deed (pJ i l_ v_)]):=dZ (A:=fun x_:Int×(List Deed)×(List Deed) =>[.os 0,.v (.int .i64 x_.1),.os 1]) (H:=fun x_=>[.row .deed x_.2.1,.row .deed x_.2.2]) (K:=fun x_=>dW (rH x_.1 x_.2.1 x_.2.2) (.os 2) [.dead,.dead,.row .deed (pJ x_.1 x_.2.1 x_.2.2)]) (x:=(i,l_,v_))
section
variable {F:Nat->Prop}{own:Own}{w:World}
theorem yQ {l:List Deed}{o cap:Nat}{cs:Array Value}(h5:o+cap*9<=cs.size)(h6:l.length<=cap)(h:RowAt F own w .deed l o cs):
  ∃ L:List Value,L.length=l.length*9/\(∀ j,j<l.length*9->L[j]? =cs[o+j]?)/\∀ v∈L,v.oneCell'=true:=by
 have hle:l.length*9<=cap*9:=Nat.mul_le_mul_right _ h6;have hL:((cs.toList.drop o).take (l.length*9)).length=l.length*9:=by rw[List.length_take,List.length_drop];have:cs.toList.length=cs.size:=rfl;omega
 have hg:∀ j,j<l.length*9->((cs.toList.drop o).take (l.length*9))[j]? =cs[o+j]?:=fun j hj=>by
  rw[List.getElem?_take,if_pos hj,List.getElem?_drop,Array.getElem?_toList]
 refine⟨_,hL,hg,fun v hv=>?_⟩;obtain⟨j,hj,e⟩:=List.getElem_of_mem hv;rw[hL]at hj;have e1:=hg j hj;rw[List.getElem?_eq_getElem (by rw[hL];exact hj),e]at e1;have hq:j / 9<l.length:=by omega
 have hx:l[j / 9]? =some l[j / 9]:=List.getElem?_eq_getElem hq;have hlen:(cellsOf .deed l[j / 9]).length=9:=rfl;have hs:(cellsOf .deed l[j / 9])[j % 9]? =some ((cellsOf .deed l[j / 9])[j % 9]'(by rw[hlen];omega)):=List.getElem?_eq_getElem _;obtain⟨u,q1,q2⟩:=h _ _ hx _ _ hs;have e9:aa .deed=9:=rfl;rw[e9,show o+j / 9*9+j % 9=o+j by omega,<-e1]at q1;cases q1;exact gh (u7 hs q2)
theorem mo {b:Nat}{ty:TypeId}(vs:List Value)(o:Nat)(w:World){cs:Array Value}(hb:w.heap[b]? =some (.cells cs ty (0,0)))(hle:o+vs.length<=cs.size)(h1:∀ v∈vs,v.oneCell'=true):
  ∃ cs',Puts b ty cs' w (w.setCells b o vs)/\cs'.size=cs.size/\∀ j,cs'[j]? =if o<=j/\j<o+vs.length then vs[j - o]? else cs[j]?:=by
 obtain⟨cs',w',q1,q2,q3,q4⟩:=eQ (P:=Tryz.prog) (b:=b) (o:=o) (ty:=ty) vs 0 w cs hb (by simpa using hle) h1;have:=Go.run_storeCells_cells (P:=Tryz.prog) b o vs 0 w (fun j hj=>by rw[bS hb,Array.getElem?_eq_getElem (by omega)];rfl) (fun j hj=>gS hb _) h1;rw[q1]at this;simp only[Nat.add_zero,Result.ok.injEq,true_and]at this;subst this;exact⟨cs',q2,q3,by simpa using q4⟩
theorem HZ {i:Nat}{l v:List Deed}(hi:i<=l.length):(pJ i l v).length=l.length+v.length:=by
 simp[pJ];omega
theorem H0 {i:Nat}{l v:List Deed}(hi:i<=l.length)(p:Nat):(pJ i l v)[p]? =if p<i then l[p]? else if p<i+v.length then v[p - i]? else l[p - v.length]?:=by
 unfold pJ;rw[Int.toNat_natCast,List.getElem?_append,List.length_take,Nat.min_eq_left hi];split
 ·rename_i h;rw[List.getElem?_take,if_pos h]
 ·rw[List.getElem?_append];by_cases h2:p<i+v.length
  ·rw[if_pos (by omega),if_pos h2]
  ·rw[if_neg (by omega),if_neg h2,List.getElem?_drop];congr 1;omega
theorem BC {own':Own}{w':World}{i:Nat}{l v:List Deed}(hi:i<=l.length){o o1 o':Nat}{cs cs1 cs':Array Value}(g:Goes F own w own' w')(h:RowAt F own w .deed l o cs)(h1:RowAt F own w .deed v o1 cs1)
  (c1:∀ j,j<i*9->cs'[o'+j]? =cs[o+j]?) (c2:∀ j,j<v.length*9->cs'[o'+(i*9+j)]? =cs1[o1+j]?) (c3:∀ j,j< (l.length - i)*9->cs'[o'+((i+v.length)*9+j)]? =cs[o+(i*9+j)]?):
  RowAt F own' w' .deed (pJ i l v) o' cs':=by
 intro p x hx j s hs;have e9:aa .deed=9:=rfl;have hj:j<9:=by
  have:(cellsOf .deed x).length=9:=rfl;rw[<-this];exact(List.getElem?_eq_some_iff.1 hs).1
 rw[e9];rw[H0 hi]at hx;split at hx
 ·rename_i hp;obtain⟨u,q1,q2⟩:=h _ _ hx _ _ hs;refine⟨u,?_,q2.mono g⟩;rw[e9]at q1;rw[Nat.add_assoc,c1 _ (by omega),<-Nat.add_assoc];exact q1
 ·rename_i hp;split at hx
  ·rename_i hp2;obtain⟨u,q1,q2⟩:=h1 _ _ hx _ _ hs;refine⟨u,?_,q2.mono g⟩;rw[e9]at q1;have:=c2 ((p - i)*9+j) (by omega);rw[show o'+(i*9+((p - i)*9+j))=o'+p*9+j by omega,<-Nat.add_assoc o1]at this;rw[this];exact q1
  ·rename_i hp2;have hpl:=(List.getElem?_eq_some_iff.1 hx).1;obtain⟨u,q1,q2⟩:=h _ _ hx _ _ hs;refine⟨u,?_,q2.mono g⟩;rw[e9]at q1;have:=c3 ((p - v.length - i)*9+j) (by omega);rw[show o'+((i+v.length)*9+((p - v.length - i)*9+j))=o'+p*9+j by omega,show o+(i*9+((p - v.length - i)*9+j))=o+(p - v.length)*9+j by omega]at this;rw[this];exact q1
theorem KN:FnOkO Tryz.prog 39 Df:=by
 refine⟨fun l h c hc args w=>?_,fun l h c hc hp F own w vs hHp hvs=>?_⟩
 ·obtain⟨⟨i,l,v⟩,rfl,rfl,rfl⟩:=cP hc;exact eU.enter _ _ _ (eA i l v) args w
 obtain⟨⟨i,l,v⟩,rfl,rfl,rfl⟩:=cP hc;clear hc;obtain⟨⟨hi0,hi1⟩,hv0,hfit⟩:rH i l v:=hp;obtain⟨k,rfl⟩:=Int.eq_ofNat_of_zero_le hi0;have hvl:0<v.length:=List.length_pos_iff.2 hv0;by_cases hk:k=l.length
 ·subst hk;have:=eU.calls _ _ _ (eA (l.length:Int) l v) ⟨rfl,⟨by omega,by omega⟩,fun _ _ _=>by rw[List.length_append];exact hfit⟩ F own w vs hHp hvs;refine this.mono fun e w' ⟨r,own',h1,h2⟩ =>⟨r,own',h1,?_⟩;have e1:bP l v=pJ (l.length:Int) l v:=by
   unfold bP pJ;have:((v.length:Int) ==0)=false:=by simpa using hv0
   rw[this];simp
  rw[e1]at h2;obtain⟨h3,h4,h5,h6⟩:=h2;refine⟨h3,⟨h4.dom,h4.foreign,h4.apart,h4.inj,h4.lt,fun id hid=>?_⟩,h5,h6⟩;match id,hid with
  |0,hid=>cases hid
  |1,hid=>cases hid
  |2,_=>exact h4.obs 2 rfl
  |id+3,hid=>rw[iR (by simp)]at hid;cases hid
 have hkl:k<l.length:=by omega
 obtain⟨hsz,hrel⟩:=hvs;have r0:=hrel 0 _ rfl;have r1:=hrel 1 _ rfl;have r2:=hrel 2 _ rfl;have hvs2:vs= #[vs.getD 0 undef,vs.getD 1 undef,vs.getD 2 undef]:=by
  apply Array.ext
  ·simpa using hsz
  ·intro i h1 h2;simp only[List.length_cons,List.length_nil]at hsz;match i,h1,h2 with
   |0,h1,_=>simp[Array.getD,h1]
   |1,h1,_=>simp[Array.getD,h1]
   |2,h1,_=>simp[Array.getD,h1]
   |i+3,h1,_=>omega
 generalize vs.getD 0 undef=x0 at r0 hvs2;generalize vs.getD 1 undef=x1 at r1 hvs2;generalize vs.getD 2 undef=x2 at r2 hvs2;subst hvs2;have:=bv r1;subst this;obtain⟨hd,o0,rfl,_⟩:=d8 r0;obtain⟨hd',o0',hrow⟩:=hHp.at (id:=0) (o:=.row .deed l) rfl rfl;rw[o0]at o0';cases o0';obtain⟨hd1,o1,rfl,_⟩:=d8 r2;obtain⟨hd',o1',hrow1⟩:=hHp.at (id:=1) (o:=.row .deed v) rfl rfl;rw[o1]at o1';cases o1';have hrow:RowRel F own w .deed l hd.v hd.bs:=hrow;have hrow1:RowRel F own w .deed v hd1.v hd1.bs:=hrow1;rcases hrow with⟨a,_,rfl,_⟩ | ⟨b,o,cap,cells,ty,e1,e2,e3,e4,e5,e6,e7⟩
 ·exact absurd hkl (by simp)
 rcases hrow1 with⟨a,_,rfl,_⟩ | ⟨b1,oo1,cap1,cells1,ty1,f1,f2,f3,f4,f5,f6,f7⟩
 ·exact absurd rfl hv0
 have e9:aa .deed=9:=rfl;rw[e9]at e4 f4;have hbb:b1≠b:=fun e=>by
  have:=hHp.inj 0 1 hd hd1 b o0 o1 (by rw[e2];simp) (by rw[f2,e];simp);cases this
 have hbw:b<w.heap.size:=hHp.lt 0 hd b o0 (by rw[e2];simp);obtain⟨L,hL,hLg,hL1⟩:=yQ e4 e5 e7;obtain⟨V,hV,hVg,hV1⟩:=yQ f4 f5 f7;have hcs:∀ j u,L[j]? =some u->w.cell? ⟨b,o+j,none⟩=some u:=fun j u hj=>by
  rw[bS e3,<-hLg j (by rw[<-hL];exact(List.getElem?_eq_some_iff.1 hj).1)];exact hj
 have hvs:∀ j u,V[j]? =some u->w.cell? ⟨b1,oo1+j,none⟩=some u:=fun j u hj=>by
  rw[bS f3,<-hVg j (by rw[<-hV];exact(List.getElem?_eq_some_iff.1 hj).1)];exact hj
 have hmB:fB=140737488355328:=rfl;rw[hmB]at hfit;have hmL:bb=140737488355328:=rfl;have hK:∀ id∈[0,1],∃ hd,own id=some hd:=fun id hm=>by
  simp at hm;rcases hm with rfl|rfl
  ·exact⟨_,o0⟩
  ·exact⟨_,o1⟩
 have hlen:=HZ (v:=v) (Nat.le_of_lt hkl);have hn:NxOk own [Ob.row .deed l,.row .deed v] 2:=hHp.nx;have fin:∀ (own':Own) (w':World) (x:Value),Step F own w (aK [Ob.row .deed l,.row .deed v] ([0,1].map (fun id=>(id,Ob.dead))++[(2,.row .deed (pJ k l v))])) own' w'->Rel F own' w' (.os 2) x->
   ∃ r own'',(dW (rH k l v) (.os 2) [.dead,.dead,.row .deed (pJ k l v)]).post r/\zH F w own 2 (.returned x) own'' w' ((dW (rH k l v) (.os 2) [.dead,.dead,.row .deed (pJ k l v)]).res r):=fun own' w' x hst hx=>
  ⟨(),own',trivial,⟨_,rfl,hx⟩,hst.hp,hst.fr,by simp⟩
 rw[e1,f1];by_cases hroom:l.length+v.length<=cap
 ·have hdl:(L.drop (k*9)).length=(l.length - k)*9:=by rw[List.length_drop,hL];omega
  have hc9:(l.length+v.length)*9<=cap*9:=Nat.mul_le_mul_right _ hroom;have hsp:∀ j,j< (l.length+v.length)*9->(w.cell? ⟨b,o+j,none⟩).isSome=true:=fun j hj=>by
   rw[bS e3,Array.getElem?_eq_getElem (by omega)];rfl
  refine(insD_shift b o l.length cap k b1 oo1 v.length cap1 L V w hkl hvl hroom (by omega) hbb hL hV hcs hsp (fun j _=>gS e3 _) hvs hL1 hV1 ty1 ty cells1.size cells.size (by simp[World.shape?,f3]) (by simp[World.shape?,e3]) (by omega) (gS f3 _) (gS f3 _)).mono fun e w' he=>?_;obtain⟨rfl,rfl⟩:=he;obtain⟨cs2,p1,p2,p3⟩:=mo (b:=b) (ty:=ty) (L.drop (k*9)) (o+(k+v.length)*9) w.drew e3 (by rw[hdl];omega) (fun u hu=>hL1 u (List.mem_of_mem_drop hu));obtain⟨cs3,p4,p5,p6⟩:=mo (b:=b) (ty:=ty) V (o+k*9) _ p1.here (by rw[p2,hV];omega) hV1;have hput:∀ c,c≠b->((w.drew.setCells b (o+(k+v.length)*9) (L.drop (k*9))).setCells b (o+k*9) V).heap[c]? =w.heap[c]?:=fun c hc=>(p4.other c hc).trans (p1.other c hc);have hsize:=p4.size.trans p1.size;refine fin (own.move [0,1] 2 ⟨none,.slice (some ⟨b,o,none⟩) (l.length+v.length) cap,[],[b]⟩) _ _ (fg hHp hn [0,1] hK _ _ (fun c hc=>?_) (fun c _ hc=>hput c fun e=>hc ⟨0,by simp,hd,o0,by rw[e2,e];simp⟩) (by rw[hsize];exact Nat.le_refl _) (p4.os.trans p1.os) (p4.tape.trans p1.tape) (p4.output.trans p1.output) fun own' g=>?_) ?_
  ·simp at hc;subst hc;exact .inl ⟨0,by simp,hd,o0,by rw[e2];simp⟩
  ·refine .inr ⟨b,o,cap,cs3,ty,by rw[hlen],rfl,p4.here,by rw[p5,p2,e9];exact e4,by rw[hlen];exact hroom,by rw[hlen];omega,BC (Nat.le_of_lt hkl) g e7 f7 (fun j hj=>?_) (fun j hj=>?_) (fun j hj=>?_)⟩
   ·rw[p6,if_neg (by omega),p3,if_neg (by omega)]
   ·rw[p6,if_pos (by omega),<-hVg j hj];congr 1;omega
   ·rw[p6,if_neg (by omega),p3,if_pos (by rw[hdl];omega),List.getElem?_drop,<-hLg _ (by omega)];congr 1;omega
  ·exact Rel.os (hd:=⟨none,.slice (some ⟨b,o,none⟩) (l.length+v.length) cap,[],[b]⟩) (if_pos rfl) rfl
 ·refine(insD_grow b o l.length cap k b1 oo1 v.length cap1 L V w hkl hvl e5 (by omega) hfit hL hV hcs hvs hL1 hV1).mono fun e w' he=>?_;obtain⟨rfl,ROW,hR1,hR2,rfl⟩:=he;have hge:=mh w (l.length+v.length) cap 35;generalize grownCap w (l.length+v.length) cap 35=G at hR1 hge |-;have hdl:(L.drop (k*9)).length=(l.length - k)*9:=by rw[List.length_drop,hL];omega
  have hG9:(l.length+v.length)*9<=G*9:=Nat.mul_le_mul_right _ hge;obtain⟨cs2,p1,p2,p3⟩:=mo (b:=w.heap.size) (ty:=35) V (k*9) (w.alloc (.cells ROW 35)).drew (gw w _) (by rw[hV,hR1];omega) hV1;obtain⟨cs3,p4,p5,p6⟩:=mo (b:=w.heap.size) (ty:=35) (L.drop (k*9)) ((k+v.length)*9) ((w.alloc (.cells ROW 35)).drew.setCells w.heap.size (k*9) V).drew p1.here (by rw[p2,hR1,hdl];omega) (fun u hu=>hL1 u (List.mem_of_mem_drop hu));have hput:∀ c,c<w.heap.size->((((w.alloc (.cells ROW 35)).drew.setCells w.heap.size (k*9) V).drew).setCells w.heap.size ((k+v.length)*9) (L.drop (k*9))).heap[c]? =w.heap[c]?:=fun c hc=>
   (p4.other c (by omega)).trans ((p1.other c (by omega)).trans (jH w _ c hc))
  have hsize:((((w.alloc (.cells ROW 35)).drew.setCells w.heap.size (k*9) V).drew).setCells w.heap.size ((k+v.length)*9) (L.drop (k*9))).heap.size=w.heap.size+1:=p4.size.trans (p1.size.trans (eP w _));refine fin (own.move [0,1] 2 ⟨none,.slice (some ⟨w.heap.size,0,none⟩) (l.length+v.length) G,[],[w.heap.size]⟩) _ _ (fg hHp hn [0,1] hK _ _ (fun c hc=>?_) (fun c hc _=>hput c hc) (by rw[hsize];omega) (p4.os.trans p1.os) (p4.tape.trans p1.tape) (p4.output.trans p1.output) fun own' g=>?_) ?_
  ·simp at hc;subst hc;exact .inr ⟨Nat.le_refl _,by rw[hsize];omega⟩
  ·refine .inr ⟨w.heap.size,0,G,cs3,35,by rw[hlen],rfl,p4.here,by rw[p5,p2,e9,hR1];omega,by rw[hlen];exact hge,by rw[hlen];omega,BC (Nat.le_of_lt hkl) g e7 f7 (fun j hj=>?_) (fun j hj=>?_) (fun j hj=>?_)⟩
   ·have hjL:j<L.length:=by omega
    rw[p6,if_neg (by omega),p3,if_neg (by omega),Nat.zero_add,hR2 j _ hj (List.getElem?_eq_getElem hjL),<-List.getElem?_eq_getElem hjL,hLg j (by omega)]
   ·rw[p6,if_neg (by omega),p3,if_pos (by omega),<-hVg j hj];congr 1;omega
   ·rw[p6,if_pos (by rw[hdl];omega),List.getElem?_drop,<-hLg _ (by omega)];congr 1;omega
  ·exact Rel.os (hd:=⟨none,.slice (some ⟨w.heap.size,0,none⟩) (l.length+v.length) G,[],[w.heap.size]⟩) (if_pos rfl) rfl
end
end Go.Sx
end
section
namespace Go.Sx
open Go.Proofs
open IntKind (i64)
def d6 (d:District)(l_:List Deed)(x:Deed):List Deed×Int:=letI q0:=an l_ x.no;letI q1:=pJ (q0.1) l_ ([x]);letI q2:=ai d l_;letI q3:=ai d q1;(bif(q2 !=0)then([],q2)else(bif q0.2 then([],171)else(bif(q3 !=0)then([],q3)else(q1,0))))
def ed (d:District)(l_:List Deed)(x:Deed):Prop:=letI q0:=an l_ x.no;((dl d l_)/\(((ai d l_) !=0)=false->((bw l_ x.no)/\(q0.2=false->((l_.length*88<=fB)/\((rH (q0.1) l_ ([x]))/\(dl d (pJ (q0.1) l_ ([x])))))))))
@[go_sem] def jV:List SV->Option Con:=(pD .district fun d=>(pR .deed fun l_=>(pD .deed fun x=>(pE (.det (ed d l_ x) (.tup [.nw .deed ((d6 d l_ x).1),.v (.int .i64 ((d6 d l_ x).2))]))))))
theorem zq61 {p:Prop}(h:p:=by simp only[go_sem,Nat.reduceBEq,Nat.reduceLeDiff,Nat.reduceLT,decide_true,Nat.reduceAdd,Nat.reduceSub,Nat.reduceMul,Int.reduceLE,Int.reduceLT,Int.reduceToNat,Int.reduceNeg,reduceCtorEq];all_goals exact cl3):p:=h
theorem l5:FnOk Tryz.prog 13 jV:=by
 have hG:ConsOk Tryz.prog (mkG [(15,fun l=>eK (cX [.st .district,.sl .deed] l)),(36,fun l=>dx (cX [.sl .deed,.o,.o] l)),(40,fun l=>iJ (cX [.sl .deed] l))] [(39,Df)]):=av (cgc (fu.norm [.st .district,.sl .deed]) (cgc (ff.norm [.sl .deed,.o,.o]) (cgc (lJ.norm [.sl .deed]) cg0))) (cgc KN cg0);refine nI [(.tmp 6,.deed)] mixed al hG (fn:=Tryz.f13) (c:=ae Tryz.f13) kr kr kr kr (aS fun d=>(dN fun l_=>(aS fun x=>(aD (fun hp=>?_)))));dsimp only[aC]at hp;unfold ed at hp;refine⟨nbl rfl,L0,ah _,?_⟩
 ·unfold ae Tryz.f13;try unfold d6
  exact zq61
def aN (x:Deed)(known:Int)(hour:Int)(void_:List (Int×Bool)):Bool:=((((x.kind==4) ||(decide (x.known > known))) ||(decide (x.at_ > hour))) ||(dL .int .bool void_ x.no))
@[go_sem] def gJ:List SV->Option Con:=(pD .deed fun x=>(pX .int fun known=>(pX .int fun hour=>(pXM .int .bool fun void_=>(pE (.det True (.v (.bool (aN x known hour void_)))))))))
theorem jW:FnOk Tryz.prog 76 gJ:=by
 have hG:ConsOk Tryz.prog (mkG [] []):=av cg0 cg0;refine aR [.o] mixed al hG (fn:=Tryz.f76) (c:=ae Tryz.f76) kr kr kr kr (aS fun x=>(zZ fun known=>(zZ fun hour=>(En fun void_=>(aD (fun hp=>?_))))));dsimp only[aC]at hp;refine⟨nbl rfl,L0,ah _,?_⟩
 ·unfold ae Tryz.f76;try unfold aN
  exact zq1
def cw (a:Deed)(b:Deed):Int:=(df a.at_ b.at_)
@[go_sem] def gK:List SV->Option Con:=(pD .deed fun a=>(pD .deed fun b=>(pE (.det True (.v (.int .i64 (cw a b)))))))
theorem jX:FnOk Tryz.prog 78 gK:=by
 have hG:ConsOk Tryz.prog (mkG [(38,fm)] []):=av (cgc gj cg0) cg0;refine aR [.o] mixed al hG (fn:=Tryz.f78) (c:=ae Tryz.f78) kr kr kr kr (aS fun a=>(aS fun b=>(aD (fun hp=>?_))));dsimp only[aC]at hp;refine⟨nbl rfl,L0,ah _,?_⟩
 ·unfold ae Tryz.f78;try unfold cw
  exact zq1
@[go_sem] def c5 (s_:List Deed)(known:Int)(hour:Int)(void_:List (Int×Bool))(k_0:Nat)(s_0:Unit):Int⊕Unit:=(bif(aN (s_.getD k_0 default) known hour void_)then .inl (k_0:Int)else .inr ())
def aG (s_:List Deed)(known:Int)(hour:Int)(void_:List (Int×Bool)):Int:=(match aj (c5 s_ known hour void_) s_.length 0 ()with| .inl x_0_0=>x_0_0| .inr s_0=>(-1))
@[go_sem] def ef:List SV->Option Con:=(pR .deed fun s_=>(pFn 76 (pX .int fun known=>(pX .int fun hour=>(pXM .int .bool fun void_=>(pE ((pE (.det True (.v (.int .i64 (aG s_ known hour void_))))))))))))
theorem gO:FnOk Tryz.prog 65 ef:=by
 have hG:ConsOk Tryz.prog (mkG [(76,fun l=>gJ (cX [.st .deed,.o,.o,.o] l))] []):=av (cgc (jW.norm [.st .deed,.o,.o,.o]) cg0) cg0;refine aR [.o] mixed al hG (fn:=Tryz.f65) (c:=ae Tryz.f65) kr kr kr kr (dN fun s_=>(su (zZ fun known=>(zZ fun hour=>(En fun void_=>(aD ((aD (fun hp=>?_)))))))));dsimp only[aC]at hp;refine⟨nbl rfl,(fun id st=>bif Nat.beq id 0 then some (LCR (ρ:=Int) (σ:=Unit) 0 [] [] (fun k_0 s_0=>⟨[(0,.rs .deed s_),(1,.fn 76 [] [.ep [.v (.int .i64 known)] 0,.ep [.v (.int .i64 hour)] 0,.ep [.rm .int .bool void_] 0]),(7,.v (.int .i64 (s_.length:Int))),(8,.v (.int .i64 (k_0:Int)))],[]⟩) (c5 s_ known hour void_) pT s_.length () (s_.length<=bb) (fun _=>.ret) (fun x_0_0=>⟨[(4,.v (.int .i64 x_0_0))],[]⟩) st)else none),?_,?_⟩
 ·unfold ae Tryz.f65;simp only[ak,true_and,and_true]
  ·refine d9 mixed al hG kr (fun _=>rfl) (s_.length:Int) rfl gX (fun hb0 k_0 s_0 hlt0 _ hw hc=>⟨L0,ah _,?_⟩) (fun hb0 s_0 hc=>?_)
   ·exact bY (jl [])
   ·exact bZ (jl [])
 ·unfold ae Tryz.f65;try unfold aG
  exact zq1
@[go_sem] noncomputable def dm:List SV->Option Con:=fun l=>(orC (dv l) (ef l))
theorem h_:FnOk Tryz.prog 65 dm:=(FnOk.or eu gO)
@[go_sem] def bf (l_:List Deed)(known:Int)(hour:Int)(void_:List (Int×Bool))(k_0:Nat)(s_0:List Deed×Int×Int):(Int×List Deed)⊕(List Deed×Int×Int):=letI q0:=s_0.1.getD (Int.toNat s_0.2.2) default;letI q1:=i64.wrap (s_0.2.2+1);(bif(decide (s_0.2.2< (s_0.1.length:Int)))then(bif(!(aN q0 known hour void_))then .inr ((s_0.1.set (Int.toNat s_0.2.1) q0),(i64.wrap (s_0.2.1+1)),q1)else .inr (s_0.1,s_0.2.1,q1))else .inl (s_0.2.1,s_0.1))
def bt (l_:List Deed)(known:Int)(hour:Int)(void_:List (Int×Bool))(k_0:Nat)(s_0:List Deed×Int×Int):Prop:=letI q0:=(s_0.1.length:Int);(s_0.1.length<=bb->((decide (s_0.2.2<q0))=true->((0<=s_0.2.2/\s_0.2.2<q0)/\((!(aN (s_0.1.getD (Int.toNat s_0.2.2) default) known hour void_))=true->(0<=s_0.2.1/\s_0.2.1<q0)))))
def aP (l_:List Deed)(known:Int)(hour:Int)(void_:List (Int×Bool)):List Deed:=letI q0:=aG l_ known hour void_;(bif(q0==(-1))then l_ else(match aj (bf l_ known hour void_) (l_.length+1) 0 (l_,q0,(i64.wrap (q0+1)))with| .inl x_0_0=>(((vL .deed x_0_0.2 x_0_0.1 (x_0_0.2.length:Int)).take (Int.toNat x_0_0.1)).drop 0) | .inr s_0=>default))
def aT (l_:List Deed)(known:Int)(hour:Int)(void_:List (Int×Bool)):Prop:=letI q0:=aG l_ known hour void_;letI q1:=bf l_ known hour void_;letI q2:=(l_,q0,(i64.wrap (q0+1)));letI q3:=l_.length+1;((q0==(-1))=false->(okI q1 (bt l_ known hour void_) q3 0 q2/\(∀ z_,aj q1 q3 0 q2≠ .inr z_)/\(∀ x_0_0,aj q1 q3 0 q2=.inl x_0_0->((0<=x_0_0.1/\x_0_0.1<=(x_0_0.2.length:Int))/\(0<=0/\0<=x_0_0.1/\x_0_0.1<=((vL .deed x_0_0.2 x_0_0.1 (x_0_0.2.length:Int)).length:Int))))))
noncomputable def dp:List SV->List Ob->Option HCon:=fQ (fun x_:(List Deed)×Int×Int×(List (Int×Bool)) =>[.os 0,.fn 76 [] [.ptr 1 0,.ptr 2 0,.ptr 3 0]]) (fun x_=>[.row .deed x_.1,.cells [.v (.int .i64 x_.2.1)],.cells [.v (.int .i64 x_.2.2.1)],.cells [.os 4],.mp .int .bool x_.2.2.2 none]) (fun x_=>dW (aT x_.1 x_.2.1 x_.2.2.1 x_.2.2.2) (.os 5) [.dead,.cells [.v (.int .i64 x_.2.1)],.cells [.v (.int .i64 x_.2.2.1)],.cells [.os 4],.mp .int .bool x_.2.2.2 none,.row .deed (aP x_.1 x_.2.1 x_.2.2.1 x_.2.2.2)])
@[go_sem] theorem o_ (l_:List Deed)(known:Int)(hour:Int)(void_:List (Int×Bool)){p4_:Option (Nat×Option Tag.int.T)}(hp4_:p4_=none):dp ([.os 0,.fn (76:Nat) [] [.ptr 1 0,.ptr 2 0,.ptr 3 0]]) ([.row .deed l_,.cells [.v (.int .i64 known)],.cells [.v (.int .i64 hour)],.cells [.os 4],.mp .int .bool void_ p4_])=some (dW (aT l_ known hour void_) (.os 5) [.dead,.cells [.v (.int .i64 known)],.cells [.v (.int .i64 hour)],.cells [.os 4],.mp .int .bool void_ none,.row .deed (aP l_ known hour void_)]):=by
 subst hp4_;exact dZ (A:=fun x_:(List Deed)×Int×Int×(List (Int×Bool)) =>[.os 0,.fn 76 [] [.ptr 1 0,.ptr 2 0,.ptr 3 0]]) (H:=fun x_=>[.row .deed x_.1,.cells [.v (.int .i64 x_.2.1)],.cells [.v (.int .i64 x_.2.2.1)],.cells [.os 4],.mp .int .bool x_.2.2.2 none]) (K:=fun x_=>dW (aT x_.1 x_.2.1 x_.2.2.1 x_.2.2.2) (.os 5) [.dead,.cells [.v (.int .i64 x_.2.1)],.cells [.v (.int .i64 x_.2.2.1)],.cells [.os 4],.mp .int .bool x_.2.2.2 none,.row .deed (aP x_.1 x_.2.1 x_.2.2.1 x_.2.2.2)]) (x:=(l_,known,hour,void_))
theorem zq65 {l0 l1:List Nat}(a0:JL l0)(a1:JL l1){p:Prop}(h:JL l0->JL l1->p:=by intro ja jb;simp only[go_sem,Nat.reduceBEq,Nat.reduceLeDiff,Nat.reduceLT,decide_true,Nat.reduceAdd,Nat.reduceSub,Nat.reduceMul,Int.reduceLE,Int.reduceLT,Int.reduceToNat,Int.reduceNeg,reduceCtorEq,dm];all_goals exact g_ ja jb):p:=h a0 a1
theorem ia:FnOkO Tryz.prog 75 (dp):=by
 have hG:ConsOk Tryz.prog (mkG [(65,fun l=>dm (cX [.sl .deed,.o] l)),(76,fun l=>gJ (cX [.st .deed,.o,.o,.o] l))] []):=av (cgc (h_.norm [.sl .deed,.o]) (cgc (jW.norm [.st .deed,.o,.o,.o]) cg0)) cg0;refine fO mixed al hG (fn:=Tryz.f75) (c:=ae Tryz.f75) kr kr kr kr fun l o con h=>?_;obtain⟨⟨l_,known,hour,void_⟩,rfl,rfl,rfl⟩:=cP h;clear h;try dsimp only
 refine⟨_,_,_,rfl,fun hp=>?_⟩;unfold aT at hp;refine⟨nbl rfl,(fun id st=>bif Nat.beq id 0 then some (LCV (ρ:=(Int×List Deed)) (σ:=(List Deed×Int×Int)) 5 [] [0,1,2,3,4] (fun k_0 s_0=>⟨[(0,.os 0),(1,.fn 76 [] [.ptr 1 0,.ptr 2 0,.ptr 3 0]),(5,.v (.int .i64 s_0.2.1)),(6,.v (.int .i64 s_0.2.2))],[.row .deed s_0.1,.cells [.v (.int .i64 known)],.cells [.v (.int .i64 hour)],.cells [.os 4],.mp .int .bool void_ none]⟩) (bf l_ known hour void_) (bt l_ known hour void_) (l_.length+1) (l_,(aG l_ known hour void_),(i64.wrap ((aG l_ known hour void_)+1))) (fun _=>.normal) (fun x_0_0=>⟨[(0,.os 0),(5,.v (.int .i64 x_0_0.1))],[.row .deed x_0_0.2,.cells [.v (.int .i64 known)],.cells [.v (.int .i64 hour)],.cells [.os 4],.mp .int .bool void_ none]⟩) st)else none),?_,?_⟩
 ·unfold ae Tryz.f75;simp only[ak,true_and,and_true,and_assoc]
  ·refine ez mixed al hG kr (fun _=>rfl) fun k_0 s_0 hq0=>⟨L0,ah _,?_⟩
   ·unfold bt at hq0;exact cH (jl [0,1,2,3,4])
 ·unfold ae Tryz.f75;try unfold aP
  exact zq65 (jl [0,1,2,3,4,0]) (jl [0,1,2,3,4,5])
@[go_sem] def aQ (a:Int)(l_:List Deed)(k_1:Nat)(s_1:List Deed×Int):(List Deed)⊕(List Deed×Int):=letI q0:=i64.wrap (s_1.2 - 1);letI q1:=s_1.1.getD (Int.toNat s_1.2) default;letI q2:=s_1.1.getD (Int.toNat q0) default;(bif((decide (s_1.2 > a))&&(decide ((cw q1 q2) <0)))then .inr (((s_1.1.set (Int.toNat s_1.2) q2).set (Int.toNat q0) q1),q0)else .inl s_1.1)
def aY (a:Int)(l_:List Deed)(k_1:Nat)(s_1:List Deed×Int):Prop:=letI q0:=i64.wrap (s_1.2 - 1);letI q2:=decide (s_1.2 > a);letI q3:=(s_1.1.length:Int);letI q1:=0<=s_1.2/\s_1.2<q3;letI q4:=s_1.1.getD (Int.toNat q0) default;((q2=true->q1)/\((q2=true->(0<=q0/\q0<q3))/\((q2&&(decide ((cw (s_1.1.getD (Int.toNat s_1.2) default) q4) <0)))=true->((0<=q0/\q0<q3)/\(q1/\(q1/\(0<=q0/\q0< ((s_1.1.set (Int.toNat s_1.2) q4).length:Int))))))))
@[go_sem] def aI (a:Int)(b:Int)(l_:List Deed)(k_0:Nat)(s_0:List Deed×Int):(List Deed)⊕(List Deed×Int):=(bif(decide (s_0.2<b))then(match aj (aQ a l_) (l_.length+1) 0 (s_0.1,s_0.2)with| .inl x_1_0=>.inr (x_1_0,(i64.wrap (s_0.2+1))) | .inr s_1=>.inr default)else .inl s_0.1)
def aM (a:Int)(b:Int)(l_:List Deed)(k_0:Nat)(s_0:List Deed×Int):Prop:=letI q0:=aQ a l_;((decide (s_0.2<b))=true->(okI q0 (aY a l_) (l_.length+1) 0 (s_0.1,s_0.2)/\(∀ z_,aj q0 (l_.length+1) 0 (s_0.1,s_0.2)≠ .inr z_)))
def aq (a:Int)(b:Int)(l_:List Deed):List Deed:=(match aj (aI a b l_) (l_.length+1) 0 (l_,(i64.wrap (a+1)))with| .inl x_0_0=>x_0_0| .inr s_0=>default)
def aJ (a:Int)(b:Int)(l_:List Deed):Prop:=letI q0:=aI a b l_;letI q1:=(l_,(i64.wrap (a+1)));(okI q0 (aM a b l_) (l_.length+1) 0 q1/\(∀ z_,aj q0 (l_.length+1) 0 q1≠ .inr z_))
noncomputable def c6:List SV->List Ob->Option HCon:=fQ (fun x_:Int×Int×(List Deed) =>[.os 0,.v (.int .i64 x_.1),.v (.int .i64 x_.2.1),.fn 78 [] []]) (fun x_=>[.row .deed x_.2.2]) (fun x_=>dW (aJ x_.1 x_.2.1 x_.2.2) (.tup []) [.row .deed (aq x_.1 x_.2.1 x_.2.2)])
@[go_sem] theorem o8 (a:Int)(b:Int)(l_:List Deed):c6 ([.os 0,.v (.int .i64 a),.v (.int .i64 b),.fn 78 [] []]) ([.row .deed l_])=some (dW (aJ a b l_) (.tup []) [.row .deed (aq a b l_)]):=dZ (A:=fun x_:Int×Int×(List Deed) =>[.os 0,.v (.int .i64 x_.1),.v (.int .i64 x_.2.1),.fn 78 [] []]) (H:=fun x_=>[.row .deed x_.2.2]) (K:=fun x_=>dW (aJ x_.1 x_.2.1 x_.2.2) (.tup []) [.row .deed (aq x_.1 x_.2.1 x_.2.2)]) (x:=(a,b,l_))
theorem gP:FnOkO Tryz.prog 134 (c6):=by
 have hG:ConsOk Tryz.prog (mkG [(78,fun l=>gK (cX [.st .deed,.st .deed] l))] []):=av (cgc (jX.norm [.st .deed,.st .deed]) cg0) cg0;refine fO mixed al hG (fn:=Tryz.f134) (c:=ae Tryz.f134) kr kr kr kr fun l o con h=>?_;obtain⟨⟨a,b,l_⟩,rfl,rfl,rfl⟩:=cP h;clear h;try dsimp only
 refine⟨_,_,_,rfl,fun hp=>?_⟩;unfold aJ at hp;refine⟨nbl rfl,(fun id st=>bif Nat.beq id 0 then some (LCV (ρ:=(List Deed)) (σ:=(List Deed×Int)) 1 [] [0] (fun k_0 s_0=>⟨[(0,.os 0),(1,.v (.int .i64 a)),(2,.v (.int .i64 b)),(3,.fn 78 [] []),(8,.v (.int .i64 s_0.2))],[.row .deed s_0.1]⟩) (aI a b l_) (aM a b l_) (l_.length+1) (l_,(i64.wrap (a+1))) (fun _=>.normal) (fun x_0_0=>⟨[],[.row .deed x_0_0]⟩) st)else none),?_,?_⟩
 ·unfold ae Tryz.f134;simp only[ak,true_and,and_true,and_assoc]
  ·refine ez mixed al hG kr (fun _=>rfl) fun k_0 s_0 hq0=>⟨(fun id st=>bif Nat.beq id 2 then some (LCV (ρ:=(List Deed)) (σ:=(List Deed×Int)) 1 [] [0] (fun k_1 s_1=>⟨[(0,.os 0),(1,.v (.int .i64 a)),(2,.v (.int .i64 b)),(3,.fn 78 [] []),(8,.v (.int .i64 s_0.2)),(9,.v (.int .i64 s_1.2))],[.row .deed s_1.1]⟩) (aQ a l_) (aY a l_) (l_.length+1) (s_0.1,s_0.2) (fun _=>.normal) (fun x_1_0=>⟨[(0,.os 0),(1,.v (.int .i64 a)),(2,.v (.int .i64 b)),(3,.fn 78 [] []),(8,.v (.int .i64 s_0.2))],[.row .deed x_1_0]⟩) st)else none),?_,?_⟩
   ·simp only[ak,true_and,and_true]
    ·refine ez mixed al hG kr (fun _=>rfl) fun k_1 s_1 hq1=>⟨L0,ah _,?_⟩
     ·unfold aY at hq1;exact cH (jl [0])
   ·unfold aM at hq0;exact cH (jl [0])
 ·unfold ae Tryz.f134;try unfold aq
  exact cH (jl [0])
@[go_sem] def bq (a:Int)(b:Int)(n:Int)(k_0:Nat)(s_0:List Deed):Empty⊕(List Deed):=letI q0:=Int.toNat (i64.wrap (a+(k_0:Int)));letI q1:=Int.toNat (i64.wrap (b+(k_0:Int)));.inr ((s_0.set q0 (s_0.getD q1 default)).set q1 (s_0.getD q0 default))
def bI (a:Int)(b:Int)(n:Int)(k_0:Nat)(s_0:List Deed):Prop:=letI q0:=i64.wrap (b+(k_0:Int));letI q1:=i64.wrap (a+(k_0:Int));letI q2:=(s_0.length:Int);((0<=q0/\q0<q2)/\((0<=q1/\q1<q2)/\((0<=q1/\q1<q2)/\(0<=q0/\q0< ((s_0.set (Int.toNat q1) (s_0.getD (Int.toNat q0) default)).length:Int)))))
def aO (a:Int)(b:Int)(n:Int)(l_:List Deed):List Deed:=(match aj (bq a b n) (Int.toNat n) 0 l_ with| .inl x=>x.elim| .inr s_0=>s_0)
def aL (a:Int)(b:Int)(n:Int)(l_:List Deed):Prop:=((n<9223372036854775808)/\okI (bq a b n) (bI a b n) (Int.toNat n) 0 l_)
noncomputable def dD:List SV->List Ob->Option HCon:=fQ (fun x_:Int×Int×Int×(List Deed) =>[.os 0,.v (.int .i64 x_.1),.v (.int .i64 x_.2.1),.v (.int .i64 x_.2.2.1),.fn 78 [] []]) (fun x_=>[.row .deed x_.2.2.2]) (fun x_=>dW (aL x_.1 x_.2.1 x_.2.2.1 x_.2.2.2) (.tup []) [.row .deed (aO x_.1 x_.2.1 x_.2.2.1 x_.2.2.2)])
@[go_sem] theorem qk (a:Int)(b:Int)(n:Int)(l_:List Deed):dD ([.os 0,.v (.int .i64 a),.v (.int .i64 b),.v (.int .i64 n),.fn 78 [] []]) ([.row .deed l_])=some (dW (aL a b n l_) (.tup []) [.row .deed (aO a b n l_)]):=dZ (A:=fun x_:Int×Int×Int×(List Deed) =>[.os 0,.v (.int .i64 x_.1),.v (.int .i64 x_.2.1),.v (.int .i64 x_.2.2.1),.fn 78 [] []]) (H:=fun x_=>[.row .deed x_.2.2.2]) (K:=fun x_=>dW (aL x_.1 x_.2.1 x_.2.2.1 x_.2.2.2) (.tup []) [.row .deed (aO x_.1 x_.2.1 x_.2.2.1 x_.2.2.2)]) (x:=(a,b,n,l_))
theorem iY:FnOkO Tryz.prog 153 (dD):=by
 have hG:ConsOk Tryz.prog (mkG [] []):=av cg0 cg0;refine fO mixed al hG (fn:=Tryz.f153) (c:=ae Tryz.f153) kr kr kr kr fun l o con h=>?_;obtain⟨⟨a,b,n,l_⟩,rfl,rfl,rfl⟩:=cP h;clear h;try dsimp only
 refine⟨_,_,_,rfl,fun hp=>?_⟩;unfold aL at hp;refine⟨nbl rfl,(fun id st=>bif Nat.beq id 0 then some (LCR (ρ:=Empty) (σ:=(List Deed)) 1 [] [0] (fun k_0 s_0=>⟨[(0,.os 0),(1,.v (.int .i64 a)),(2,.v (.int .i64 b)),(3,.v (.int .i64 n)),(10,.v (.int .i64 (k_0:Int)))],[.row .deed s_0]⟩) (bq a b n) (bI a b n) (Int.toNat n) l_ (n<9223372036854775808) ((·.elim)) ((·.elim)) st)else none),?_,?_⟩
 ·unfold ae Tryz.f153;simp only[ak,true_and,and_true,and_assoc]
  ·refine d9 mixed al hG kr (fun _=>rfl) n rfl id (fun hb0 k_0 s_0 hlt0 hq0 hw hc=>⟨L0,ah _,?_⟩) (fun hb0 s_0 hc=>?_)
   ·unfold bI at hq0;try simp only[hw,Int.toNat_natCast]at hq0
    exact bY (jl [0])
   ·exact bZ (jl [0])
 ·unfold ae Tryz.f153;try unfold aO
  exact cH (jl [0])
@[go_sem] def bJ (a:Int)(m:Int)(b:Int)(k_0:Nat)(s_0:List Deed×Int×Int):(Int×List Deed)⊕(List Deed×Int×Int):=letI q0:=i64.wrap (m - s_0.2.1);(bif(s_0.2.1 !=s_0.2.2)then(bif(decide (s_0.2.1 > s_0.2.2))then .inr ((aO q0 m s_0.2.2 s_0.1),(i64.wrap (s_0.2.1 - s_0.2.2)),s_0.2.2)else .inr ((aO q0 (i64.wrap ((i64.wrap (m+s_0.2.2)) - s_0.2.1)) s_0.2.1 s_0.1),s_0.2.1,(i64.wrap (s_0.2.2 - s_0.2.1))))else .inl (s_0.2.1,s_0.1))
def b7 (a:Int)(m:Int)(b:Int)(k_0:Nat)(s_0:List Deed×Int×Int):Prop:=letI q0:=i64.wrap (m - s_0.2.1);letI q1:=decide (s_0.2.1 > s_0.2.2);((s_0.2.1 !=s_0.2.2)=true->((q1=true->(aL q0 m s_0.2.2 s_0.1))/\(q1=false->(aL q0 (i64.wrap ((i64.wrap (m+s_0.2.2)) - s_0.2.1)) s_0.2.1 s_0.1))))
def am (a:Int)(m:Int)(b:Int)(l_:List Deed):List Deed:=(match aj (bJ a m b) (Int.toNat (b - a)+1) 0 (l_,(i64.wrap (m - a)),(i64.wrap (b - m)))with| .inl x_0_0=>(aO (i64.wrap (m - x_0_0.1)) m x_0_0.1 x_0_0.2) | .inr s_0=>default)
def a_ (a:Int)(m:Int)(b:Int)(l_:List Deed):Prop:=letI q0:=(l_,(i64.wrap (m - a)),(i64.wrap (b - m)));letI q1:=bJ a m b;letI q2:=Int.toNat (b - a)+1;(okI q1 (b7 a m b) q2 0 q0/\(∀ z_,aj q1 q2 0 q0≠ .inr z_)/\(∀ x_0_0,aj q1 q2 0 q0=.inl x_0_0->(aL (i64.wrap (m - x_0_0.1)) m x_0_0.1 x_0_0.2)))
noncomputable def dU:List SV->List Ob->Option HCon:=fQ (fun x_:Int×Int×Int×(List Deed) =>[.os 0,.v (.int .i64 x_.1),.v (.int .i64 x_.2.1),.v (.int .i64 x_.2.2.1),.fn 78 [] []]) (fun x_=>[.row .deed x_.2.2.2]) (fun x_=>dW (a_ x_.1 x_.2.1 x_.2.2.1 x_.2.2.2) (.tup []) [.row .deed (am x_.1 x_.2.1 x_.2.2.1 x_.2.2.2)])
@[go_sem] theorem rI (a:Int)(m:Int)(b:Int)(l_:List Deed):dU ([.os 0,.v (.int .i64 a),.v (.int .i64 m),.v (.int .i64 b),.fn 78 [] []]) ([.row .deed l_])=some (dW (a_ a m b l_) (.tup []) [.row .deed (am a m b l_)]):=dZ (A:=fun x_:Int×Int×Int×(List Deed) =>[.os 0,.v (.int .i64 x_.1),.v (.int .i64 x_.2.1),.v (.int .i64 x_.2.2.1),.fn 78 [] []]) (H:=fun x_=>[.row .deed x_.2.2.2]) (K:=fun x_=>dW (a_ x_.1 x_.2.1 x_.2.2.1 x_.2.2.2) (.tup []) [.row .deed (am x_.1 x_.2.1 x_.2.2.1 x_.2.2.2)]) (x:=(a,m,b,l_))
theorem jY:FnOkO Tryz.prog 148 (dU):=by
 have hG:ConsOk Tryz.prog (mkG [] [(153,dD)]):=av cg0 (cgc iY cg0);refine fO mixed al hG (fn:=Tryz.f148) (c:=ae Tryz.f148) kr kr kr kr fun l o con h=>?_;obtain⟨⟨a,m,b,l_⟩,rfl,rfl,rfl⟩:=cP h;clear h;try dsimp only
 refine⟨_,_,_,rfl,fun hp=>?_⟩;unfold a_ at hp;refine⟨nbl rfl,(fun id st=>bif Nat.beq id 0 then some (LCV (ρ:=(Int×List Deed)) (σ:=(List Deed×Int×Int)) 1 [] [0] (fun k_0 s_0=>⟨[(0,.os 0),(2,.v (.int .i64 m)),(4,.fn 78 [] []),(10,.v (.int .i64 s_0.2.1)),(11,.v (.int .i64 s_0.2.2))],[.row .deed s_0.1]⟩) (bJ a m b) (b7 a m b) (Int.toNat (b - a)+1) (l_,(i64.wrap (m - a)),(i64.wrap (b - m))) (fun _=>.normal) (fun x_0_0=>⟨[(0,.os 0),(2,.v (.int .i64 m)),(4,.fn 78 [] []),(10,.v (.int .i64 x_0_0.1))],[.row .deed x_0_0.2]⟩) st)else none),?_,?_⟩
 ·unfold ae Tryz.f148;simp only[ak,true_and,and_true,and_assoc]
  ·refine ez mixed al hG kr (fun _=>rfl) fun k_0 s_0 hq0=>⟨L0,ah _,?_⟩
   ·unfold b7 at hq0;exact cH (jl [0])
 ·unfold ae Tryz.f148;try unfold am
  exact cH (jl [0])
end Go.Sx
end
