/- Part of the proof that the law JudgementServed returns true and leaves its arguments as they were, for all arguments of bulk at most 1048576 (the Upto form). -/
import Derived.Test.YtnanafpgfihjfaaGreatJ707
import Derived.Test.YtnanafpgfihjfaaGreatJ701
import Derived.Test.YtnanafpgfihjfaaGreatJ706
import Derived.Test.YtnanafpgfihjfaaGreatJ709
import Derived.Test.YtnanafpgfihjfaaGreatJ708
set_option linter.all false
set_option maxHeartbeats 4000000
set_option maxRecDepth 100000
section
namespace Go.Sx
open Go.RowKit
open IntKind (i64)
abbrev RF:= { r:Nat->Res // ∀ k,(r k).n=k}
def Hb (items:List (List SV))(r:RF):List SV->Res->Option YCon:=itY items r.1
@[go_sem] theorem ag4 {items:List (List SV)}{r:RF}{k:Nat}{args:List SV}:Hb items r args (r.1 (k+1))=some (Lb (items[k]? =some args) r.1 (k+2)):=Jw r.2 k args
section
variable {ρ σ:Type}
def lcy (pre:Prop)(run:ρ⊕σ)(exE:ρ->Ex)(outE:ρ->St)(outN:σ->St)(stp:St):LCon where
 α:=Option (ρ⊕σ)
 pre:=pre
 post:=fun|none=>True|some r=>r=run
 ex:=fun|none=>.ret|some (.inl x) =>exE x|some (.inr _) =>.normal
 out:=fun|none=>stp|some (.inl x) =>outE x|some (.inr s) =>outN s
def LCY (m:Nat)(ns:List NLoc)(js:List Nat)(D:Nat->σ->St)(step:Nat->σ->ρ⊕σ)(p:Nat->σ->Prop)(n:Nat)(s0:σ)(B:Prop)(exE:ρ->Ex)(outE:ρ->St)(stp:St)(st:St):LCon:=
 lcy (uA m ns js st (D 0 s0)/\B/\okI step p n 0 s0) (aq step n 0 s0) exE outE (D n) stp
def Xx (m:Nat)(ns:List NLoc)(js:List Nat)(D:Nat->σ->St)(step:Nat->σ->ρ⊕σ)(p:Nat->σ->Prop)(n:Nat)(s0:σ)(exE:ρ->Ex)(outE:ρ->St)(stp:St)(st:St):LCon:=
 lcy (uA m ns js st (D 0 s0)/\okI step p n 0 s0/\∀ s,aq step n 0 s0≠ .inr s) (aq step n 0 s0) exE outE (D n) stp
variable {m:Nat}{ns:List NLoc}{js:List Nat}{step:Nat->σ->ρ⊕σ}{p:Nat->σ->Prop}{n:Nat}{s0:σ}{B:Prop}{exE:ρ->Ex}{outE:ρ->St}{stp st:St}{Q:Ex->St->Prop}{D:Nat->σ->St}
theorem Ib {pre:Prop}{run:ρ⊕σ}{outN:σ->St}:tI Q (some (lcy pre run exE outE outN stp))=(pre/\(∀ x,run=.inl x->Q (exE x) (outE x))/\(∀ s,run=.inr s->Q .normal (outN s))/\Q .ret stp):=by
 apply propext;constructor
 rintro⟨h1,h2⟩;exact⟨h1,fun x hx=>h2 (some (.inl x)) hx.symm,fun s hs=>h2 (some (.inr s)) hs.symm,h2 none trivial⟩;rintro⟨h1,h2,h3,h4⟩;refine⟨h1,fun r hr=>?_⟩;match r,hr with
 |none,_=>exact h4|some (.inl x),hr=>exact h2 x hr.symm|some (.inr s),hr=>exact h3 s hr.symm
@[go_sem] theorem acU:tI Q (some (LCY m ns js D step p n s0 B exE outE stp st))=((uA m ns js st (D 0 s0)/\B/\okI step p n 0 s0)/\(∀ x,aq step n 0 s0=.inl x->Q (exE x) (outE x))/\(∀ s,aq step n 0 s0=.inr s->Q .normal (D n s))/\Q .ret stp):=Ib
@[go_sem] theorem aaH:tI Q (some (Xx m ns js D step p n s0 exE outE stp st))=((uA m ns js st (D 0 s0)/\okI step p n 0 s0/\∀ s,aq step n 0 s0≠ .inr s)/\(∀ x,aq step n 0 s0=.inl x->Q (exE x) (outE x))/\Q .ret stp):=by
 refine Ib.trans ?_;grind
def cY (step:Nat->σ->ρ⊕σ)(exE:ρ->Ex)(outE:ρ->St)(D:Nat->σ->St)(stp:St)(m id k:Nat)(s:σ):Ex->St->Prop
 | .normal,st=>wW D m k st (step k s)| .exit j,st=>pt exE outE m (bif Nat.beq j id then .normal else .exit j) st (step k s)| .ret,st=>pt exE outE m .ret st (step k s)\/ka stp m st| .pan x,st=>pt exE outE m (.pan x) st (step k s)
variable {id k j:Nat}{s:σ}{x:Value}{e e':Ex}
@[go_sem] theorem acV:cY step exE outE D stp m id k s .normal st=wW D m k st (step k s):=(rfl)
@[go_sem] theorem ag5:cY step exE outE D stp m id k s (.exit j) st=pt exE outE m (bif Nat.beq j id then .normal else .exit j) st (step k s):=(rfl)
@[go_sem] theorem aie:cY step exE outE D stp m id k s .ret st=(pt exE outE m .ret st (step k s)\/ka stp m st):=(rfl)
@[go_sem] theorem aif:cY step exE outE D stp m id k s (.pan x) st=pt exE outE m (.pan x) st (step k s):=(rfl)
@[congr] theorem aeW {st':St}(h:st=st')(he:e=e'):cY step exE outE D stp m id k s e st=cY step exE outE D stp m id k s e' st':=by rw[h,he]
end
section
variable {P:Program}{ρ σ:Type}{ts:Tis}{G:Cons}{ro:Option Nat}{N:Nat}{id:Nat}{c:Code}{C:St->Option LCon}{m:Nat}{ns:List NLoc}{js:List Nat}{step:Nat->σ->ρ⊕σ}{p:Nat->σ->Prop}{n:Nat}{s0:σ}{exE:ρ->Ex}{outE:ρ->St}{D:Nat->σ->St}{stp:St}
theorem T5 {n0:Nat}(hn0:n0=m){s:σ}{k:Nat}(hlt:k<n){I:Nat×σ->Prop}{μ:Nat×σ->Nat}{outN:σ->St}{pre:Prop}{run:ρ⊕σ}
  (hI:∀ s',step k s=.inr s'->I (k+1,s')/\μ (k+1,s') <μ (k,s)) (hx:∀ x,step k s=.inl x->run=.inl x):
  ∀ e st',cY step exE outE D stp m id k s e st'->xB (fun x:Nat×σ=>D x.1 x.2) I μ n0 (k,s) id (fun e st'=>∃ r js,(lcy pre run exE outE outN stp).post r/\(lcy pre run exE outE outN stp).ex r=e/\n0<=((lcy pre run exE outE outN stp).out r).h.length/\Sub js n0 st' ((lcy pre run exE outE outN stp).out r)) e st':=by
 subst hn0;have hfin:∀ e st',pt exE outE n0 e st' (step k s)->∃ r js,(lcy pre run exE outE outN stp).post r/\(lcy pre run exE outE outN stp).ex r=e/\n0<=((lcy pre run exE outE outN stp).out r).h.length/\Sub js n0 st' ((lcy pre run exE outE outN stp).out r):=by
  intro e st' q;cases hs:step k s with
  |inr s'=>rw[hs]at q;exact q.elim
  |inl x=>
   rw[hs]at q;obtain⟨q2,js,q3,q4⟩:=q;exact⟨some (.inl x),js,(hx x hs).symm,q2,q3,q4⟩
 intro e st' hq;cases e with
 |normal=>
  change wW D n0 k st' (step k s)at hq;cases hs:step k s with
  |inl x=>rw[hs]at hq;exact hq.elim
  |inr s'=>
   rw[hs]at hq;obtain⟨js,q3,q4⟩:=hq;obtain⟨i1,i2⟩:=hI s' hs;exact⟨(k+1,s'),js,i1,i2,q3,q4⟩
 |exit j=>
  change pt exE outE n0 (bif Nat.beq j id then .normal else .exit j) st' (step k s)at hq;show bif Nat.beq j id then _ else _;grind
 |ret=>
  rcases hq with hq|hq;exact hfin _ _ hq;obtain⟨js,q3,q4⟩:=hq;exact⟨none,js,trivial,rfl,q3,q4⟩
 |pan x=>exact hfin _ _ hq
theorem B6 {B:Prop}(hm:P.follows .mixedOrders=true)(hts:ts.ok P)(hG:ConsOk P G)(hc:cD N c=true)(hC:∀ st,C st=some (LCY m ns js D step p n s0 B exE outE stp st))(M:Int)(hn:n=M.toNat)(hB:B->M<9223372036854775808)
  (h:B->∀ k s,k<n->p k s->i64.wrap ((k:Int)+1)=((k+1:Nat):Int)->decide ((k:Int) <M)=true->∃ L,ap P ro N L c/\exec ts G L c (D k s) (cY step exE outE D stp m id k s))
  (h2:B->∀ s,decide ((n:Int) <M)=false->exec ts G L0 c (D n s) (cZ (D n s) m id)):mP P ro N id (.loop c) C:=by
 refine wV hm hts hG hc fun st lc hC' hp=>?_;rw[hC st]at hC';cases hC';obtain⟨⟨hlen,hok,hle,hsub⟩,hB',h1⟩:=hp;refine⟨Nat×σ,fun x=>D x.1 x.2,fun x=>x.1<=n/\okI step p (n - x.1) x.1 x.2/\aq step (n - x.1) x.1 x.2=aq step n 0 s0,fun x=>n - x.1,(0,s0),mkN ns st,js,⟨aiX _,by omega,by simp⟩,yN ns st st (.refl _) hok,by grind,by grind,?_⟩;rintro⟨k,s⟩ ⟨hk,hJ,hrun⟩;simp only at hk hJ hrun;rcases ajk k n with hlt|hge;rw[show n - k=(n - k - 1)+1 by omega]at hrun hJ;obtain⟨L,hl,hex⟩:=h hB' k s hlt hJ.1 (Oz (hn▸hlt) (hB hB')) (decide_eq_true (by omega));have hI:∀ s',step k s=.inr s'->okI step p (n - (k+1)) (k+1) s'/\aq step (n - (k+1)) (k+1) s'=aq step n 0 s0:=fun s' hs=>by
  have:=hJ.2 s' hs;grind [aq]
 have hx:∀ x,step k s=.inl x->aq step n 0 s0=.inl x:=fun x hs=>by
  grind [aq]
 exact⟨L,_,hl,fun e st' q=>T5 hlen hlt (fun s' hs=>⟨⟨hlt,hI s' hs⟩,by omega⟩) hx e st' q,hex⟩;have hkn:k=n:=by omega
 subst hkn;have hex:=h2 hB' s (by grind);refine⟨L0,_,ag c,fun e st' hq=>?_,hex⟩;simp only[aj2,aq]at hrun;cases e with
 |exit j=>
  change bif Nat.beq j id then ka (D k s) m st' else False at hq;show bif Nat.beq j id then _ else _;cases hb:Nat.beq j id with
  |true=>
   rw[hb]at hq;obtain⟨js,q3,q4⟩:=hq;exact⟨some (.inr s),js,hrun,rfl,by rw[hlen];exact q3,by rw[hlen];exact q4⟩
  |false=>grind
 |_=>exact hq.elim
theorem Ic (hm:P.follows .mixedOrders=true)(hts:ts.ok P)(hG:ConsOk P G)(hc:cD N c=true)(hC:∀ st,C st=some (Xx m ns js D step p n s0 exE outE stp st))
  (h:∀ k s,p k s->∃ L,ap P ro N L c/\exec ts G L c (D k s) (cY step exE outE D stp m id k s)):mP P ro N id (.loop c) C:=by
 refine wV hm hts hG hc fun st lc hC' hp=>?_;rw[hC st]at hC';cases hC';obtain⟨⟨hlen,hok,hle,hsub⟩,h1,hno⟩:=hp;refine⟨Nat×σ,fun x=>D x.1 x.2,fun x=>x.1<=n/\okI step p (n - x.1) x.1 x.2/\aq step (n - x.1) x.1 x.2=aq step n 0 s0,fun x=>n - x.1,(0,s0),mkN ns st,js,⟨aiX _,by omega,by simp⟩,yN ns st st (.refl _) hok,by grind,by grind,?_⟩;rintro⟨k,s⟩ ⟨hk,hJ,hrun⟩;simp only at hk hJ hrun;rcases ajk k n with hlt|hge;rw[show n - k=(n - k - 1)+1 by omega]at hrun hJ;obtain⟨L,hl,hex⟩:=h k s hJ.1;have hI:∀ s',step k s=.inr s'->okI step p (n - (k+1)) (k+1) s'/\aq step (n - (k+1)) (k+1) s'=aq step n 0 s0:=fun s' hs=>by
  have:=hJ.2 s' hs;grind [aq]
 have hx:∀ x,step k s=.inl x->aq step n 0 s0=.inl x:=fun x hs=>by
  grind [aq]
 exact⟨L,_,hl,fun e st' q=>T5 hlen hlt (fun s' hs=>⟨⟨hlt,hI s' hs⟩,by omega⟩) hx e st' q,hex⟩;have hkn:k=n:=by omega
 subst hkn;simp only[aj2,aq]at hrun;grind
end
def sT (n:Nat):List Ob:=List.replicate n .dead
def Lw (items:List (List SV))(r:RF)(n:Nat):Ex->St->Prop
 | .normal,st=>ka ⟨[],.ab (r.1 0)::sT n⟩ (n+1) ⟨[],st.h⟩\/ka ⟨[],.ab (r.1 (items.length+1))::sT n⟩ (n+1) ⟨[],st.h⟩| .ret,st=>ka ⟨[],.ab (r.1 0)::sT n⟩ (n+1) ⟨[],st.h⟩\/ka ⟨[],.ab (r.1 (items.length+1))::sT n⟩ (n+1) ⟨[],st.h⟩|_,_=>False
section
variable {items:List (List SV)}{r:RF}{n:Nat}{st:St}{e e':Ex}
@[go_sem] theorem Xy:Lw items r n .normal st=(ka ⟨[],.ab (r.1 0)::sT n⟩ (n+1) ⟨[],st.h⟩\/ka ⟨[],.ab (r.1 (items.length+1))::sT n⟩ (n+1) ⟨[],st.h⟩):=(rfl)
@[go_sem] theorem acW:Lw items r n .ret st=(ka ⟨[],.ab (r.1 0)::sT n⟩ (n+1) ⟨[],st.h⟩\/ka ⟨[],.ab (r.1 (items.length+1))::sT n⟩ (n+1) ⟨[],st.h⟩):=(rfl)
@[congr] theorem YE {st':St}(h:st=st')(he:e=e'):Lw items r n e st=Lw items r n e' st':=by rw[h,he]
@[go_sem] theorem ag6:sT 0=[]:=(rfl)
@[go_sem] theorem ag7:sT 1=[.dead]:=(rfl)
@[go_sem] theorem ag8:sT 2=[.dead,.dead]:=(rfl)
@[go_sem] theorem ag9:sT 3=[.dead,.dead,.dead]:=(rfl)
@[go_sem] theorem ag_:sT 4=[.dead,.dead,.dead,.dead]:=(rfl)
end
theorem Lx {js:List Nat}{n0:Nat}{h h':List Ob}(q:Sub js n0 ⟨[],h⟩ ⟨[],h'⟩):Sub js n0 ⟨[(0,.tup [])],h⟩ ⟨[(0,.tup [])],h'⟩:=by
 refine⟨q.1,?_,q.2.2⟩;simp only[Qe,lk];exact⟨⟨rfl,rfl⟩,trivial⟩
open Classical in
theorem JJ {P:Program} {ts:Tis} {G:RF->Cons} (hm:P.follows .mixedOrders=true) (hts:ts.ok P) {f:FuncId} {fn:Func} {c:Code} (hf:P.funcs[f]? =some fn) (hb:fn.body=some c) (hname:(fn.name== "runtime.NumGoroutine")=false) (hc:cD fn.ntmps c=true) (hr:fn.results.toList=[])
  {items:List (List SV)} {mk:SV->List SV} {hs:List Ob} {n:Nat} (hn:hs.length=n)
  (h:∀ r:RF,YOk P (Hb items r)->ConsOk P (G r)/\(mk (.os 0)).length<=fn.ntmps/\∃ L,ap P none fn.ntmps L c/\exec ts (G r) L c ⟨nN 0 (mk (.os 0)),.ab (r.1 1)::hs⟩ (Lw items r n))
  (he:∀ (args:Array Value) (w:World),(callFunc f args).run P w=.ok (.enter f args) w):FG P f mk hs items:=by
 refine SQ (fun r0 hr0 hy=>?_) he;obtain⟨hG,h1,L,h2,h3⟩:=h ⟨r0,hr0⟩ hy;refine⟨fun l o=>if l=mk (.os 0)/\o=.ab (r0 1)::hs then some { α:=Bool,pre:=True,post:=fun _=>True,res:=fun b=>.ret (.tup []) (.ab (r0 (if b then items.length+1 else 0))::sT n)}else none,?_,_,if_pos ⟨rfl,rfl⟩,trivial,fun b _=>⟨_,_,_,rfl,by grind⟩⟩;refine FB hm hts hG hf hb hname hc fun l o con hC _=>?_;split at hC
 rotate_left
 cases hC;rename_i hlo;obtain⟨rfl,rfl⟩:=hlo;cases hC;refine⟨h1,L,_,h2,fun e st hq=>?_,h3⟩;have key:∀ st:St,(ka ⟨[],.ab (r0 0)::sT n⟩ (n+1) ⟨[],st.h⟩\/ka ⟨[],.ab (r0 (items.length+1))::sT n⟩ (n+1) ⟨[],st.h⟩)->Bt (Ob.ab (r0 1)::hs).length { α:=Bool,pre:=True,post:=fun _=>True,res:=fun b=>.ret (.tup []) (.ab (r0 (if b then items.length+1 else 0))::sT n)} (mz (k9 ts st fn.results.toList)) st.h:=fun st q=>by
  rw[hr];show ∃ r s' h' js,_;rcases q with⟨js,q1,q2⟩ | ⟨js,q1,q2⟩;exact⟨false,_,_,js,trivial,rfl,by grind,by rw[ais,hn];exact Lx q2⟩;exact⟨true,_,_,js,trivial,rfl,by grind,by rw[ais,hn];exact Lx q2⟩
 cases e with
 |normal=>exact key st hq|ret=>exact key st hq|exit j=>exact hq.elim|pan x=>exact hq.elim
section
variable {ρ σ τ:Type}
theorem C2 {step:τ->σ->ρ⊕σ}:∀ {a b:List τ} {s s':σ},dR step a s=.inr s'->dR step (a++b) s=dR step b s'
 | [],_,_,_,h=>by grind [dR]
 |x::a,b,s,s',h=>by
  simp only[aiF,dR]at h |-;cases hs:step x s with
  |inl y=>grind|inr s1=>rw[hs]at h;simp only at h |-;exact C2 h
theorem Ly {step:τ->σ->ρ⊕σ}{p:τ->σ->Prop}:∀ {a b:List τ} {s s':σ},dR step a s=.inr s'->okL step p (a++b) s->okL step p b s'
 | [],_,_,_,h,hk=>by grind [dR]
 |x::a,b,s,s',h,hk=>by
  simp only[aiF,dR]at h hk;cases hs:step x s with
  |inl y=>grind|inr s1=>rw[hs]at h;exact Ly h (hk.2 s1 hs)
def LCP (m:Nat)(ns:List NLoc)(js:List Nat)(D:List Nat->Option Nat->σ->St)(step:τ->σ->ρ⊕σ)(p:τ->σ->Prop)(l:List τ)(s0:σ)(exE:ρ->Ex)(outE:ρ->St)(outN:σ->St)(st:St):LCon where
 α:=ρ⊕σ
 pre:=uA m ns js st (D (List.range l.length) none s0)/\∀ L,L.Perm l->okL step p L s0
 post:=fun r=>∃ L,L.Perm l/\dR step L s0=r
 ex:=fun| .inl x=>exE x| .inr _=>.normal
 out:=fun| .inl x=>outE x| .inr s=>outN s
variable {m:Nat}{ns:List NLoc}{js:List Nat}{step:τ->σ->ρ⊕σ}{p:τ->σ->Prop}{l:List τ}{s0:σ}{exE:ρ->Ex}{outE:ρ->St}{outN:σ->St}{st:St}{Q:Ex->St->Prop}{D:List Nat->Option Nat->σ->St}
@[go_sem] theorem acX:tI Q (some (LCP m ns js D step p l s0 exE outE outN st))=((uA m ns js st (D (List.range l.length) none s0)/\∀ L,L.Perm l->okL step p L s0)/\∀ L,L.Perm l->(∀ x,dR step L s0=.inl x->Q (exE x) (outE x))/\∀ s,dR step L s0=.inr s->Q .normal (outN s)):=by
 apply propext;constructor
 rintro⟨h1,h2⟩;exact⟨h1,fun L hL=>⟨fun x hx=>h2 (.inl x) ⟨L,hL,hx⟩,fun s hs=>h2 (.inr s) ⟨L,hL,hs⟩⟩⟩;rintro⟨h1,h2⟩;refine⟨h1,fun r ⟨L,hL,hr⟩ =>?_⟩;cases r with
 |inl x=>exact(h2 L hL).1 x hr|inr s=>exact(h2 L hL).2 s hr
variable {P:Program}{ts:Tis}{G:Cons}{ro:Option Nat}{N id:Nat}{c:Code}{C:St->Option LCon}
theorem T6 (d:τ)(it:Nat)(hm:P.follows .mixedOrders=true)(hts:ts.ok P)(hG:ConsOk P G)(hc:cD N c=true)(hC:∀ st,C st=some (LCP m ns js D step p l s0 exE outE outN st))
  (h:∀ left cur s,(∀ j,j∈left->j<l.length/\p (l.getD j d) s)->∃ L,ap P ro N L c/\exec ts G L c (D left cur s) (cM step l d exE outE outN D m id it left s)):mP P ro N id (.loop c) C:=by
 refine wV hm hts hG hc fun st lc hC' hp=>?_;rw[hC st]at hC';cases hC';obtain⟨⟨hlen,hok,hle,hsub⟩,hO⟩:=hp;subst hlen;have hfix:∀ q:List Nat,q.Perm (List.range l.length)->(q.map fun j=>l.getD j d).Perm l:=fun q hq=>by
  have:=hq.map (fun j=>l.getD j d)
  rwa[FL]at this
 refine⟨List Nat×Option Nat×σ,fun x=>D x.1 x.2.1 x.2.2,fun x=>∃ q:List Nat,(q++x.1).Perm (List.range l.length)/\dR step (q.map fun j=>l.getD j d) s0=.inr x.2.2,fun x=>x.1.length,(List.range l.length,none,s0),mkN ns st,js,⟨[],.refl _,rfl⟩,yN ns st st (.refl _) hok,hle,hsub,?_⟩;rintro⟨left,cur,s⟩ ⟨q,hq,hrun⟩;simp only at hq hrun;have hmem:∀ j,j∈left->(q++j::left.erase j).Perm (List.range l.length):=fun j hj=>((akR hj).symm.append_left q).trans hq;have hp0:∀ j,j∈left->j<l.length/\p (l.getD j d) s:=fun j hj=>by
  refine⟨akr.1 (hq.mem_iff.1 (ajd _ hj)),?_⟩;have:=hO _ (hfix _ (hmem j hj));rw[List.map_append]at this;exact(Ly hrun this).1
 obtain⟨L,hl,hex⟩:=h left cur s hp0;refine⟨L,_,hl,?_,hex⟩;have hfin:∀ e st' o,exC step l d exE outE st.h.length left s e st' o->∃ r js,(LCP st.h.length ns js D step p l s0 exE outE outN st).post r/\(LCP st.h.length ns js D step p l s0 exE outE outN st).ex r=e/\st.h.length<=((LCP st.h.length ns js D step p l s0 exE outE outN st).out r).h.length/\Sub js st.h.length st' ((LCP st.h.length ns js D step p l s0 exE outE outN st).out r):=by
  intro e st' o z;cases o with
  |none=>exact z.elim
  |some j=>
   obtain⟨hj,z⟩:=z;cases hs:step (l.getD j d) s with
   |inr s'=>rw[hs]at z;exact z.elim
   |inl x=>
    rw[hs]at z;obtain⟨q2,js2,q3,q4⟩:=z;refine⟨.inl x,js2,⟨_,hfix _ (hmem j hj),?_⟩,q2,q3,q4⟩;simp_all [C2,dR]
 intro e st' hz;cases e with
 |normal=>
  change nxC step l d D st.h.length left s st' (AT (ar st'.h it))at hz;cases ho:AT (ar st'.h it)with
  |none=>rw[ho]at hz;exact hz.elim
  |some j=>
   rw[ho]at hz;obtain⟨hj,hz⟩:=hz;cases hs:step (l.getD j d) s with
   |inl x=>rw[hs]at hz;exact hz.elim
   |inr s'=>
    rw[hs]at hz;obtain⟨js2,q3,q4⟩:=hz;refine⟨(left.erase j,some j,s'),js2,⟨q++[j],?_,?_⟩,?_,q3,q4⟩;grind
    simp_all [C2,dR];grind
 |exit j=>
  have hz':(bif Nat.beq j id then(left=[]->ka (outN s) st.h.length st')/\(left≠[]->exC step l d exE outE st.h.length left s .normal st' (AT (ar st'.h it)))else exC step l d exE outE st.h.length left s (.exit j) st' (AT (ar st'.h it))):=hz;show bif Nat.beq j id then _ else _;cases hb:Nat.beq j id with
  |true=>
   rw[hb]at hz';simp only[cond_true]at hz' |-;by_cases hlt:left=[]
   obtain⟨js2,q3,q4⟩:=hz'.1 hlt;refine⟨.inr s,js2,⟨_,hfix q (by grind),hrun⟩,rfl,q3,q4⟩;exact hfin _ _ _ (hz'.2 hlt)
  |false=>
   rw[hb]at hz';exact hfin _ _ _ hz'
 |ret=>exact hfin _ _ _ hz|pan x=>exact hfin _ _ _ hz
end
theorem fkY {st2 st:St}{n0:Nat}{js:List Nat}(_:JL js)(h1:n0<=st2.h.length:=by(first|(show _<=_;decide) |(simp only[*,go_sem,Nat.reduceBEq,Nat.reduceLeDiff,Nat.reduceAdd,Nat.reduceSub,Nat.reduceMul,Int.reduceLE,Int.reduceLT,Int.reduceToNat,Int.reduceNeg,reduceCtorEq];done) |(simp only[*,go_sem,Nat.reduceBEq,Nat.reduceLeDiff,Nat.reduceAdd,Nat.reduceSub,Nat.reduceMul,Int.reduceLE,Int.reduceLT,Int.reduceToNat,Int.reduceNeg,reduceCtorEq];(repeat' (first|with_reducible refine And.intro ?_ ?_|((with_reducible show _≠_);first|assumption|omega|(simp_all [cy,fK];done) |grind) |with_reducible intro _)) <;>(first|rfl|decide|assumption|omega|(simp_all [cy,fK];done) |fail))))(h2:Sub js n0 st st2:=by(first|(show _<=_;decide) |(simp only[*,go_sem,Nat.reduceBEq,Nat.reduceLeDiff,Nat.reduceAdd,Nat.reduceSub,Nat.reduceMul,Int.reduceLE,Int.reduceLT,Int.reduceToNat,Int.reduceNeg,reduceCtorEq];done) |(simp only[*,go_sem,Nat.reduceBEq,Nat.reduceLeDiff,Nat.reduceAdd,Nat.reduceSub,Nat.reduceMul,Int.reduceLE,Int.reduceLT,Int.reduceToNat,Int.reduceNeg,reduceCtorEq];(repeat' (first|with_reducible refine And.intro ?_ ?_|((with_reducible show _≠_);first|assumption|omega|(simp_all [cy,fK];done) |grind) |with_reducible intro _)) <;>(first|rfl|decide|assumption|omega|(simp_all [cy,fK];done) |fail)))):ka st2 n0 st:=Jy js h1 h2
theorem clP {p:Prop}(h:p:=by((repeat' (first|with_reducible refine And.intro ?_ ?_|((with_reducible show _≠_);first|assumption|omega|(simp_all [cy,fK];done) |grind) |with_reducible intro _)) <;>(first|done|with_reducible exact Empty.elim ‹Empty› |with_reducible assumption|rfl|omega|assumption|(simp_all only[cy,fK];done) |(simp_all only[cy,fK];grind)))):p:=h
end Go.Sx
end
section
namespace Go.Sx
@[go_sem ↓] theorem acY (x:Reach):mkE .reach [.v (.string x.name),.v (.int .i64 x.up),.v (.int .i64 x.delay),.v (.int .i64 x.cap),.v (.int .i64 x.bank),.v (.int .i64 x.siphon),.v (.int .i64 x.evap.lo),.v (.int .i64 x.evap.hi),.v (.int .i64 x.seep.1.n),.v (.int .i64 x.seep.1.d),.v (.int .i64 x.seep.2.n),.v (.int .i64 x.seep.2.d)]=x:=(rfl)
@[go_sem ↓] theorem acZ (x:Claim):mkE .claim [.v (.int .i64 x.right),.v (.int .i64 x.farm),.v (.int .i64 x.hour),.v (.int .i64 x.litres),.v (.int .i64 x.rank)]=x:=(rfl)
@[go_sem ↓] theorem ac0 (x:Order):mkE .order [.v (.int .i64 x.hour),.v (.int .i64 x.index),.v (.int .i64 x.litres),.v (.bool x.outlet)]=x:=(rfl)
@[go_sem ↓] theorem aeX (x:Tank):mkE .tank [.v (.int .i64 x.cap),.v (.int .i64 x.start)]=x:=(rfl)
@[go_sem ↓] theorem Vw (x:Judgement):mkE .judgement [.v (.int .i64 x.no),.v (.int .i64 x.hour),.v (.int .i64 x.kind),.v (.int .i64 x.farm),.v (.int .i64 x.other),.v (.int .i64 x.since),.v (.int .i64 x.to),.v (.int .i64 x.n),.v (.int .i64 x.of_)]=x:=(rfl)
@[go_sem ↓] theorem aeY (x:Case):mkE .case [.v (.int .i64 x.no),.v (.int .i64 x.hour),.v (.int .i64 x.winner),.rs .int x.facts,.rs .int x.reason]=x:=(rfl)
@[go_sem ↓] theorem aaI (x:Clause):mkE .clause [.v (.int .i64 x.no),.v (.int .i64 x.then_),.v (.int .i64 x.rank),.v (.bool x.strict),.rs .int x.if_]=x:=(rfl)
@[go_sem ↓] theorem aaJ (x:Reason):mkE .reason [.v (.int .i64 x.literal),.v (.int .i64 x.clause),.v (.bool x.proved)]=x:=(rfl)
@[go_sem ↓] theorem aeZ (x:Farm):mkE .farm [.v (.string x.name),.v (.int .i64 x.reach),.v (.int .i64 x.area),.v (.int .i64 x.crop)]=x:=(rfl)
@[go_sem ↓] theorem ac1 (x:Right):mkE .right [.v (.string x.name),.v (.int .i64 x.kind),.v (.int .i64 x.farm),.v (.int .i64 x.reach),.v (.int .i64 x.rank),.v (.int .i64 x.litres),.v (.int .i64 x.since),.v (.int .i64 x.to),.v (.int .i64 x.every),.v (.int .i64 x.length)]=x:=(rfl)
theorem zg {p:Pk}{f:FuncId}{a b:List SV}:we [p] (.fn f a b)=Ct p (.fn f a b):=(rfl)
theorem zh {f:FuncId}{a b:List SV}:Ct .o (.fn f a b)=.fn f a b:=(rfl)
end Go.Sx
end
section
namespace Go.Sx
open Go.Proofs
open IntKind (i64 u64)
theorem Ge {l0:List Nat}(a0:JL l0){p:Prop}(h:JL l0->p:=by intro ja;(first|done|(repeat' (first|with_reducible refine And.intro ?_ ?_|((with_reducible show _≠_);first|assumption|omega|(simp_all [cy,fK];done) |grind) |with_reducible intro _)) <;>(first|done|with_reducible exact Empty.elim ‹Empty› |with_reducible assumption|rfl|omega|assumption|decide|exact fk ja|(refine Or.inr ?_;exact fkY ja) |(refine Or.inl ?_;exact fkY ja) |(refine Or.inl ⟨rfl,?_⟩;exact fkY ja) |exact czl|(simp only[*,cond_true,cond_false,aiP,aiY,go_sem,Nat.reduceBEq,Nat.reduceLeDiff,Nat.reduceLT,decide_true,Nat.reduceAdd,Nat.reduceSub,Nat.reduceMul,Int.reduceLE,Int.reduceLT,Int.reduceToNat,Int.reduceNeg,reduceCtorEq];(repeat' (first|with_reducible refine And.intro ?_ ?_|((with_reducible show _≠_);first|assumption|omega|(simp_all [cy,fK];done) |grind) |with_reducible intro _)) <;>(first|done|assumption|rfl|omega|decide|exact fk ja|(refine Or.inr ?_;exact fkY ja) |(refine Or.inl ?_;exact fkY ja) |(refine Or.inl ⟨rfl,?_⟩;exact fkY ja) |(simp_all [cy,fK];done))) |(exfalso;rename_i h1 h2;rw[h1]at h2;cases h2) |(exfalso;rename_i h1 h2;simp only[h1,aiY,aiP,akH,ak_,aj8,akZ,reduceCtorEq]at h2;done) |(exfalso;clear hy hG;simp_all;done) |(simp only[*,aiZ,forall_eq',true_implies,forall_const,reduceCtorEq,false_implies,and_true,aiK,ais,aiI,ai2,go_sem,Nat.reduceBEq,Nat.reduceLeDiff,Nat.reduceLT,decide_true,Nat.reduceAdd,Nat.reduceSub,Nat.reduceMul,Int.reduceLE,Int.reduceLT,Int.reduceToNat,Int.reduceNeg,reduceCtorEq]at hq2;first|exact hq2.1|exact hq2.2.1|exact hq2|exact hq2.2|(simp only[hq2];done)) |(simp only[*,aiZ,forall_eq',true_implies,forall_const,reduceCtorEq,false_implies,and_true,aiK,ais,aiI,ai2,go_sem,Nat.reduceBEq,Nat.reduceLeDiff,Nat.reduceLT,decide_true,Nat.reduceAdd,Nat.reduceSub,Nat.reduceMul,Int.reduceLE,Int.reduceLT,Int.reduceToNat,Int.reduceNeg,reduceCtorEq]at hq1;first|exact hq1.1|exact hq1.2.1|exact hq1|exact hq1.2|(simp only[hq1];done)) |(clear hy hG;simp_all only[cy,fK,aiZ,forall_eq',true_implies,forall_const,reduceCtorEq,false_implies,and_true,aiK,ais,aiI,ai2,go_sem,Nat.reduceBEq,Nat.reduceLeDiff,Nat.reduceLT,decide_true,Nat.reduceAdd,Nat.reduceSub,Nat.reduceMul,Int.reduceLE,Int.reduceLT,Int.reduceToNat,Int.reduceNeg,reduceCtorEq];done) |(simp_all [okI,cy,fK];done) |(simp_all [cy,fK];(first|done|exact fk2 ja)) |exact fk2 ja))):p:=h a0
theorem uO {l0:List Nat}(a0:JL l0){p:Prop}(h:JL l0->p:=by intro ja;simp only[go_sem,Nat.reduceBEq,Nat.reduceLeDiff,Nat.reduceLT,decide_true,Nat.reduceAdd,Nat.reduceSub,Nat.reduceMul,Int.reduceLE,Int.reduceLT,Int.reduceToNat,Int.reduceNeg,reduceCtorEq,hc,hw];all_goals exact Ge ja):p:=h a0
theorem uP {l0:List Nat}(a0:JL l0){p:Prop}(h:JL l0->p:=by intro ja;simp only[go_sem,Nat.reduceBEq,Nat.reduceLeDiff,Nat.reduceLT,decide_true,Nat.reduceAdd,Nat.reduceSub,Nat.reduceMul,Int.reduceLE,Int.reduceLT,Int.reduceToNat,Int.reduceNeg,reduceCtorEq,hc];all_goals exact Ge ja):p:=h a0
@[go_sem] def wq (x:Judgement):List SV:=[.agg (cellsOf .judgement x)]
@[go_sem] def tN:List SV->Option Con:=(pR .judgement fun j=>(pI fun hour=>(pE (.det True (.fn 91 [] [.ep [.rs .judgement j] 0,.ep [.v (.int .i64 hour)] 0])))))
theorem zi:FnOk Tryz.prog 46 tN:=by
 have hG:ConsOk Tryz.prog (mkG [] []):=av cg0 cg0;refine ax [.o] mixed am hG (fn:=Tryz.f46) (c:=aa Tryz.f46) kr kr kr kr (bB fun j=>(bY fun hour=>(aj (fun hp=>?_))));refine⟨nbl rfl,L0,ag _,?_⟩;unfold aa Tryz.f46;simp only[go_sem,zg,zh,Nat.reduceBEq,Nat.reduceLeDiff,Nat.reduceAdd,Nat.reduceSub,Nat.reduceMul]
@[go_sem] def eD (j:List Judgement)(hour:Int)(k_0:Nat)(s_0:List Judgement):Empty⊕(List Judgement):=letI q0:=j.getD k_0 default;(bif((((q0.of_==0)&&(decide (q0.hour<=hour)))&&(aV hour (q0.since) (q0.to)))&&(!(ij j q0 hour)))then .inr (s_0++[q0])else .inr s_0)
def f_ (j:List Judgement)(hour:Int)(items_:List (List SV))(k_0:Nat)(s_0:List Judgement):Prop:=letI q1:=j.getD k_0 default;letI q0:=(((q1.of_==0)&&(decide (q1.hour<=hour)))&&(aV hour (q1.since) (q1.to)))&&(!(ij j q1 hour));((q0=true->(items_[s_0.length]? =some (wq q1)))/\(q0=false->(q0=false)))
def aC (j:List Judgement)(hour:Int):List Judgement:=(match aq (eD j hour) j.length 0 ([]:List Judgement)with| .inl x=>x.elim| .inr s_0=>s_0)
def iv (j:List Judgement)(hour:Int)(items_:List (List SV)):Prop:=letI q0:=eD j hour;(j.length<=aI->(okI q0 (f_ j hour items_) j.length 0 ([]:List Judgement)/\(∀ s_0,aq q0 j.length 0 ([]:List Judgement)=.inr s_0->(items_.length=s_0.length))))
theorem Q3 {l0:List Nat}(a0:JL l0){p:Prop}(h:JL l0->p:=by intro ja;simp only[go_sem,Nat.reduceBEq,Nat.reduceLeDiff,Nat.reduceLT,decide_true,Nat.reduceAdd,Nat.reduceSub,Nat.reduceMul,Int.reduceLE,Int.reduceLT,Int.reduceToNat,Int.reduceNeg,reduceCtorEq];all_goals exact Ge ja):p:=h a0
theorem xR (j:List Judgement)(hour:Int)(items_:List (List SV))(hp:iv j hour items_):FG Tryz.prog 91 (fun y=>[y,.ep [.rs .judgement j] 0,.ep [.v (.int .i64 hour)] 0]) [] items_:=by
 unfold iv at hp;refine JJ mixed am (fn:=Tryz.f91) (c:=aa Tryz.f91) kr kr kr kr rfl (n:=0) rfl (G:=fun r_=>BK [(52,g6),(53,fun l=>nt (bD [.sl .judgement,.st .judgement,.o] l))] [] (Hb items_ r_)) (fun r_ hy=>?_) (fun args w=>by kernel_rfl);have hG:ConsOk Tryz.prog (BK [(52,g6),(53,fun l=>nt (bD [.sl .judgement,.st .judgement,.o] l))] [] (Hb items_ r_)):=zK (cgc je (cgc (uM.norm [.sl .judgement,.st .judgement,.o]) cg0)) cg0 hy;refine⟨hG,nbl rfl,(fun id st=>bif Nat.beq id 0 then some (LCY (ρ:=Empty) (σ:=(List Judgement)) 1 [] [0] (fun k_0 s_0=>⟨[(0,.os 0),(1,.ep [.rs .judgement j] 0),(2,.ep [.v (.int .i64 hour)] 0),(6,.rs .judgement j),(7,.v (.int .i64 (j.length:Int))),(8,.v (.int .i64 (k_0:Int)))],[.ab (r_.1 (s_0.length+1))]⟩) (eD j hour) (f_ j hour items_) j.length ([]:List Judgement) (j.length<=aI) ((·.elim)) ((·.elim)) ⟨[],[.ab (r_.1 0)]⟩ st)else none),?_,?_⟩;unfold aa Tryz.f91;simp only[ap,true_and,and_true];refine B6 mixed am hG kr (fun _=>rfl) (j.length:Int) rfl iB (fun hb0 k_0 s_0 hlt0 hq0 hw hc=>⟨L0,ag _,?_⟩) (fun hb0 s_0 hc=>?_);unfold f_ at hq0;try simp only[hw,air]at hq0
 exact uO (jl [0]);exact uP (jl [0]);unfold aa Tryz.f91;exact Q3 (jl [0])
theorem Lz {l0 l1:List Nat}(a0:JL l0)(a1:JL l1){p:Prop}(h:JL l0->JL l1->p:=by intro ja jb;simp only[go_sem,Nat.reduceBEq,Nat.reduceLeDiff,Nat.reduceLT,decide_true,Nat.reduceAdd,Nat.reduceSub,Nat.reduceMul,Int.reduceLE,Int.reduceLT,Int.reduceToNat,Int.reduceNeg,reduceCtorEq];all_goals exact nV ja jb):p:=h a0 a1
@[go_sem] def sU:List SV->Option Con:=pR .claim fun l=>pE (.det (l.length*40<=di) (.nw .claim l))
theorem yk:FnOk Tryz.prog 45 sU:=by
 have hG:ConsOk Tryz.prog (mkG [] []):=av cg0 cg0;refine F8 [(.tmp 2,.claim)] mixed am hG (fn:=Tryz.f45) (c:=aa Tryz.f45) kr kr kr kr (bB fun l=>aj fun hp=>?_);dsimp only[aw]at hp;refine⟨nbl rfl,L0,ag _,?_⟩;unfold aa Tryz.f45;simp only[go_sem,Nat.reduceBEq,Nat.reduceLeDiff,Nat.reduceAdd,Nat.reduceSub,Nat.reduceMul,Int.reduceLE,Int.reduceLT,Int.reduceToNat,Int.reduceNeg,reduceCtorEq];intro b hb;refine⟨fun h=>?_,fun _=>⟨hp,fun _=>rfl⟩⟩;have hl:=hb h;subst hl;rfl
def pa (y:Claim)(r_:List Claim):Bool:=(y.hour !=(r_.getD 0 default).hour)
def mR (y:Claim)(r_:List Claim):Prop:=(0<=0/\0< (r_.length:Int))
@[go_sem] noncomputable def rG:List SV->Option Con:=(pD .claim fun y=>(pXR .claim fun r_=>(pE (.det (mR y r_) (.v (.bool (pa y r_)))))))
theorem xS:FnOk Tryz.prog 44 rG:=by
 have hG:ConsOk Tryz.prog (mkG [] []):=av cg0 cg0;refine ax [.o] mixed am hG (fn:=Tryz.f44) (c:=aa Tryz.f44) kr kr kr kr (a7 fun y=>(BM fun r_=>(aj (fun hp=>?_))));dsimp only[aw]at hp;unfold mR at hp;refine⟨nbl rfl,L0,ag _,?_⟩;unfold aa Tryz.f44;try unfold pa
 exact zq1
def cJ (y:Claim):Bool:=(decide (y.litres > 1073741824))
@[go_sem] def rH:List SV->Option Con:=(pD .claim fun y=>(pE (.det True (.v (.bool (cJ y))))))
theorem xT:FnOk Tryz.prog 49 rH:=by
 have hG:ConsOk Tryz.prog (mkG [] []):=av cg0 cg0;refine ax [.o] mixed am hG (fn:=Tryz.f49) (c:=aa Tryz.f49) kr kr kr kr (a7 fun y=>(aj (fun hp=>?_)));dsimp only[aw]at hp;refine⟨nbl rfl,L0,ag _,?_⟩;unfold aa Tryz.f49;try unfold cJ
 exact zq1
@[go_sem] def c6 (s_:List Claim)(r_:List Claim)(k_0:Nat)(s_0:Unit):Int⊕Unit:=(bif(pa (s_.getD k_0 default) r_)then .inl (k_0:Int)else .inr ())
def d8 (s_:List Claim)(r_:List Claim)(k_0:Nat)(s_0:Unit):Prop:=(mR (s_.getD k_0 default) r_)
def ak (s_:List Claim)(r_:List Claim):Int:=(match aq (c6 s_ r_) s_.length 0 ()with| .inl x_0_0=>x_0_0| .inr s_0=>(-1))
def c9 (s_:List Claim)(r_:List Claim):Prop:=(s_.length<=aI->okI (c6 s_ r_) (d8 s_ r_) s_.length 0 ())
@[go_sem] noncomputable def iw:List SV->Option Con:=(pR .claim fun s_=>(pFn 44 (pXR .claim fun r_=>(pE ((pE (.det (c9 s_ r_) (.v (.int .i64 (ak s_ r_))))))))))
theorem mD:FnOk Tryz.prog 43 iw:=by
 have hG:ConsOk Tryz.prog (mkG [(44,rG)] []):=av (cgc xS cg0) cg0;refine ax [.o] mixed am hG (fn:=Tryz.f43) (c:=aa Tryz.f43) kr kr kr kr (bB fun s_=>(bI (BM fun r_=>(aj ((aj (fun hp=>?_)))))));dsimp only[aw]at hp;unfold c9 at hp;refine⟨nbl rfl,(fun id st=>bif Nat.beq id 0 then some (LCR (ρ:=Int) (σ:=Unit) 0 [] [] (fun k_0 s_0=>⟨[(0,.rs .claim s_),(1,.fn 44 [] [.ep [.rs .claim r_] 0]),(7,.v (.int .i64 (s_.length:Int))),(8,.v (.int .i64 (k_0:Int)))],[]⟩) (c6 s_ r_) (d8 s_ r_) s_.length () (s_.length<=aI) (fun _=>.ret) (fun x_0_0=>⟨[(4,.v (.int .i64 x_0_0))],[]⟩) st)else none),?_,?_⟩;unfold aa Tryz.f43;simp only[ap,true_and,and_true];refine a8 mixed am hG kr (fun _=>rfl) (s_.length:Int) rfl iB (fun hb0 k_0 s_0 hlt0 hq0 hw hc=>⟨L0,ag _,?_⟩) (fun hb0 s_0 hc=>?_);unfold d8 at hq0;try simp only[hw,air]at hq0
 exact bT (jl []);exact bN (jl []);unfold aa Tryz.f43;try unfold ak
 exact zq1
@[go_sem] def eK (s_:List Claim)(k_0:Nat)(s_0:Unit):Int⊕Unit:=(bif(cJ (s_.getD k_0 default))then .inl (k_0:Int)else .inr ())
def dA (s_:List Claim):Int:=(match aq (eK s_) s_.length 0 ()with| .inl x_0_0=>x_0_0| .inr s_0=>(-1))
@[go_sem] def ix:List SV->Option Con:=(pR .claim fun s_=>(pFn 49 (pE ((pE (.det True (.v (.int .i64 (dA s_)))))))))
theorem mE:FnOk Tryz.prog 43 ix:=by
 have hG:ConsOk Tryz.prog (mkG [(49,rH)] []):=av (cgc xT cg0) cg0;refine ax [.o] mixed am hG (fn:=Tryz.f43) (c:=aa Tryz.f43) kr kr kr kr (bB fun s_=>(bI (aj ((aj (fun hp=>?_))))));dsimp only[aw]at hp;refine⟨nbl rfl,(fun id st=>bif Nat.beq id 0 then some (LCR (ρ:=Int) (σ:=Unit) 0 [] [] (fun k_0 s_0=>⟨[(0,.rs .claim s_),(1,.fn 49 [] []),(7,.v (.int .i64 (s_.length:Int))),(8,.v (.int .i64 (k_0:Int)))],[]⟩) (eK s_) pT s_.length () (s_.length<=aI) (fun _=>.ret) (fun x_0_0=>⟨[(4,.v (.int .i64 x_0_0))],[]⟩) st)else none),?_,?_⟩;unfold aa Tryz.f43;simp only[ap,true_and,and_true];refine a8 mixed am hG kr (fun _=>rfl) (s_.length:Int) rfl iB (fun hb0 k_0 s_0 hlt0 _ hw hc=>⟨L0,ag _,?_⟩) (fun hb0 s_0 hc=>?_);exact bT (jl []);exact bN (jl []);unfold aa Tryz.f43;try unfold dA
 exact zq1
@[go_sem] noncomputable def aF:List SV->Option Con:=fun l=>(orC (iw l) (ix l))
theorem iy:FnOk Tryz.prog 43 aF:=(FnOk.or mD mE)
def bV (s_:List Claim):Bool:=(decide ((dA s_)>=0))
@[go_sem] def gL:List SV->Option Con:=(pR .claim fun s_=>(pFn 49 (pE ((pE (.det True (.v (.bool (bV s_)))))))))
theorem zq75 {p:Prop}(h:p:=by simp only[go_sem,Nat.reduceBEq,Nat.reduceLeDiff,Nat.reduceLT,decide_true,Nat.reduceAdd,Nat.reduceSub,Nat.reduceMul,Int.reduceLE,Int.reduceLT,Int.reduceToNat,Int.reduceNeg,reduceCtorEq,aF];all_goals exact cl):p:=h
theorem lr:FnOk Tryz.prog 48 gL:=by
 have hG:ConsOk Tryz.prog (mkG [(43,fun l=>aF (bD [.sl .claim,.o] l))] []):=av (cgc (iy.norm [.sl .claim,.o]) cg0) cg0;refine ax [.o] mixed am hG (fn:=Tryz.f48) (c:=aa Tryz.f48) kr kr kr kr (bB fun s_=>(bI (aj ((aj (fun hp=>?_))))));dsimp only[aw]at hp;refine⟨nbl rfl,L0,ag _,?_⟩;unfold aa Tryz.f48;try unfold bV
 exact zq75
@[go_sem] noncomputable def aR:List SV->Option Con:=fun l=>(gL l)
theorem lN:FnOk Tryz.prog 48 aR:=lr
@[go_sem] def bb (a2:List Judgement)(s_0:List Claim×List Claim)(z_1:Judgement)(s_1:List Claim):Empty⊕(List Claim):=letI q0:=dz (cj z_1 s_1);(bif(z_1.kind==1)then .inr q0 else(bif(z_1.kind==2)then .inr q0 else(bif(z_1.kind==3)then .inr (dz (cC z_1 s_1))else(bif(z_1.kind==4)then .inr (dz s_1)else .inr default))))
def cL (a2:List Judgement)(s_0:List Claim×List Claim)(z_1:Judgement)(s_1:List Claim):Prop:=letI q0:=(cV z_1 s_1)/\(c5 (cj z_1 s_1));(((z_1.kind==1)=true->q0)/\((z_1.kind==1)=false->(((z_1.kind==2)=true->q0)/\((z_1.kind==2)=false->(((z_1.kind==3)=true->((dc z_1 s_1)/\(c5 (cC z_1 s_1))))/\((z_1.kind==3)=false->(((z_1.kind==4)=true->(c5 s_1))/\((z_1.kind==4)=false->False))))))))
@[go_sem] def cW (a1:List Claim)(a2:List Judgement)(k_0:Nat)(s_0:List Claim×List Claim):(List Claim)⊕(List Claim×List Claim):=letI q1:=ak s_0.1 s_0.1;letI q2:=(s_0.1.length:Int);letI q0:=Int.toNat (bif(decide (q1<0))then q2 else q1);(bif(decide (q2 > 0))then(match dR (bb a2 s_0) (aC a2 ((s_0.1.getD 0 default).hour)) ((s_0.1.take q0).drop 0)with| .inl x=>x.elim| .inr s_1=>.inr (((s_0.1.take (Int.toNat q2)).drop q0),(s_0.2++s_1)))else .inl s_0.2)
def g7 (a1:List Claim)(a2:List Judgement)(k_0:Nat)(s_0:List Claim×List Claim):Prop:=letI q1:=(s_0.1.length:Int);letI q4:=ak s_0.1 s_0.1;letI q0:=bif(decide (q4<0))then q1 else q4;letI q3:=(s_0.1.take (Int.toNat q0)).drop 0;letI q5:=(s_0.1.getD 0 default).hour;letI q2:=aC a2 q5;letI q6:=bb a2 s_0;(s_0.1.length<=aI->((decide (q1 > 0))=true->((c9 s_0.1 s_0.1)/\((0<=0/\0<=q0/\q0<=q1)/\((q3.length*40<=di)/\((0<=0/\0<q1)/\((iv a2 q5 (q2.map wq))/\okL q6 (cL a2 s_0) q2 q3/\(∀ s_1,dR q6 q2 q3=.inr s_1->(((s_0.2++s_1).length*40<=di)/\((s_0.2++s_1).length<=aI->(0<=q0/\q0<=q1/\q1<=q1)))))))))))
def c7 (a0:District)(a1:List Claim)(a2:List Judgement):List Claim×Int:=letI q0:=bw a0 a2;letI q1:=aK a0 a1;(bif(q0 !=0)then([],q0)else(bif(q1 !=0)then([],q1)else(match aq (cW a1 a2) (a1.length+1) 0 (a1,[])with| .inl x_0_0=>(bif((decide ((x_0_0.length:Int) > 4096)) ||(bV x_0_0))then([],2)else(x_0_0,0)) | .inr s_0=>default)))
def dS (a0:District)(a1:List Claim)(a2:List Judgement):Prop:=letI q0:=cW a1 a2;((iY a0 a2)/\(((bw a0 a2) !=0)=false->((li a0 a1)/\(((aK a0 a1) !=0)=false->(okI q0 (g7 a1 a2) (a1.length+1) 0 (a1,[])/\(∀ z_,aq q0 (a1.length+1) 0 (a1,[])≠ .inr z_))))))
@[go_sem] def pb:List SV->Option Con:=(pD .district fun a0=>(pR .claim fun a1=>(pR .judgement fun a2=>(pE (.det (dS a0 a1 a2) (.tup [.nw .claim ((c7 a0 a1 a2).1),.v (.int .i64 ((c7 a0 a1 a2).2))]))))))
theorem zq76 {l0 l1 l2:List Nat}(a0:JL l0)(a1:JL l1)(a2:JL l2){p:Prop}(h:JL l0->JL l1->JL l2->p:=by intro ja jb jc;simp only[go_sem,Nat.reduceBEq,Nat.reduceLeDiff,Nat.reduceLT,decide_true,Nat.reduceAdd,Nat.reduceSub,Nat.reduceMul,Int.reduceLE,Int.reduceLT,Int.reduceToNat,Int.reduceNeg,reduceCtorEq,aF,aR,r9,bb,psT,wq,aiF,aiC,hk0];all_goals exact xb ja jb jc):p:=h a0 a1 a2
theorem zq77 {l0 l1 l2:List Nat}(a0:JL l0)(a1:JL l1)(a2:JL l2){p:Prop}(h:JL l0->JL l1->JL l2->p:=by intro ja jb jc;simp only[go_sem,Nat.reduceBEq,Nat.reduceLeDiff,Nat.reduceLT,decide_true,Nat.reduceAdd,Nat.reduceSub,Nat.reduceMul,Int.reduceLE,Int.reduceLT,Int.reduceToNat,Int.reduceNeg,reduceCtorEq,aF,aR,r9,bb,psT,wq,aiF,aiC,hk0,hk1];all_goals exact xb ja jb jc):p:=h a0 a1 a2
theorem zq78 {l0 l1 l2:List Nat}(a0:JL l0)(a1:JL l1)(a2:JL l2){p:Prop}(h:JL l0->JL l1->JL l2->p:=by intro ja jb jc;simp only[go_sem,Nat.reduceBEq,Nat.reduceLeDiff,Nat.reduceLT,decide_true,Nat.reduceAdd,Nat.reduceSub,Nat.reduceMul,Int.reduceLE,Int.reduceLT,Int.reduceToNat,Int.reduceNeg,reduceCtorEq,aF,aR,r9,bb,psT,wq,aiF,aiC,hk0,hk1,hk2];all_goals exact xb ja jb jc):p:=h a0 a1 a2
theorem ae0 {l0 l1 l2:List Nat}(a0:JL l0)(a1:JL l1)(a2:JL l2){p:Prop}(h:JL l0->JL l1->JL l2->p:=by intro ja jb jc;simp only[go_sem,Nat.reduceBEq,Nat.reduceLeDiff,Nat.reduceLT,decide_true,Nat.reduceAdd,Nat.reduceSub,Nat.reduceMul,Int.reduceLE,Int.reduceLT,Int.reduceToNat,Int.reduceNeg,reduceCtorEq,aF,aR,r9,bb,psT,wq,aiF,aiC,hk0,hk1,hk2,hk3];all_goals exact xb ja jb jc):p:=h a0 a1 a2
theorem ae1 {l0 l1 l2:List Nat}(a0:JL l0)(a1:JL l1)(a2:JL l2){p:Prop}(h:JL l0->JL l1->JL l2->p:=by intro ja jb jc;simp only[go_sem,Nat.reduceBEq,Nat.reduceLeDiff,Nat.reduceLT,decide_true,Nat.reduceAdd,Nat.reduceSub,Nat.reduceMul,Int.reduceLE,Int.reduceLT,Int.reduceToNat,Int.reduceNeg,reduceCtorEq,aF,aR,r9];all_goals exact xb ja jb jc):p:=h a0 a1 a2
theorem zq83 {p:Prop}(h:p:=by simp only[go_sem,Nat.reduceBEq,Nat.reduceLeDiff,Nat.reduceLT,decide_true,Nat.reduceAdd,Nat.reduceSub,Nat.reduceMul,Int.reduceLE,Int.reduceLT,Int.reduceToNat,Int.reduceNeg,reduceCtorEq,aF,aR,r9];all_goals exact cl):p:=h
theorem sV:FnOk Tryz.prog 12 pb:=by
 have hG:ConsOk Tryz.prog (mkG [(16,fun l=>nu (bD [.st .district,.sl .judgement] l)),(32,fun l=>uH (bD [.st .district,.sl .claim] l)),(42,vW),(43,fun l=>aF (bD [.sl .claim,.o] l)),(45,fun l=>sU (bD [.sl .claim] l)),(46,fun l=>tN (bD [.sl .judgement,.o] l)),(48,fun l=>aR (bD [.sl .claim,.o] l))] [(47,r8),(88,kF),(89,lp),(90,lq)]):=av (cgc (p7.norm [.st .district,.sl .judgement]) (cgc (yb.norm [.st .district,.sl .claim]) (cgc A4 (cgc (iy.norm [.sl .claim,.o]) (cgc (yk.norm [.sl .claim]) (cgc (zi.norm [.sl .judgement,.o]) (cgc (lN.norm [.sl .claim,.o]) cg0))))))) (cgc B5 (cgc vn (cgc wo (cgc wp cg0))));refine F8 [(.tmp 6,.claim)] mixed am hG (fn:=Tryz.f12) (c:=aa Tryz.f12) kr kr kr kr (a7 fun a0=>(bB fun a1=>(bB fun a2=>(aj (fun hp=>?_)))));dsimp only[aw]at hp;unfold dS at hp;refine⟨nbl rfl,(fun id st=>bif Nat.beq id 0 then some (LCV (ρ:=(List Claim)) (σ:=(List Claim×List Claim)) 4 [.slot 6 (.row .claim ([]))] [0,1,2,3,4] (fun k_0 s_0=>⟨[(2,.rs .judgement a2),(4,.ptr 1 0),(6,.os 4),(8,.ptr 3 0)],[.dead,.cells [.rs .claim s_0.1],.mp .int .fnc gj none,.cells [.os 2],.row .claim s_0.2]⟩) (cW a1 a2) (g7 a1 a2) (a1.length+1) (a1,[]) (fun _=>.normal) (fun x_0_0=>⟨[(6,.os 4)],[.dead,.dead,.dead,.dead,.row .claim x_0_0]⟩) st)else none),?_,?_⟩
 ·unfold aa Tryz.f12;simp only[ap,true_and,and_true]
  ·refine uB mixed am hG kr (fun _=>rfl) fun k_0 s_0 hq0=>⟨(fun id st=>bif Nat.beq id 1000032 then some (JC (⟨[(2,.rs .judgement a2),(4,.ptr 1 0),(6,.os 4),(8,.ptr 3 0),(9,.v (.int .i64 (bif(decide ((ak s_0.1 s_0.1) <0))then(s_0.1.length:Int)else(ak s_0.1 s_0.1))))],[.dead,.cells [.rs .claim s_0.1],.mp .int .fnc gj none,.cells [.os 2],.row .claim s_0.2]⟩))else bif Nat.beq id 2 then some (LC (ρ:=Empty) (σ:=List Claim) (lk 2 st.t=.rs .judgement a2/\lk 4 st.t=.ptr 1 0/\lk 6 st.t=.os 4/\lk 8 st.t=.ptr 3 0/\lk 9 st.t=.v (.int .i64 (bif(decide ((ak s_0.1 s_0.1) <0))then(s_0.1.length:Int)else(ak s_0.1 s_0.1)))/\lk 10 st.t=.ptr 6 0/\lk 44 st.t=.fn 91 [] [.ep [.rs .judgement a2] 0,.ep [.v (.int .i64 ((s_0.1.getD 0 (default:Claim)).hour))] 0]/\st.h=[.dead,.cells [.rs .claim s_0.1],.mp .int .fnc gj none,.cells [.os 2],.row .claim s_0.2,.row .claim ((s_0.1.take (Int.toNat (bif(decide ((ak s_0.1 s_0.1) <0))then(s_0.1.length:Int)else(ak s_0.1 s_0.1)))).drop 0),.cells [.os 5]]/\iv a2 ((s_0.1.getD 0 (default:Claim)).hour) ((aC a2 ((s_0.1.getD 0 (default:Claim)).hour)).map wq)/\okL (bb a2 s_0) (cL a2 s_0) (aC a2 ((s_0.1.getD 0 (default:Claim)).hour)) ((s_0.1.take (Int.toNat (bif(decide ((ak s_0.1 s_0.1) <0))then(s_0.1.length:Int)else(ak s_0.1 s_0.1)))).drop 0)) (dR (bb a2 s_0) (aC a2 ((s_0.1.getD 0 (default:Claim)).hour)) ((s_0.1.take (Int.toNat (bif(decide ((ak s_0.1 s_0.1) <0))then(s_0.1.length:Int)else(ak s_0.1 s_0.1)))).drop 0)) (fun x=>x.elim) (fun x=>x.elim) (fun s_1=>⟨[(2,.rs .judgement a2),(4,.ptr 1 0),(6,.os 4),(8,.ptr 3 0),(9,.v (.int .i64 (bif(decide ((ak s_0.1 s_0.1) <0))then(s_0.1.length:Int)else(ak s_0.1 s_0.1)))),(10,.ptr 6 0)],[.dead,.cells [.rs .claim s_0.1],.mp .int .fnc gj none,.cells [.os 2],.row .claim s_0.2,.dead,.cells [.os 7],.row .claim s_1]⟩))else none),?_,?_⟩
   ·simp only[ap,true_and,and_true]
    ·refine ud mixed am hG (by decide) (by decide) kr kr fun st lc hC hp=>?_;simp only[go_sem,Nat.reduceBEq,aip]at hC;subst hC;obtain⟨t,h⟩:=st;dsimp only[LC]at hp;obtain⟨e1_0,e1_1,e1_2,e1_3,e1_4,e1_5,e1_6,rfl,hb1,hok1⟩:=hp;refine⟨91,[.ep [.rs .judgement a2] 0,.ep [.v (.int .i64 ((s_0.1.getD 0 (default:Claim)).hour))] 0],Judgement,_,_,(aC a2 ((s_0.1.getD 0 (default:Claim)).hour)),wq,(bb a2 s_0),(cL a2 s_0),_,((s_0.1.take (Int.toNat (bif(decide ((ak s_0.1 s_0.1) <0))then(s_0.1.length:Int)else(ak s_0.1 s_0.1)))).drop 0),_,_,_,[(2,.rs .judgement a2),(4,.ptr 1 0),(6,.os 4),(8,.ptr 3 0),(9,.v (.int .i64 (bif(decide ((ak s_0.1 s_0.1) <0))then(s_0.1.length:Int)else(ak s_0.1 s_0.1)))),(10,.ptr 6 0)],(fun s_1=>[.dead,.cells [.rs .claim s_0.1],.mp .int .fnc gj none,.cells [.os 2],.row .claim s_0.2,.dead,.cells [.os 7],.row .claim s_1]),(fun x=>x.elim),[0,1,2,3,4,5,6,5],?_,rfl,hok1,nbl rfl,?_,xR a2 ((s_0.1.getD 0 (default:Claim)).hour) _ hb1,fun z_1 s_1 hq1=>⟨rfl,L0,fun l=>?_,fun l=>?_,?_⟩,fun s_1=>?_,fun y=>?_⟩;simp only[go_sem,e1_0,e1_1,e1_2,e1_3,e1_4,e1_5,e1_6]
     ·simp only[go_sem,Nat.reduceBEq,Nat.reduceLeDiff,Nat.reduceLT,decide_true,Nat.reduceAdd,Nat.reduceSub,Nat.reduceMul,Int.reduceLE,Int.reduceLT,Int.reduceToNat,Int.reduceNeg,reduceCtorEq,wU,mQ,ai5,ajN,aiC,aiQ,ajy,e1_0,e1_1,e1_2,e1_3,e1_4,e1_5,e1_6];all_goals (first|done|decide|(repeat' (first|refine And.intro ?_ ?_|rfl|decide)))
     simp only[ap,and_self,true_and,and_true];simp only[ap,and_self,true_and,and_true];unfold cL at hq1;rcases ai0 (z_1.kind==1)with hk0|hk0;exact zq76 (jl [0,1,2,3,4,5,6,9]) (jl [0,1,2,3,4,5,6,10]) (jl [0,1,2,3,4,5,6,7]);rcases ai0 (z_1.kind==2)with hk1|hk1;exact zq77 (jl [0,1,2,3,4,5,6,9]) (jl [0,1,2,3,4,5,6,10]) (jl [0,1,2,3,4,5,6,7]);rcases ai0 (z_1.kind==3)with hk2|hk2;exact zq78 (jl [0,1,2,3,4,5,6,9]) (jl [0,1,2,3,4,5,6,10]) (jl [0,1,2,3,4,5,6,7]);rcases ai0 (z_1.kind==4)with hk3|hk3;exact ae0 (jl [0,1,2,3,4,5,6,9]) (jl [0,1,2,3,4,5,6,10]) (jl [0,1,2,3,4,5,6,7]);exact ae0 (jl [0,1,2,3,4,5,6,9]) (jl [0,1,2,3,4,5,6,10]) (jl [0,1,2,3,4,5,6,7]);exact ae1 (jl [0,1,2,3,4,5,6,9]) (jl [0,1,2,3,4,5,6,10]) (jl [0,1,2,3,4,5,6,7]);exact ae1 (jl [0,1,2,3,4,5,6,9]) (jl [0,1,2,3,4,5,6,10]) (jl [0,1,2,3,4,5,6,7])
   unfold g7 at hq0;exact Lz (jl [0,1,2,3,8]) (jl [0,1,2,3,4])
 unfold aa Tryz.f12;try unfold c7
 exact zq83
theorem LA (x:Int)(l:List Int):gZ (x::l)=if x=0 then gZ l else x:=by
 have key:∀ l:List Int,gZ l=match dR (ρ:=Int) (fun(x:Int) (_:Unit) =>bif(x !=0)then .inl x else .inr ()) l ()with| .inl y=>y| .inr _=>0:=fun l=>by
  unfold gZ;have:=xM (ρ:=Int) (fun(x:Int) (_:Unit) =>bif(x !=0)then .inl x else .inr ()) 0 l ();rw[<-this];rfl
 rw[key,key];simp only[dR];grind
theorem Ny:gZ []=0:=rfl
theorem Gf:∀ l:List (Int×Int),(gZ (l.map fun p=>bq p.1 p.2) <0↔w8 l)
 | [] =>by simp[Ny,w8]
 |(a,b)::r=>by
  have hc:=lT a b;simp only[aiW,LA,hc,w8];rcases aku a b with h|h|h;simp[h];subst h;simp only[ak0,if_false,if_true,true_and,false_or,gt_iff_lt];exact Gf r;omega
def zW (a b:Claim):Prop:=w8 [(a.hour,b.hour),(a.rank,b.rank),(a.right,b.right),(a.farm,b.farm)]
theorem B7 (a b:Claim):jp a b<0↔zW a b:=Gf [(a.hour,b.hour),(a.rank,b.rank),(a.right,b.right),(a.farm,b.farm)]
theorem A5 (a b:Claim):be a b=decide (jp a b<0):=by
 rw[ajv,decide_eq_true_eq,B7];unfold be;simp only[zW,w8,and_false,or_false];grind
theorem xd {α:Type}(l:List α)(d:α){k:Nat}(hk:k<l.length):l.getD k d∈l:=by grind
theorem Nz {a b c:Claim}(h1:zW a b)(h2:zW b c):zW a c:=by simp only[zW,w8,and_false,or_false]at *;omega
structure FineC (d:District)(x:Claim):Prop where
 r0:0<=x.right
 r1:x.right< (d.rights.length:Int)
 f0:0<=x.farm
 f1:x.farm< (d.farms.length:Int)
 h0:0<=x.hour
 h1:x.hour<d.hours
 l0:1<=x.litres
 l1:x.litres<=1073741824
 kind:(d.rights.getD x.right.toNat default).kind=1
 rank:(d.rights.getD x.right.toNat default).rank=x.rank
def Id (d:District)(x:Claim):Bool:=(((((((decide (x.right>=0))&&(decide (x.right< (d.rights.length:Int))))&&(decide (x.farm>=0)))&&(decide (x.farm< (d.farms.length:Int))))&&(decide (x.hour>=0)))&&(decide (x.hour<d.hours)))&&(decide (x.litres>=1)))&&(decide (x.litres<=1073741824))
theorem Ie (d:District)(x:Claim):Id d x=true↔(0<=x.right/\x.right< (d.rights.length:Int))/\(0<=x.farm/\x.farm< (d.farms.length:Int))/\(0<=x.hour/\x.hour<d.hours)/\(1<=x.litres/\x.litres<=1073741824):=by
 unfold Id;grind
theorem If (d:District)(x:Claim):FineC d x↔Id d x=true/\(d.rights.getD x.right.toNat default).kind=1/\(d.rights.getD x.right.toNat default).rank=x.rank:=by
 rw[Ie];exact⟨fun h=>⟨⟨⟨h.r0,h.r1⟩,⟨h.f0,h.f1⟩,⟨h.h0,h.h1⟩,h.l0,h.l1⟩,h.kind,h.rank⟩,fun h=>⟨h.1.1.1,h.1.1.2,h.1.2.1.1,h.1.2.1.2,h.1.2.2.1.1,h.1.2.2.1.2,h.1.2.2.2.1,h.1.2.2.2.2,h.2.1,h.2.2⟩⟩
theorem not8 (d:District)(x:Claim):((((((((decide (x.right<0)) ||(decide (x.right>=(d.rights.length:Int)))) ||(decide (x.farm<0))) ||(decide (x.farm>=(d.farms.length:Int)))) ||(decide (x.hour<0))) ||(decide (x.hour>=d.hours))) ||(decide (x.litres<1))) ||(decide (x.litres > 1073741824)))= !Id d x:=by
 rw[ajv,aiE,<-akm,Ie];grind
theorem JK (d:District)(x:Claim):wj d x/\(nU d x=true↔FineC d x):=by
 unfold wj nU;grind [not8,If]
theorem T7 (d:District)(c:List Claim)(k:Nat)(hk:k<4097):fH d c k ()=uI d c k ()/\(fH d c k ()=.inr ()↔FineC d (c.getD k default)/\(0<k->jp (c.getD (k - 1) default) (c.getD k default) <0)):=by
 have hw:0<k->Int.toNat (i64.wrap ((k:Int) - 1))=k - 1:=fun h=>by grind [cI]
 have e:(((((!(Id d (c.getD k default))) ||((d.rights.getD (Int.toNat (c.getD k default).right) default).kind !=1)) ||((d.rights.getD (Int.toNat (c.getD k default).right) default).rank !=(c.getD k default).rank)) ||((decide ((k:Int) > 0))&&(decide ((jp (c.getD (Int.toNat (i64.wrap ((k:Int) - 1))) default) (c.getD k default))>=0)))))=(((!(nU d (c.getD k default))) ||((decide ((k:Int) > 0))&&(!(be (c.getD (Int.toNat (i64.wrap ((k:Int) - 1))) default) (c.getD k default)))))):=by
  rw[A5];have h1:(((!(Id d (c.getD k default))) ||((d.rights.getD (Int.toNat (c.getD k default).right) default).kind !=1)) ||((d.rights.getD (Int.toNat (c.getD k default).right) default).rank !=(c.getD k default).rank))= !(nU d (c.getD k default)):=by
   rw[ajv,aiE,<-akm,(JK _ _).2,If];grind
  rw[h1];grind
 refine⟨?_,?_⟩;show(bif _ then Sum.inl ()else Sum.inr ())=(bif _ then Sum.inl ()else Sum.inr ());exact congrArg (fun b=>(bif b then Sum.inl ()else Sum.inr ():Unit⊕Unit)) e;show(bif _ then Sum.inl ()else Sum.inr ())=_↔_;rw[uy];refine akB (b:=(((!(nU d (c.getD k default))) ||((decide ((k:Int) > 0))&&(!(be (c.getD (Int.toNat (i64.wrap ((k:Int) - 1))) default) (c.getD k default))))))=false) (by rw[<-e];rfl) ?_;simp_all [A5,JK]
theorem T8 (d:District)(c:List Claim):li d c:=fun _ _ h _=>kU _ _ _ fun j _ _ hj=>by
 grind [km,cI]
theorem Q4 (d:District)(c:List Claim):At d c:=⟨H6 d,fun _ _ h=>kU _ _ _ fun j _ _ hj=>fun _=>⟨(JK _ _).1,fun _ h0=>by
 grind [cI]⟩⟩
theorem Ig {ρ σ:Type}{f g:Nat->σ->ρ⊕σ}:∀ (n i:Nat) (s:σ),(∀ j s,i<=j->j<i+n->f j s=g j s)->aq f n i s=aq g n i s
 |0,_,_,_=>rfl
 |n+1,i,s,h=>by
  rw[aq,aq,h i s (aio _) (by omega)];cases g i s with
  |inl x=>rfl
  |inr s'=>exact Ig n (i+1) s' fun j s h1 h2=>h j s (by omega) (by omega)
theorem Ih (d:District)(c:List Claim):aK d c=vN d c:=by
 unfold aK vN;rw[<-y9];cases aU d !=0 with
 |true=>rfl
 |false=>
  simp only[cond_false];by_cases hl:(c.length:Int) > 4096
  grind
  rw[decide_eq_false hl];simp only[cond_false];grind [Ig,T7]
theorem NA {d:District}{c:List Claim}(he:aU d=0)(hl:c.length<=4096)(h1:∀ x∈c,FineC d x)(h2:c.Pairwise zW):aK d c=0:=by
 unfold aK;rw[he,decide_eq_false (show ¬ (c.length:Int) > 4096 by omega)];simp only[bne_self_eq_false,cond_false];have:aq (fH d c) c.length 0 ()=.inr ():=nW.2 fun j hj=>((T7 d c j (by omega)).2).2 ⟨h1 _ (xd _ default hj),fun h0=>by
  rw[aiH]at h2;rw[B7,nq c default (show j - 1<c.length by omega),nq c default hj];grind⟩
 rw[this]
theorem A6 {d:District}{c:List Claim}(h:aK d c=0):aU d=0/\c.length<=4096/\(∀ x∈c,FineC d x)/\c.Pairwise zW:=by
 unfold aK at h;cases he:(aU d !=0)with
 |true=>grind
 |false=>
  rw[he]at h;simp only[cond_false]at h;by_cases hl:c.length<=4096
  rw[decide_eq_false (show ¬ (c.length:Int) > 4096 by omega)]at h;simp only[cond_false]at h;cases hr:aq (fH d c) c.length 0 ()with
  |inl y=>grind
  |inr s=>
   have h1:∀ k,k<c.length->FineC d (c.getD k default)/\(0<k->zW (c.getD (k - 1) default) (c.getD k default)):=fun k hk=>by
    have h2:=(T7 d c k (by omega)).2.1 (ln hr k (by omega) (by omega));exact⟨h2.1,fun h0=>(B7 _ _).1 (h2.2 h0)⟩
   have hlt:∀ k i,i<k->k<c.length->zW (c.getD i default) (c.getD k default):=fun k=>by
    induction k with
    |zero=>omega
    |succ k ih=>
     intro i hi hk;have h2:=(h1 (k+1) hk).2 (by omega);rw[ajQ]at h2;by_cases hik:i=k
     grind
     exact Nz (ih i (by omega) (by omega)) h2
   refine⟨by grind,hl,fun x hx=>?_,?_⟩;obtain⟨k,hk,rfl⟩:=aiN hx;grind
   grind [List.pairwise_iff_getElem]
  grind
theorem ae2 {ρ σ:Type}{step:Nat->σ->ρ⊕σ}{p:Nat->σ->Prop}(m:σ->Nat)(J:σ->Prop)(Q:ρ->Prop)(h:∀ k s,J s->p k s/\((∃ r,step k s=.inl r/\Q r)\/∃ s',step k s=.inr s'/\m s'<m s/\J s')):∀ (n i:Nat) (s:σ),J s->m s<n->okI step p n i s/\∃ r,aq step n i s=.inl r/\Q r
 |0,_,_,_,hm=>absurd hm (aju _)
 |n+1,i,s,hJ,hm=>by
  obtain⟨h1,h2⟩:=h i s hJ;rcases h2 with⟨r,e,hq⟩ | ⟨s',e,hlt,hJ'⟩;refine⟨⟨h1,fun s'' e'=>?_⟩,r,?_,hq⟩;grind
  grind [aq]
  obtain⟨q1,q2⟩:=ae2 m J Q h n (i+1) s' hJ' (by omega);refine⟨⟨h1,fun s'' e'=>?_⟩,?_⟩;grind
  grind [aq]
theorem ae3 {ρ σ:Type}{x:ρ⊕σ}{Q:ρ->Prop}(h:∃ r,x=.inl r/\Q r):∀ z,x≠ .inr z:=fun z e=>by
 grind
theorem Pc {α:Type}(A:List α)(x d:α)(T:List α){i:Nat}(h:i=A.length):(A++x::T).getD i d=x:=by
 grind
theorem T9 {α:Type}(A:List α)(x y:α)(T:List α){i:Nat}(h:i=A.length):(A++x::T).set i y=A++y::T:=by
 subst h;simp
theorem T_ (K G:List Claim):((EM .claim (K++G) (K.length:Int) ((K++G).length:Int)).take K.length)=K:=by
 grind [EM]
theorem B8 {α:Type}{step:Nat->Unit->Int⊕Unit}(l:List α)(d:α)(P:α->Bool)(h:∀ k,k<l.length->step k ()=bif P (l.getD k d)then .inl (k:Int)else .inr ()):(aq step l.length 0 ()=.inr ()/\∀ x∈l,P x=false)\/∃ K x R,l=K++x::R/\aq step l.length 0 ()=.inl (K.length:Int)/\P x=true/\∀ y∈K,P y=false:=by
 have key:∀ (R K:List α),l=K++R->(∀ y∈K,P y=false)->(aq step R.length K.length ()=.inr ()/\∀ x∈l,P x=false)\/∃ K' x R',l=K'++x::R'/\aq step R.length K.length ()=.inl (K'.length:Int)/\P x=true/\∀ y∈K',P y=false:=fun R=>by
  induction R with
  |nil=>exact fun K h hK=>.inl ⟨rfl,fun x hx=>hK x (by grind)⟩
  |cons x R ih=>
   intro K hl hK;have e:=h K.length (by rw[hl];simp);have g:l.getD K.length d=x:=by grind
   rw[g]at e;simp only[ais,aq,e];cases hx:P x with
   |true=>grind
   |false=>
    simp only[cond_false];have:=ih (K++[x]) (by rw[hl];simp) (fun y hy=>by
     grind)
    simp_all
 exact key l [] rfl (by simp)
theorem Q5 (l:List Claim)(hl:l.length<2 ^ 47):aT l/\aL l=l.filter fun x=>!ay x:=by
 have hI:(aD l= -1/\∀ x∈l,ay x=false)\/∃ K x R,l=K++x::R/\aD l=(K.length:Int)/\ay x=true/\∀ y∈K,ay y=false:=by
  unfold aD;rcases B8 (step:=dp l) l default (fun x=>ay x) (fun k _=>rfl)with⟨e,h⟩ | ⟨K,x,R,h1,e,h2,h3⟩ <;>grind
 unfold aT aL;rcases hI with⟨e,h⟩ | ⟨K,x,R,hl0,e,h2,h3⟩;rw[e];refine⟨(fun h=>by cases h),?_⟩;simp only[BEq.rfl,cond_true];exact(ajJ.2 fun x hx=>by grind).symm;have b:((K.length:Int) == -1)=false:=by rfl
 have hlen:l.length=K.length+(R.length+1):=by grind
 have w:i64.wrap ((K.length:Int)+1)=((K.length+1:Nat):Int):=by grind [cI]
 rw[e,w];simp only[b,cond_false];obtain⟨k1,r,k2,K',G',rfl,k3⟩:okI (a_ l) (br l) (l.length+1) 0 (l,(K.length:Int),((K.length+1:Nat):Int))/\∃ r,aq (a_ l) (l.length+1) 0 (l,(K.length:Int),((K.length+1:Nat):Int))=.inl r/\∃ K' G',r=((K'.length:Int),K'++G')/\K'=l.filter fun x=>!ay x:=by
  refine ae2 (fun s:List Claim×Int×Int=>((l.length:Int) - s.2.2).toNat) (fun s:List Claim×Int×Int=>∃ K' g G' R',s=(K'++g::(G'++R'),(K'.length:Int),((K'.length+(G'.length+1):Nat):Int))/\K'.length+(G'.length+1)+R'.length=l.length/\(l.filter fun x=>!ay x)=K'++R'.filter fun x=>!ay x) _ ?_ _ _ _ ⟨K,x,[],R,by grind,by grind,?_⟩ (by grind);rintro k s ⟨K',g,G',R',rfl,hn,hF⟩;have hL:(K'++g::(G'++R')).length=l.length:=by grind
  unfold br a_;simp only[hL];cases R' with
  |nil=>
   grind
  |cons y R'=>
   simp only[ais]at hn;have e1:decide (((K'.length+(G'.length+1):Nat):Int) < (l.length:Int))=true:=by grind
   have gy:(K'++g::(G'++y::R')).getD (K'.length+(G'.length+1)) default=y:=by
    grind
   have w1:i64.wrap (((K'.length+(G'.length+1):Nat):Int)+1)=((K'.length+(G'.length+1)+1:Nat):Int):=by grind [cI]
   have w2:i64.wrap ((K'.length:Int)+1)=((K'.length+1:Nat):Int):=by grind [cI]
   simp only[e1,cond_true,air,gy,w1,w2];refine⟨fun _ _=>⟨by omega,fun _=>by omega⟩,.inr ?_⟩;cases hy:ay y with
   |false=>
    obtain⟨g',G2,hG⟩:∃ g' G2,G'++[y]=g'::G2:=by
     cases G' <;>grind
    have hGl:G'.length+1=G2.length+1:=by have:=congrArg List.length hG;grind
    refine⟨_,rfl,by grind,K'++[y],g',G2,R',?_,?_,?_⟩;rw[T9 K' g y _ rfl];grind [Prod.mk.injEq]
    grind
    grind
   |true=>
    refine⟨_,rfl,by simp only;omega,K',g,G'++[y],R',?_,by rw[aiK];simp only[ais,aiI];omega,?_⟩ <;>grind
  simp_all
 refine⟨fun _=>⟨k1,ae3 (Q:=fun _=>True) ⟨_,k2,trivial⟩,fun z hz=>?_⟩,?_⟩;rw[k2]at hz;cases hz;have:(EM .claim (K'++G') (K'.length:Int) ((K'++G').length:Int)).length=(K'++G').length:=by
  grind [EM]
 grind
 grind [T_]
open Go.Shelf Go.Sort in
theorem NB {α:Type}{cf:α->α->Int}(hO:SWO (ltOf cf)){s m:List α}(hp:s.Perm m)(hm:m.Pairwise fun x y=>cf x y<0):apart cf s/\srt cf s=m:=by
 have e1:∀ x y,ltOf cf x y=true↔cf x y<0:=fun x y=>by unfold ltOf;grind
 have hex:∀ x∈m,∀ y∈m,ltOf cf x y=false->ltOf cf y x=false->x=y:=fun x hx y hy h1 h2=>by
  obtain⟨i,hi,rfl⟩:=akS.1 hx;obtain⟨j,hj,rfl⟩:=akS.1 hy;grind [List.pairwise_iff_getElem]
 refine⟨fun x hx y hy h1 h2=>hex x (hp.subset hx) y (hp.subset hy) h1 h2,?_⟩;unfold srt;have hq:(s.mergeSort fun x y=>!(ltOf cf y x)).Perm m:=(ajI _ _).trans hp;refine aj9 (le:=fun x y=>(!ltOf cf y x)=true) ?_ ?_ ?_ hq;grind
 refine ajM ?_ ?_ s;intro a b c h1 h2;simp only[aiE]at h1 h2 |-;exact hO.3 c b a h2 h1;intro a b;simp only[aiV,aiE];cases h1:ltOf cf b a with
 |false=>grind
 |true=>
  right;cases h2:ltOf cf a b with
  |false=>rfl|true=>have:=hO.2 _ _ _ h1 h2;rw[hO.1]at this;cases this
 refine hm.imp fun {a b} hab=>?_;simp only[aiE];cases h2:ltOf cf b a with
 |false=>rfl|true=>have:=hO.2 _ _ _ ((e1 _ _).2 hab) h2;rw[hO.1]at this;cases this
theorem Q6 {n:Nat}(h:n<2 ^ 47):0<=((Go.Lib.bitLen n:Nat):Int)/\((Go.Lib.bitLen n:Nat):Int) <4611686018427387904:=by
 have:Go.Lib.bitLen n<=47:=Go.Lib.bitLen_le n 47 (by omega) h;omega
theorem JM {l m:List Claim}(hl:l.length<2 ^ 46)(hp:(l.filter fun x=>!ay x).Perm m)(hm:m.Pairwise tlt):c5 l/\dz l=m:=by
 obtain⟨h1,h2⟩:=Q5 l (by omega);obtain⟨h3,h4⟩:=NB Lk hp (hm.imp fun {a b} h=>(O5 a b).2 h);unfold c5 dz bf bt;rw[h2];refine⟨⟨h1,fun hL=>?_⟩,h4⟩;have hw:u64.wrap ((l.filter fun x=>!ay x).length:Int)=((l.filter fun x=>!ay x).length:Int):=TL (by omega) (by grind);rw[hw];have hb:=Q6 (n:=(l.filter fun x=>!ay x).length) (by grind);grind
def nG (x:Claim)(n:Int):Claim:= { right:=x.right,farm:=x.farm,hour:=x.hour,litres:=n,rank:=x.rank}
def bZ (a b:Int):Int:=if a<b then a else b
theorem qW {a b:Int}:bZ a b<=a/\bZ a b<=b/\(bZ a b=a\/bZ a b=b):=by grind [bZ]
def p8 (f:Int):Int->List Claim->List Claim
 |_,[] =>[]|n,x::r=>if x.farm=f then nG x (bZ n x.litres)::p8 f (n - bZ n x.litres) r else x::p8 f n r
abbrev Lit (l:List Claim):Prop:= ∀ y∈l,0<=y.litres/\y.litres<4611686018427387904
theorem C3 (x:Judgement)(l0:List Claim):∀ (R A:List Claim) (n:Int) (k:Nat),A.length=k->0<=n->n<4611686018427387904->Lit R->
  okI (dq x l0) (fq x l0) R.length k (A++R,n)/\∃ m,aq (dq x l0) R.length k (A++R,n)=.inr (A++p8 x.farm n R,m)
 | [],A,n,k,hk,h0,h1,hR=>⟨trivial,n,by rfl⟩
 |y::R,A,n,k,hk,h0,h1,hR=>by
  have hy:=hR y (by simp);have hR':Lit R:=fun z hz=>hR z (by simp[hz]);have e:(A++y::R).getD k default=y:=Pc A y default R hk.symm;have e2:∀ z:Claim,(A++y::R).set k z=A++z::R:=fun z=>T9 A y z R hk.symm;have e3:∀ z:Claim,(A++z::R).getD k default=z:=fun z=>Pc A z default R hk.symm;have hm:=qW (a:=n) (b:=y.litres);have hlen:(k:Int) < ((A++y::R).length:Int):=by grind
  have hlen2:∀ z:Claim,(k:Int) < ((A++z::R).length:Int):=fun z=>by grind
  simp only[ais,okI,aq,dq,fq,e,e2,e3];by_cases hf:y.farm=x.farm
  rw[show(y.farm==x.farm)=true by grind];simp only[cond_true];have hw:i64.wrap (n - bZ n y.litres)=n - bZ n y.litres:=cI (by omega) (by omega);change _/\∃ m,aq (dq x l0) R.length (k+1) (A++nG y (bZ n y.litres)::R,i64.wrap (n - bZ n y.litres))=_;rw[hw];obtain⟨q1,m,q2⟩:=C3 x l0 R (A++[nG y (bZ n y.litres)]) (n - bZ n y.litres) (k+1) (by simp[hk]) (by omega) (by omega) hR';rw[ajF,akM]at q1 q2;refine⟨⟨⟨⟨by omega,hlen⟩,fun _=>⟨⟨by omega,hlen⟩,⟨by omega,hlen⟩,by omega,hlen2 _⟩⟩,fun s' hs=>?_⟩,m,?_⟩;cases hs;change okI _ _ R.length (k+1) (A++nG y (bZ n y.litres)::R,i64.wrap (n - bZ n y.litres));grind
  simp_all [p8];rw[show(y.farm==x.farm)=false by grind];simp only[cond_false];obtain⟨q1,m,q2⟩:=C3 x l0 R (A++[y]) n (k+1) (by simp[hk]) h0 h1 hR';simp_all [p8]
theorem Ua (x:Judgement)(l:List Claim)(h0:0<=x.n)(h1:x.n<4611686018427387904)(hl:Lit l):cV x l/\cj x l=p8 x.farm x.n l:=by
 obtain⟨q1,m,q2⟩:=C3 x l l [] x.n 0 rfl h0 h1 hl;grind [cV,cj]
theorem B9 (f:Int):∀ (l:List Claim) (n:Int),0<=n->Lit l->Lit (p8 f n l)/\(p8 f n l).length=l.length
 | [],n,h0,hl=>⟨(fun y hy=>by cases hy),rfl⟩
 |x::r,n,h0,hl=>by
  have hx:=hl x (by simp);have hm:=qW (a:=n) (b:=x.litres);unfold p8;by_cases hf:x.farm=f
  rw[if_pos hf];obtain⟨q1,q2⟩:=B9 f r (n - bZ n x.litres) (by omega) fun z hz=>hl z (by simp[hz]);refine⟨fun y hy=>?_,by simp[q2]⟩;rcases aiu.1 hy with rfl|hy;show 0<=bZ n x.litres/\bZ n x.litres<_;omega;grind
  rw[if_neg hf];obtain⟨q1,q2⟩:=B9 f r n h0 fun z hz=>hl z (by simp[hz]);grind
theorem B_ (f:Int):∀ (l:List Claim) (n:Int),(p8 f n l).map (fun x=>nG x 0)=l.map fun x=>nG x 0
 | [],n=>rfl
 |x::r,n=>by
  unfold p8;by_cases hf:x.farm=f
  rw[if_pos hf,aiW,aiW,B_ f r];rfl;simp_all [B_]
theorem LB {l m:List Claim}(e:m.map (fun x=>nG x 0)=l.map fun x=>nG x 0)(h:l.Pairwise tlt):m.Pairwise tlt:=by
 have h1:(l.map fun x=>nG x 0).Pairwise tlt:=ajG.2 (h.imp fun {a b} h=>h);rw[<-e]at h1;exact(ajG.1 h1).imp fun {a b} h=>h
theorem pz (l:List Claim)(f:Int):∀ (R A:List Claim) (n:Int) (acc:List Claim) (k:Nat),l=A++R->A.length=k->0<=n->n<4611686018427387904->Lit R->(acc.length+R.length)*40<=di->
  okI (nY l f) (rZ l f) R.length k (n,acc)/\∃ m,aq (nY l f) R.length k (n,acc)=.inr (m,acc++(p8 f n R).filter fun x=>!ay x)
 | [],A,n,acc,k,hl,hk,h0,h1,hR,hb=>⟨trivial,n,by simp[aq,p8]⟩
 |y::R,A,n,acc,k,hl,hk,h0,h1,hR,hb=>by
  have hy:=hR y (by simp);have hR':Lit R:=fun z hz=>hR z (by simp[hz]);have e:l.getD k default=y:=by grind
  have hm:=qW (a:=n) (b:=y.litres);simp only[ais]at hb;have hbd:∀ z:Claim,(acc++[z]).length*40<=di:=fun z=>by grind
  have hbn:∀ z:Claim,((acc++[z]).length+R.length)*40<=di:=fun z=>by grind
  have hl':l=(A++[y])++R:=by rw[hl];simp
  have e4:(if n<y.litres then n else y.litres)=bZ n y.litres:=rfl;simp only[ais,okI,aq,nY,rZ,e,e4];by_cases hf:y.farm=f
  rw[show(y.farm==f)=true by grind];simp only[cond_true];have hw:i64.wrap (n - bZ n y.litres)=n - bZ n y.litres:=cI (by omega) (by omega);rw[hw,p8,if_pos hf];by_cases hp:bZ n y.litres > 0
  rw[decide_eq_true hp];simp only[cond_true];obtain⟨q1,m,q2⟩:=pz l f R (A++[y]) (n - bZ n y.litres) (acc++[nG y (bZ n y.litres)]) (k+1) hl' (by simp[hk]) (by omega) (by omega) hR' (hbn _);grind [ay,nG]
  rw[decide_eq_false hp];simp only[cond_false];obtain⟨q1,m,q2⟩:=pz l f R (A++[y]) (n - bZ n y.litres) acc (k+1) hl' (by simp[hk]) (by omega) (by omega) hR' (by omega);grind [ay,nG]
  rw[show(y.farm==f)=false by grind];simp only[cond_false];rw[p8,if_neg hf];by_cases hp:y.litres > 0
  rw[decide_eq_true hp];simp only[cond_true];obtain⟨q1,m,q2⟩:=pz l f R (A++[y]) n (acc++[y]) (k+1) hl' (by simp[hk]) h0 h1 hR' (hbn _);grind [ay]
  rw[decide_eq_false hp];simp only[cond_false];obtain⟨q1,m,q2⟩:=pz l f R (A++[y]) n acc (k+1) hl' (by simp[hk]) h0 h1 hR' (by omega);grind [ay]
theorem uQ (x:Judgement)(l:List Claim)(h0:0<=x.n)(h1:x.n<4611686018427387904)(hl:Lit l)(hs:l.Pairwise tlt)(hb:l.length*40<=di):
  (cV x l/\c5 (cj x l)/\wn l x.farm x.n)/\dz (cj x l)=fA l x.farm x.n/\fA l x.farm x.n=(p8 x.farm x.n l).filter fun y=>!ay y:=by
 obtain⟨q1,q2⟩:=Ua x l h0 h1 hl;obtain⟨r1,m,r2⟩:=pz l x.farm l [] x.n [] 0 rfl rfl h0 h1 hl (by grind);have e:fA l x.farm x.n=(p8 x.farm x.n l).filter fun y=>!ay y:=by
  grind [fA]
 obtain⟨t1,t2⟩:=JM (l:=p8 x.farm x.n l) (by grind [B9,di]) (akT _) (List.Pairwise.filter _ (LB (B_ x.farm l x.n) hs));rw[q2,e];exact⟨⟨q1,t1,r1⟩,t2,rfl⟩
def tz (x:Claim):List Claim->List Claim
 | [] =>[x]|y::r=>if be x y=true then x::y::r else nG x (x.litres+y.litres)::r
def g8 (l:List Claim)(x:Claim):List Claim:=l.takeWhile (fun y=>be y x)++tz x (l.dropWhile fun y=>be y x)
theorem Pd (l:List Claim)(x:Claim)(hb:(l.length+1)*40<=di):∀ (R A:List Claim) (k:Nat),l=A++R->
  okI (kq l x) (nX l x) (R.length+1) k (A,(A.length:Int))/\aq (kq l x) (R.length+1) k (A,(A.length:Int))=.inl (((A++R.takeWhile fun y=>be y x).length:Int),A++R.takeWhile fun y=>be y x)
 | [],A,k,hl=>by
  have hA:l.length=A.length:=by rw[hl];simp
  have e:decide ((A.length:Int) < (l.length:Int))=false:=decide_eq_false (by omega);simp only[aiI,okI,aq,kq,nX,e,akU,cond_false,List.takeWhile_nil,aiQ];grind
 |y::R,A,k,hl=>by
  have hA:l.length=A.length+(R.length+1):=by rw[hl];simp
  have e:decide ((A.length:Int) < (l.length:Int))=true:=decide_eq_true (by omega);have g:l.getD (Int.toNat (A.length:Int)) default=y:=by grind
  have hw:i64.wrap ((A.length:Int)+1)=((A++[y]).length:Int):=by
   grind [cI,di]
  have hl2:(A++[y]).length*40<=di:=by grind
  simp only[ais];rw[okI,aq];simp only[kq,nX,e,g,aj_,hw];cases hB:be y x with
  |false=>
   simp_all
  |true=>
   simp only[cond_true];obtain⟨q1,q2⟩:=Pd l x hb R (A++[y]) (k+1) (by rw[hl];simp);simp_all
theorem Ub (l:List Claim)(x:Claim)(hb:(l.length+1)*40<=di)(hx:0<=x.litres/\x.litres<4611686018427387904)(hl:Lit l):qp l x/\uh l x=g8 l x:=by
 obtain⟨q1,q2⟩:=Pd l x hb l [] 0 rfl;simp only[aiI,aiC]at q1 q2;generalize hT:l.takeWhile (fun y=>be y x)=T at q2;generalize hD:l.dropWhile (fun y=>be y x)=D;have hTD:l=T++D:=by grind [List.takeWhile_append_dropWhile]
 have hlen:l.length=T.length+D.length:=by grind
 have q2':aq (kq l x) (l.length+1) 0 ([],0)=.inl ((T.length:Int),T):=q2;have q1':okI (kq l x) (nX l x) (l.length+1) 0 ([],0):=q1;have hbT:∀ (z:Claim) (m:List Claim),T.length+1+m.length<=l.length+1->((T++[z])++m).length*40<=di:=fun z m h=>by grind
 unfold qp uh g8;rw[hT,hD,q2'];have t1:l.take l.length=l:=List.take_length;have d1:l.drop T.length=D:=by grind
 have hLD:Lit D:=fun y hy=>hl y (by grind);cases D with
 |nil=>
  simp_all [tz]
 |cons y r=>
  simp only[ais]at hlen;have e1:decide ((T.length:Int) < (l.length:Int))=true:=decide_eq_true (by omega);have g:l.getD T.length default=y:=by grind
  have w1:i64.wrap ((T.length:Int)+1)=((T.length+1:Nat):Int):=by rw[cI (by omega) (by grind [di])];omega
  have d2:l.drop (T.length+1)=r:=by simp_all
  have hy:=hLD y (by simp);have w2:i64.wrap (x.litres+y.litres)=x.litres+y.litres:=cI (by omega) (by omega);have b1:∀ z:Claim,(T++[z]).length*40<=di:=fun z=>by
   grind
  refine⟨⟨q1',fun z h=>(by cases h),fun r' hr=>?_⟩,?_⟩;cases hr;simp only[e1,g,aj_,w1,w2,air,t1,d1,d2];exact fun _=>⟨fun _=>⟨by omega,by omega⟩,fun _=>⟨⟨by omega,by omega⟩,b1 _,fun _=>⟨⟨by omega,by omega,ajc _⟩,hbT _ r (by omega)⟩⟩,fun _=>⟨b1 _,fun _=>⟨⟨by omega,by omega,ajc _⟩,hbT _ (y::r) (by grind)⟩⟩⟩;simp only[e1,g,aj_,w1,w2,air,t1,d1,d2,tz];cases hB:be x y with
  |false=>
   simp only[aiY,cond_true,ait,if_false];rw[ajF,akM];rfl
  |true=>
   grind
def Hc (a b:Claim):Prop:=a.rank=b.rank/\a.right=b.right/\a.farm=b.farm
def amt:List Claim->Int->Int->Int
 | [],_,_=>0|x::l,r,p=>(if x.right=r/\x.farm=p then x.litres else 0)+amt l r p
theorem Ek:∀ (l m:List Claim) (r p:Int),amt (l++m) r p=amt l r p+amt m r p
 | [],m,r,p=>by simp[amt]
 |x::l,m,r,p=>by rw[aiF,amt,amt,Ek l m r p];omega
theorem sa {a b:Claim}(h:a.hour=b.hour):be a b=true↔tlt a b:=by
 simp_all [A5,B7,zW,tlt,w8]
theorem C4 {a b c:Claim}(h1:tlt a b)(h2:tlt b c):tlt a c:=by simp only[tlt,w8,and_false,or_false]at *;omega
theorem JN {a b:Claim}(h1:¬tlt a b)(h2:¬tlt b a):Hc a b:=by simp only[tlt,w8,and_false,or_false,Hc]at *;omega
theorem LD {a b c:Claim}(h1:tlt a b)(h2:Hc c b):tlt a c:=by simp_all [tlt,Hc]
theorem Uc {a b c:Claim}(h1:tlt a b)(h2:Hc c a):tlt c b:=by simp_all [tlt,Hc]
theorem uR (y:Claim)(l:List Claim)(x:Claim):g8 (y::l) x=if be y x=true then y::g8 l x else tz x (y::l):=by
 unfold g8;by_cases h:be y x=true <;>simp_all
theorem Gg (x:Claim):∀ (l:List Claim),l.Pairwise tlt->(∀ y∈l,y.hour=x.hour)->
  (g8 l x).Pairwise tlt/\(∀ z∈g8 l x,z.hour=x.hour/\(Hc z x\/∃ w∈l,Hc z w))/\∀ r p,amt (g8 l x) r p=amt l r p+if x.right=r/\x.farm=p then x.litres else 0
 | [],_,_=>by
  refine⟨akh _ _,fun z hz=>?_,fun r p=>?_⟩;have:z=x:=by simpa[g8,tz]using hz
  subst this;exact⟨rfl,.inl ⟨rfl,rfl,rfl⟩⟩;simp[g8,tz,amt]
 |y::l,hs,hh=>by
  have hs':=aiM.1 hs;have hy:=hh y (by simp);have hh':∀ z∈l,z.hour=x.hour:=fun z hz=>hh z (by simp[hz]);rw[uR];by_cases h1:be y x=true
  rw[if_pos h1];have t1:=(sa hy).1 h1;obtain⟨q1,q2,q3⟩:=Gg x l hs'.2 hh';refine⟨aiM.2 ⟨fun z hz=>?_,q1⟩,fun z hz=>?_,fun r p=>?_⟩;rcases(q2 z hz).2 with h| ⟨w,hw,h⟩;exact LD t1 h;exact LD (hs'.1 w hw) h;rcases aiu.1 hz with rfl|hz;exact⟨hy,.inr ⟨z,by simp,rfl,rfl,rfl⟩⟩;grind
  grind [amt]
  rw[if_neg h1];have t1:¬tlt y x:=fun h=>h1 ((sa hy).2 h);by_cases h2:be x y=true
  have t2:=(sa hy.symm).1 h2;rw[tz,if_pos h2];refine⟨aiM.2 ⟨fun z hz=>?_,hs⟩,fun z hz=>?_,fun r p=>?_⟩;rcases aiu.1 hz with rfl|hz;exact t2;exact C4 t2 (hs'.1 z hz);rcases aiu.1 hz with rfl|hz;exact⟨rfl,.inl ⟨rfl,rfl,rfl⟩⟩;exact⟨hh z hz,.inr ⟨z,hz,rfl,rfl,rfl⟩⟩;grind [amt]
  have t2:¬tlt x y:=fun h=>h2 ((sa hy.symm).2 h);have hk:=JN t2 t1;rw[tz,if_neg h2];refine⟨aiM.2 ⟨fun z hz=>Uc (hs'.1 z hz) hk,hs'.2⟩,fun z hz=>?_,fun r p=>?_⟩;rcases aiu.1 hz with rfl|hz;exact⟨rfl,.inl ⟨rfl,rfl,rfl⟩⟩;exact⟨hh' z hz,.inr ⟨z,by simp[hz],rfl,rfl,rfl⟩⟩;rw[amt,amt];obtain⟨_,k2,k3⟩:=hk;show(if x.right=r/\x.farm=p then x.litres+y.litres else 0)+_=_;omega
theorem Ca:∀ {l:List Claim} {r p:Int},(∀ y∈l,¬ (y.right=r/\y.farm=p))->amt l r p=0
 | [],_,_,_=>rfl
 |x::l,r,p,h=>by rw[amt,if_neg (h x (by simp)),Ca fun y hy=>h y (by simp[hy])];rfl
structure Dock (ρ:Int->Int)(h:Int)(l:List Claim):Prop where
 s:l.Pairwise tlt
 rk:∀ y∈l,y.rank=ρ y.right
 hr:∀ y∈l,y.hour=h
 pos:∀ y∈l,0<y.litres
section
variable {ρ:Int->Int}{h:Int}
theorem Dock.tail {x:Claim}{l:List Claim}(d:Dock ρ h (x::l)):Dock ρ h l:=⟨(aiM.1 d.s).2,fun y hy=>d.rk y (by simp[hy]),fun y hy=>d.hr y (by simp[hy]),fun y hy=>d.pos y (by simp[hy])⟩
theorem NC {x y:Claim}(h1:tlt x y)(hx:x.rank=ρ x.right)(hy:y.rank=ρ y.right):¬ (y.right=x.right/\y.farm=x.farm):=by
 rintro⟨e1,e2⟩;simp_all [tlt,w8]
theorem Dock.head {x:Claim}{l:List Claim}(d:Dock ρ h (x::l)):amt (x::l) x.right x.farm=x.litres:=by
 rw[amt,if_pos ⟨rfl,rfl⟩,Ca fun y hy=>NC ((aiM.1 d.s).1 y hy) (d.rk x (by simp)) (d.rk y (by simp[hy]))];omega
theorem Dock.below {x:Claim}{l:List Claim}(d:Dock ρ h l)(hx:x.rank=ρ x.right)(hl:∀ y∈l,tlt x y):amt l x.right x.farm=0:=Ca fun y hy=>NC (hl y hy) hx (d.rk y hy)
theorem C5:∀ {l m:List Claim},Dock ρ h l->Dock ρ h m->(∀ r p,amt l r p=amt m r p)->l=m
 | [],[],_,_,_=>rfl
 | [],b::m,_,dm,e=>by
  have h1:=e b.right b.farm;rw[dm.head]at h1;have h2:=dm.pos b (by simp);grind [amt]
 |a::l,[],dl,_,e=>by
  have h1:=e a.right a.farm;rw[dl.head]at h1;have h2:=dl.pos a (by simp);grind [amt]
 |a::l,b::m,dl,dm,e=>by
  have ra:=dl.rk a (by simp);have rb:=dm.rk b (by simp);have la:=aiM.1 dl.s;have lb:=aiM.1 dm.s;by_cases h1:tlt a b
  have h2:=e a.right a.farm;rw[dl.head,dm.below ra fun y hy=>by
   rcases aiu.1 hy with rfl|hy;exact h1;exact C4 h1 (lb.1 y hy)]at h2
  have:=dl.pos a (by simp);omega;by_cases h2:tlt b a
  have h3:=e b.right b.farm;rw[dm.head,dl.below rb fun y hy=>by
   rcases aiu.1 hy with rfl|hy;exact h2;exact C4 h2 (la.1 y hy)]at h3
  have:=dm.pos b (by simp);omega;obtain⟨k1,k2,k3⟩:=JN h1 h2;have h3:=e a.right a.farm;have h4:=dm.head;rw[dl.head,k2,k3,h4]at h3;have hab:a=b:=by
   have e1:=(dl.hr a (by simp)).trans (dm.hr b (by simp)).symm;cases a;cases b;simp only at k1 k2 k3 h3 e1;subst k1 k2 k3 h3 e1;rfl
  subst hab;rw[C5 dl.tail dm.tail fun r p=>by have:=e r p;rw[amt,amt]at this;omega]
theorem A7:∀ (l:List Claim) (r p:Int),amt (l.filter fun x=>!ay x) r p=amt l r p
 | [],_,_=>rfl
 |x::l,r,p=>by
  by_cases hx:x.litres=0
  rw[ajh (by unfold ay;simp[hx]),A7 l,amt,hx];split <;>omega
  rw[aji (by unfold ay;simp[hx]),amt,amt,A7 l]
theorem Gh {l m:List Claim}(h:l.Perm m)(r p:Int):amt l r p=amt m r p:=by
 induction h with
 |nil=>rfl|cons x _ ih=>rw[amt,amt,ih]|swap x y l=>grind [amt]|trans _ _ h1 h2=>rw[h1,h2]
end
abbrev pc (b:Int)(l:List Claim):Prop:= ∀ y∈l,0<=y.litres/\y.litres<=b
theorem LF {b c:Int}{x:Claim}{l:List Claim}(hb:0<=b)(hl:pc b l)(hx:0<=x.litres/\x.litres<=c):pc (b+c) (tz x l)/\(tz x l).length<=l.length+1:=by
 cases l with
 |nil=>
  grind [tz]
 |cons y r=>
  have hy:=hl y (by simp);rw[tz];by_cases h:be x y=true
  grind
  rw[if_neg h];refine⟨fun z hz=>?_,by simp⟩;rcases aiu.1 hz with rfl|hz;show 0<=x.litres+y.litres/\x.litres+y.litres<=b+c;omega;grind
theorem El {b c:Int}{x:Claim}(hb:0<=b)(hx:0<=x.litres/\x.litres<=c):∀ {l:List Claim},pc b l->pc (b+c) (g8 l x)/\(g8 l x).length<=l.length+1
 | [],hl=>LF hb hl hx
 |y::l,hl=>by
  rw[uR];split
  obtain⟨q1,q2⟩:=El hb hx (l:=l) fun z hz=>hl z (by simp[hz]);grind
  exact LF hb hl hx
def C6 (y:Claim)(o n:Int):Claim:= { right:=y.right,farm:=o,hour:=y.hour,litres:=n,rank:=y.rank}
def gv (f o:Int):List Claim->Int->List Claim->List Claim->List Claim×List Claim
 | [],_,K,G=>(K,G)
 |y::r,n,K,G=>if y.farm=f then gv f o r (n - bZ n y.litres) (if y.litres - bZ n y.litres > 0 then g8 K (nG y (y.litres - bZ n y.litres))else K) (if bZ n y.litres > 0 then G++[C6 y o (bZ n y.litres)]else G)
  else gv f o r n (if y.litres > 0 then g8 K y else K) G
theorem Ud (l:List Claim)(f o b0:Int)(hb0:0<=b0/\b0<=4398046511104)(hll:l.length<=8192)(hmB:(l.length+2)*40<=di):∀ (R B:List Claim) (n:Int) (K G:List Claim) (k:Nat),l=R.reverse++B->0<=n->n<4611686018427387904->pc b0 R->
  pc ((B.length:Int)*b0) K->K.length<=B.length->G.length<=B.length->
  okI (jA l f o) (mB l f o) (R.length+1) k (n,K,G,(R.length:Int) - 1)/\aq (jA l f o) (R.length+1) k (n,K,G,(R.length:Int) - 1)=.inl (gv f o R n K G)
 | [],B,n,K,G,k,hl,h0,h1,hR,hK,hKl,hGl=>by
  simp_all [okI,aq,jA,mB,gv]
 |y::R,B,n,K,G,k,hl,h0,h1,hR,hK,hKl,hGl=>by
  have hy:=hR y (by simp);have hR':pc b0 R:=fun z hz=>hR z (by simp[hz]);have hlen:l.length=R.length+1+B.length:=by grind
  have hl':l=R.reverse++(y::B):=by rw[hl];simp
  have hi:(((y::R).length:Nat):Int) - 1=(R.length:Int):=by simp
  have g:l.getD (Int.toNat (R.length:Int)) default=y:=by grind
  have e:decide ((R.length:Int)>=0)=true:=decide_eq_true (by omega);have w1:i64.wrap ((R.length:Int) - 1)=(R.length:Int) - 1:=cI (by omega) (by omega);have hm:=qW (a:=n) (b:=y.litres);have hm0:0<=bZ n y.litres:=by omega
  have e4:(if n<y.litres then n else y.litres)=bZ n y.litres:=rfl;have w2:i64.wrap (n - bZ n y.litres)=n - bZ n y.litres:=cI (by omega) (by omega);have w3:i64.wrap (y.litres - bZ n y.litres)=y.litres - bZ n y.litres:=cI (by omega) (by omega);have hBb:0<=(B.length:Int)*b0/\(B.length:Int)*b0<=36028797018963968:=by
   refine⟨ajp (by omega) hb0.1,?_⟩;have h2:(B.length:Int)*b0<=8192*b0:=aiG (by omega) hb0.1;omega
  have hKL:Lit K:=fun z hz=>by grind
  have hB1:(((y::B).length:Nat):Int)*b0=(B.length:Int)*b0+b0:=by rw[ais,Int.natCast_add,Int.add_mul];simp
  have hG:∀ z:Claim,(G++[z]).length*40<=di/\(G++[z]).length<=(y::B).length:=fun z=>by
   grind
  have hKm:pc ((((y::B).length:Nat):Int)*b0) K:=fun z hz=>by grind
  have P:∀ z:Claim,0<=z.litres/\z.litres<=b0->qp K z/\uh K z=g8 K z/\pc ((((y::B).length:Nat):Int)*b0) (g8 K z)/\(g8 K z).length<=(y::B).length:=fun z hz=>by
   obtain⟨p1,p2⟩:=Ub K z (by omega) (by omega) hKL;obtain⟨p3,p4⟩:=El hBb.1 hz hK;grind
  rw[hi];simp only[ais];rw[okI,aq];simp only[jA,mB,e,g,e4,w1,w2,w3,cond_true];have rec_:∀ (n':Int) (K' G':List Claim),0<=n'->n'<=n->pc ((((y::B).length:Nat):Int)*b0) K'->K'.length<=(y::B).length->G'.length<=(y::B).length->okI (jA l f o) (mB l f o) (R.length+1) (k+1) (n',K',G',(R.length:Int) - 1)/\aq (jA l f o) (R.length+1) (k+1) (n',K',G',(R.length:Int) - 1)=.inl (gv f o R n' K' G'):=fun n' K' G' a1 a2 a3 a4 a5=>Ud l f o b0 hb0 hll hmB R (y::B) n' K' G' (k+1) hl' a1 (by omega) hR' a3 a4 a5;have hKs:K.length<=(y::B).length:=by grind
  have hGs:G.length<=(y::B).length:=by grind
  have hidx:(0:Int)<=(R.length:Int)/\(R.length:Int) < (l.length:Int):=⟨by omega,by omega⟩;by_cases hf:y.farm=f
  rw[show(y.farm==f)=true by grind,gv,if_pos hf];simp only[cond_true];by_cases hg:bZ n y.litres > 0
  rw[decide_eq_true hg,if_pos hg];simp only[cond_true];by_cases hr:y.litres - bZ n y.litres > 0
  rw[decide_eq_true hr,if_pos hr];simp only[cond_true];obtain⟨p1,p2,p3,p4⟩:=P (nG y (y.litres - bZ n y.litres)) ⟨by show 0<=y.litres - bZ n y.litres;omega,by show y.litres - bZ n y.litres<=b0;omega⟩;obtain⟨q1,q2⟩:=rec_ (n - bZ n y.litres) (g8 K (nG y (y.litres - bZ n y.litres))) (G++[C6 y o (bZ n y.litres)]) (by omega) (by omega) p3 p4 (hG _).2;rw[<-p2]at q1 q2 |-;exact⟨⟨fun _=>⟨hidx,fun _=>⟨fun _=>⟨(hG _).1,fun _ _=>p1⟩,fun h=>(by cases h)⟩,fun h=>(by cases h)⟩,fun s h=>by cases h;exact q1⟩,q2⟩;rw[decide_eq_false hr,if_neg hr];simp only[cond_false];obtain⟨q1,q2⟩:=rec_ (n - bZ n y.litres) K (G++[C6 y o (bZ n y.litres)]) (by omega) (by omega) hKm hKs (hG _).2;exact⟨⟨fun _=>⟨hidx,fun _=>⟨fun _=>⟨(hG _).1,fun _ h=>(by cases h)⟩,fun h=>(by cases h)⟩,fun h=>(by cases h)⟩,fun s h=>by cases h;exact q1⟩,q2⟩;rw[decide_eq_false hg,if_neg hg];simp only[cond_false];by_cases hr:y.litres - bZ n y.litres > 0
  rw[decide_eq_true hr,if_pos hr];simp only[cond_true];obtain⟨p1,p2,p3,p4⟩:=P (nG y (y.litres - bZ n y.litres)) ⟨by show 0<=y.litres - bZ n y.litres;omega,by show y.litres - bZ n y.litres<=b0;omega⟩;obtain⟨q1,q2⟩:=rec_ (n - bZ n y.litres) (g8 K (nG y (y.litres - bZ n y.litres))) G (by omega) (by omega) p3 p4 hGs;rw[<-p2]at q1 q2 |-;exact⟨⟨fun _=>⟨hidx,fun _=>⟨fun h=>(by cases h),fun _ _=>p1⟩,fun h=>(by cases h)⟩,fun s h=>by cases h;exact q1⟩,q2⟩;grind
  rw[show(y.farm==f)=false by grind,gv,if_neg hf];simp only[cond_false];by_cases hr:y.litres > 0
  rw[decide_eq_true hr,if_pos hr];simp only[cond_true];obtain⟨p1,p2,p3,p4⟩:=P y hy;obtain⟨q1,q2⟩:=rec_ n (g8 K y) G h0 (by omega) p3 p4 hGs;grind
  grind
section
variable {ρ:Int->Int}{h:Int}
theorem Pe {x:Claim}(hx:0<x.litres):∀ {l:List Claim},(∀ y∈l,0<y.litres)->∀ z∈g8 l x,0<z.litres
 | [],_,z,hz=>by
  simp_all [g8,tz]
 |y::l,hl,z,hz=>by
  rw[uR]at hz;have hy:=hl y (by simp);by_cases h1:be y x=true
  rw[if_pos h1]at hz;rcases aiu.1 hz with rfl|hz;exact hy;exact Pe hx (fun w hw=>hl w (by simp[hw])) z hz;rw[if_neg h1,tz]at hz;by_cases h2:be x y=true
  grind
  rw[if_neg h2]at hz;rcases aiu.1 hz with rfl|hz;show 0<x.litres+y.litres;omega;grind
theorem Dock.put {l:List Claim}{x:Claim}(d:Dock ρ h l)(hx:0<x.litres)(hr:x.rank=ρ x.right)(hh:x.hour=h):Dock ρ h (g8 l x)/\∀ r p,amt (g8 l x) r p=amt l r p+if x.right=r/\x.farm=p then x.litres else 0:=by
 obtain⟨q1,q2,q3⟩:=Gg x l d.s fun y hy=>(d.hr y hy).trans hh.symm;refine⟨⟨q1,fun z hz=>?_,fun z hz=>(q2 z hz).1.trans hh,Pe hx d.pos⟩,q3⟩;rcases(q2 z hz).2 with⟨k1,k2,_⟩ | ⟨w,hw,k1,k2,_⟩;grind
 rw[k1,k2];exact d.rk w hw
structure Gift (ρ:Int->Int)(h o:Int)(l:List Claim):Prop where
 rk:∀ y∈l,y.rank=ρ y.right
 hr:∀ y∈l,y.hour=h
 pos:∀ y∈l,0<y.litres
 fm:∀ y∈l,y.farm=o
theorem JO {f o:Int}:∀ (R:List Claim) (n:Int) (K G:List Claim),0<=n->(∀ y∈R,y.rank=ρ y.right/\y.hour=h/\0<=y.litres)->Dock ρ h K->Gift ρ h o G->
  Dock ρ h (gv f o R n K G).1/\Gift ρ h o (gv f o R n K G).2/\∀ r p,amt (gv f o R n K G).1 r p+(if p=f then amt (gv f o R n K G).2 r o else 0)=amt K r p+amt R r p+(if p=f then amt G r o else 0)
 | [],n,K,G,h0,hR,dK,dG=>⟨dK,dG,fun r p=>by grind [gv,amt]⟩
 |y::R,n,K,G,h0,hR,dK,dG=>by
  have hy:=hR y (by simp);have hR':∀ z∈R,z.rank=ρ z.right/\z.hour=h/\0<=z.litres:=fun z hz=>hR z (by simp[hz]);have hm:=qW (a:=n) (b:=y.litres);have hm0:0<=bZ n y.litres:=by omega
  by_cases hf:y.farm=f
  rw[gv,if_pos hf];have k1:Dock ρ h (if y.litres - bZ n y.litres > 0 then g8 K (nG y (y.litres - bZ n y.litres))else K)/\∀ r p,amt (if y.litres - bZ n y.litres > 0 then g8 K (nG y (y.litres - bZ n y.litres))else K) r p=amt K r p+if y.right=r/\y.farm=p then y.litres - bZ n y.litres else 0:=by
   by_cases hr:y.litres - bZ n y.litres > 0
   rw[if_pos hr];exact dK.put (x:=nG y (y.litres - bZ n y.litres)) hr hy.1 hy.2.1;grind
  have k2:Gift ρ h o (if bZ n y.litres > 0 then G++[C6 y o (bZ n y.litres)]else G)/\∀ r,amt (if bZ n y.litres > 0 then G++[C6 y o (bZ n y.litres)]else G) r o=amt G r o+if y.right=r then bZ n y.litres else 0:=by
   by_cases hr:bZ n y.litres > 0
   rw[if_pos hr];refine⟨⟨fun z hz=>?_,fun z hz=>?_,fun z hz=>?_,fun z hz=>?_⟩,fun r=>?_⟩;rcases aix.1 hz with hz|hz;exact dG.rk z hz;rw[aiT.1 hz];exact hy.1;rcases aix.1 hz with hz|hz;exact dG.hr z hz;rw[aiT.1 hz];exact hy.2.1;rcases aix.1 hz with hz|hz;exact dG.pos z hz;rw[aiT.1 hz];exact hr;rcases aix.1 hz with hz|hz;exact dG.fm z hz;rw[aiT.1 hz];rfl;rw[Ek,amt,amt];show _+((if y.right=r/\o=o then bZ n y.litres else 0)+0)=_;simp;grind
  obtain⟨q1,q2,q3⟩:=JO R (n - bZ n y.litres) _ _ (by omega) hR' k1.1 k2.1;refine⟨q1,q2,fun r p=>?_⟩;rw[q3,k1.2,k2.2,amt];omega;rw[gv,if_neg hf];have k1:Dock ρ h (if y.litres > 0 then g8 K y else K)/\∀ r p,amt (if y.litres > 0 then g8 K y else K) r p=amt K r p+if y.right=r/\y.farm=p then y.litres else 0:=by
   by_cases hr:y.litres > 0
   rw[if_pos hr];exact dK.put hr hy.1 hy.2.1;grind
  obtain⟨q1,q2,q3⟩:=JO R n _ G h0 hR' k1.1 dG;refine⟨q1,q2,fun r p=>?_⟩;grind [amt]
theorem JP {o:Int}:∀ (G K:List Claim),Dock ρ h K->Gift ρ h o G->Dock ρ h (G.foldl g8 K)/\∀ r p,amt (G.foldl g8 K) r p=amt K r p+amt G r p
 | [],K,dK,_=>⟨dK,fun r p=>by simp[amt]⟩
 |x::G,K,dK,dG=>by
  obtain⟨q1,q2⟩:=dK.put (dG.pos x (by simp)) (dG.rk x (by simp)) (dG.hr x (by simp));obtain⟨p1,p2⟩:=JP G (g8 K x) q1 ⟨fun y hy=>dG.rk y (by simp[hy]),fun y hy=>dG.hr y (by simp[hy]),fun y hy=>dG.pos y (by simp[hy]),fun y hy=>dG.fm y (by simp[hy])⟩;grind [amt]
end
theorem aaK (c b:Int):(c+1)*b=c*b+b:=by grind
theorem ND {f o b0:Int}(hb0:0<=b0):∀ (R:List Claim) (n:Int) (K G:List Claim) (c:Nat),0<=n->pc b0 R->pc ((c:Int)*b0) K->pc b0 G->K.length<=c->G.length<=c->
  pc (((c+R.length:Nat):Int)*b0) (gv f o R n K G).1/\pc b0 (gv f o R n K G).2/\(gv f o R n K G).1.length<=c+R.length/\(gv f o R n K G).2.length<=c+R.length
 | [],n,K,G,c,h0,hR,hK,hG,hkl,hgl=>⟨hK,hG,hkl,hgl⟩
 |y::R,n,K,G,c,h0,hR,hK,hG,hkl,hgl=>by
  have hy:=hR y (by simp);have hR':pc b0 R:=fun z hz=>hR z (by simp[hz]);have hm:=qW (a:=n) (b:=y.litres);have hcb:0<=(c:Int)*b0:=ajp (by omega) hb0;have e1:((c+1:Nat):Int)*b0=(c:Int)*b0+b0:=aaK c b0;have e2:c+1+R.length=c+(y::R).length:=by grind
  have hK1:pc (((c+1:Nat):Int)*b0) K:=fun z hz=>by grind
  have P:∀ z:Claim,0<=z.litres/\z.litres<=b0->pc (((c+1:Nat):Int)*b0) (g8 K z)/\(g8 K z).length<=c+1:=fun z hz=>by
   obtain⟨p3,p4⟩:=El hcb hz hK;grind
  by_cases hf:y.farm=f
  rw[gv,if_pos hf,<-e2];have k1:pc (((c+1:Nat):Int)*b0) (if y.litres - bZ n y.litres > 0 then g8 K (nG y (y.litres - bZ n y.litres))else K)/\(if y.litres - bZ n y.litres > 0 then g8 K (nG y (y.litres - bZ n y.litres))else K).length<=c+1:=by
   by_cases hr:y.litres - bZ n y.litres > 0
   rw[if_pos hr];exact P (nG y (y.litres - bZ n y.litres)) ⟨by show 0<=y.litres - bZ n y.litres;omega,by show y.litres - bZ n y.litres<=b0;omega⟩;grind
  have k2:pc b0 (if bZ n y.litres > 0 then G++[C6 y o (bZ n y.litres)]else G)/\(if bZ n y.litres > 0 then G++[C6 y o (bZ n y.litres)]else G).length<=c+1:=by
   by_cases hr:bZ n y.litres > 0
   rw[if_pos hr];refine⟨fun z hz=>?_,by grind⟩;rcases aix.1 hz with hz|hz;exact hG z hz;rw[aiT.1 hz];show 0<=bZ n y.litres/\bZ n y.litres<=b0;omega;grind
  exact ND hb0 R (n - bZ n y.litres) _ _ (c+1) (by omega) hR' k1.1 k2.1 k1.2 k2.2;rw[gv,if_neg hf,<-e2];have k1:pc (((c+1:Nat):Int)*b0) (if y.litres > 0 then g8 K y else K)/\(if y.litres > 0 then g8 K y else K).length<=c+1:=by
   grind
  exact ND hb0 R n _ G (c+1) h0 hR' k1.1 hG k1.2 (by omega)
theorem LG (K0:List Claim){b0:Int}(hb0:0<=b0/\b0<=4398046511104)(G:List Claim):∀ (R A K:List Claim) (k c:Nat),G=A++R->A.length=k->pc b0 R->pc ((c:Int)*b0) K->K.length<=c->c+R.length<=32768->
  okI (py (K0,G)) (tx (K0,G)) R.length k K/\aq (py (K0,G)) R.length k K=.inr (R.foldl g8 K)
 | [],A,K,k,c,hG,hk,hR,hK,hKl,hc=>⟨trivial,rfl⟩
 |y::R,A,K,k,c,hG,hk,hR,hK,hKl,hc=>by
  have hy:=hR y (by simp);simp only[ais]at hc;have hm:(K.length+1)*40<=di:=by unfold di;omega
  have g:G.getD k default=y:=by grind
  have hcb:0<=(c:Int)*b0/\(c:Int)*b0<=144115188075855872:=by
   refine⟨ajp (by omega) hb0.1,?_⟩;have h2:(c:Int)*b0<=32768*b0:=aiG (by omega) hb0.1;omega
  have e1:((c+1:Nat):Int)*b0=(c:Int)*b0+b0:=aaK c b0;obtain⟨p1,p2⟩:=Ub K y hm (by omega) (fun z hz=>by grind);obtain⟨p3,p4⟩:=El hcb.1 hy hK;obtain⟨q1,q2⟩:=LG K0 hb0 G R (A++[y]) (g8 K y) (k+1) (c+1) (by rw[hG];simp) (by simp[hk]) (fun z hz=>hR z (by simp[hz])) (by grind) (by omega) (by omega);grind [okI,aq,py,tx]
theorem vX (l:List Claim)(f o n:Int){b0:Int}(hb0:0<=b0/\b0<=4398046511104)(hll:l.length<=8192)(h0:0<=n)(h1:n<4611686018427387904)(hl:pc b0 l):
  tZ l f o n/\kE l f o n=(gv f o l.reverse n [] []).2.foldl g8 (gv f o l.reverse n [] []).1:=by
 have hr:pc b0 l.reverse:=fun y hy=>hl y (by grind);obtain⟨q1,q2⟩:=Ud l f o b0 hb0 hll (by unfold di;omega) l.reverse [] n [] [] 0 (by simp) h0 h1 hr (fun y hy=>by cases hy) (by simp) (by simp);obtain⟨g1,g2,g3,g4⟩:=ND (f:=f) (o:=o) hb0.1 l.reverse n [] [] 0 h0 hr (fun y hy=>by cases hy) (fun y hy=>by cases hy) (by simp) (by simp);simp only[aj5,ai2]at q1 q2 g1 g3 g4;obtain⟨r1,r2⟩:=LG (gv f o l.reverse n [] []).1 hb0 (gv f o l.reverse n [] []).2 (gv f o l.reverse n [] []).2 [] (gv f o l.reverse n [] []).1 0 l.length rfl rfl g2 g1 g3 (by omega);have w:i64.wrap ((l.length:Int) - 1)=(l.length:Int) - 1:=cI (by omega) (by omega);grind [tZ,kE]
abbrev LH (l:List Claim):Prop:=l.Pairwise fun a b=>¬ (a.right=b.right/\a.farm=b.farm)
theorem Pf:∀ (S:List Claim) (i:Nat) (z:Claim),i<S.length->z.right=(S.getD i default).right->z.farm=(S.getD i default).farm->∀ r p,amt (S.set i z) r p=amt S r p+if z.right=r/\z.farm=p then z.litres - (S.getD i default).litres else 0
 | [],i,z,h,_,_,_,_=>absurd h (aju _)
 |x::S,0,z,_,h1,h2,r,p=>by
  grind [amt]
 |x::S,i+1,z,h,h1,h2,r,p=>by
  have e:(x::S).getD (i+1) default=S.getD i default:=rfl;rw[e]at h1 h2 |-;rw[List.set_cons_succ,amt,amt,Pf S i z (by simpa using h) h1 h2 r p];omega
theorem Ue {S:List Claim}{i:Nat}{z:Claim}(hi:i<S.length)(h1:z.right=(S.getD i default).right)(h2:z.farm=(S.getD i default).farm)(hd:LH S):LH (S.set i z):=by
 rw[nq _ _ hi]at h1 h2;unfold LH at hd |-;rw[aiH]at hd |-;grind
theorem Uf {S:List Claim}{z:Claim}(hd:LH S)(h:∀ y∈S,¬ (y.right=z.right/\y.farm=z.farm)):LH (S++[z]):=
 ajq.2 ⟨hd,akh _ _,fun a ha b hb=>by grind⟩
def gn (f:Int):List Claim->Int->Int->Int
 | [],_,_=>0|y::R,n,r=>if y.farm=f then(if y.right=r then bZ n y.litres else 0)+gn f R (n - bZ n y.litres) r else gn f R n r
theorem Ug {f o:Int}:∀ (R:List Claim) (n:Int) (K G:List Claim),0<=n->(∀ y∈R,0<=y.litres)->∀ r,amt (gv f o R n K G).2 r o=amt G r o+gn f R n r
 | [],n,K,G,_,_,r=>by simp[gv,gn]
 |y::R,n,K,G,h0,hR,r=>by
  have hy:=hR y (by simp);have hR':∀ z∈R,0<=z.litres:=fun z hz=>hR z (by simp[hz]);have hm:=qW (a:=n) (b:=y.litres);by_cases hf:y.farm=f
  rw[gv,if_pos hf,gn,if_pos hf,Ug R _ _ _ (by omega) hR'];by_cases hr:bZ n y.litres > 0
  rw[if_pos hr,Ek,amt,amt];show _+((if y.right=r/\o=o then bZ n y.litres else 0)+0)+_=_;simp only[and_true];omega;rw[if_neg hr];split <;>omega;rw[gv,if_neg hf,gn,if_neg hf,Ug R _ _ _ h0 hR']
theorem Q7 {x:Claim}{l:List Claim}(h:∀ y∈l,y.hour=x.hour)(hk:∀ y∈l,¬Hc x y)(hn:∀ y∈l.head?,¬tlt y x):(tz x l).Perm (x::l):=by
 cases l with
 |nil=>rfl
 |cons y r=>
  rw[tz];by_cases h1:be x y=true
  grind
  exact absurd (JN (fun e=>h1 ((sa (h y (by simp)).symm).2 e)) (hn y (by simp))) (hk y (by simp))
theorem LI {x:Claim}:∀ {l:List Claim},(∀ y∈l,y.hour=x.hour)->(∀ y∈l,¬Hc x y)->(g8 l x).Perm (x::l)
 | [],_,_=>akT _
 |y::l,h,hk=>by
  rw[uR];by_cases h1:be y x=true
  ·rw[if_pos h1];exact((LI (fun z hz=>h z (by simp[hz])) fun z hz=>hk z (by simp[hz])).cons y).trans (List.Perm.swap x y l)
  rw[if_neg h1];refine Q7 h hk fun z hz=>?_;have:z=y:=by grind
  subst this;exact fun e=>h1 ((sa (h z (by simp))).2 e)
theorem LJ {α:Type}(S:List α)(d z:α){i:Nat}(h:i<S.length):(S.set i z).getD i d=z:=by
 grind
structure Pile (ρ:Int->Int)(h b:Int)(S:List Claim):Prop where
 d:LH S
 rk:∀ y∈S,y.rank=ρ y.right
 hr:∀ y∈S,y.hour=h
 lit:pc b S
section
variable {ρ:Int->Int}{h b b0:Int}
theorem Pile.set {S:List Claim}{i:Nat}{v:Int}(p:Pile ρ h b S)(hi:i<S.length)(hb:b<=b0)(hv:0<=v/\v<=b0):Pile ρ h b0 (S.set i (nG (S.getD i default) v))/\∀ r q,amt (S.set i (nG (S.getD i default) v)) r q=amt S r q+if(S.getD i default).right=r/\(S.getD i default).farm=q then v - (S.getD i default).litres else 0:=by
 have hm:S.getD i default∈S:=xd S default hi;refine⟨⟨Ue hi rfl rfl p.d,fun y hy=>?_,fun y hy=>?_,fun y hy=>?_⟩,fun r q=>Pf S i (nG (S.getD i default) v) hi rfl rfl r q⟩;rcases aj4 hy with hy|rfl;exact p.rk y hy;exact p.rk (S.getD i default) hm;rcases aj4 hy with hy|rfl;exact p.hr y hy;exact p.hr (S.getD i default) hm;rcases aj4 hy with hy|rfl;have:=p.lit y hy;omega;exact hv
theorem Pile.app {S:List Claim}{z:Claim}(p:Pile ρ h b S)(hb:b<=b0)(h1:z.rank=ρ z.right)(h2:z.hour=h)(h3:0<=z.litres/\z.litres<=b0)(hn:∀ y∈S,¬ (y.right=z.right/\y.farm=z.farm)):Pile ρ h b0 (S++[z])/\∀ r q,amt (S++[z]) r q=amt S r q+if z.right=r/\z.farm=q then z.litres else 0:=by
 refine⟨⟨Uf p.d hn,fun y hy=>?_,fun y hy=>?_,fun y hy=>?_⟩,fun r q=>by rw[Ek,amt,amt];omega⟩;rcases aix.1 hy with hy|hy;exact p.rk y hy;grind
 rcases aix.1 hy with hy|hy;exact p.hr y hy;grind
 rcases aix.1 hy with hy|hy;have:=p.lit y hy;omega;grind
theorem Ii:∀ {S:List Claim},Pile ρ h b S->(∀ y∈S,0<y.litres)->∃ m,S.Perm m/\Dock ρ h m
 | [],_,_=>⟨[],akT _,⟨List.Pairwise.nil,(fun y hy=>by cases hy),(fun y hy=>by cases hy),(fun y hy=>by cases hy)⟩⟩
 |x::S,p,hp=>by
  have hd:=aiM.1 p.d;obtain⟨m,q1,q2⟩:=Ii (S:=S) ⟨hd.2,fun y hy=>p.rk y (by simp[hy]),fun y hy=>p.hr y (by simp[hy]),fun y hy=>p.lit y (by simp[hy])⟩ fun y hy=>hp y (by simp[hy]);refine⟨g8 m x,((q1.cons x).trans (LI (fun y hy=>?_) fun y hy e=>?_).symm),(q2.put (hp x (by simp)) (p.rk x (by simp)) (p.hr x (by simp))).1⟩;exact(q2.hr y hy).trans (p.hr x (by simp)).symm;exact hd.1 y (q1.symm.subset hy) ⟨e.2.1,e.2.2⟩
theorem Q8 {S:List Claim}(p:Pile ρ h b S)(hl:S.length<2 ^ 46):c5 S/\Dock ρ h (dz S)/\∀ r q,amt (dz S) r q=amt S r q:=by
 have hs:(S.filter fun x=>!ay x).Sublist S:=ajw;obtain⟨m,q1,q2⟩:=Ii (S:=S.filter fun x=>!ay x) ⟨p.d.sublist hs,fun y hy=>p.rk y (hs.subset hy),fun y hy=>p.hr y (hs.subset hy),fun y hy=>p.lit y (hs.subset hy)⟩ fun y hy=>by
  have h1:=p.lit y (hs.subset hy);grind [ay]
 obtain⟨t1,t2⟩:=JM hl q1 q2.s;rw[t2];exact⟨t1,q2,fun r q=>by rw[<-Gh q1,A7]⟩
end
section
variable {ρ:Int->Int}{h b b0:Int}
theorem NE (S1:List Claim)(x:Judgement)(i:Nat)(hi:i<S1.length):
  b8 S1 x S1 (i:Int)/\
  ((aJ S1 x S1 (i:Int)= -1/\∀ y∈S1,¬ (y.right=(S1.getD i default).right/\y.farm=x.other))\/
   ∃ j,j<S1.length/\aJ S1 x S1 (i:Int)=(j:Int)/\(S1.getD j default).right=(S1.getD i default).right/\(S1.getD j default).farm=x.other):=by
 have eP:∀ y:Claim,gB y x S1 (i:Int)=(y.farm==x.other&&y.right==(S1.getD i default).right):=fun y=>by
  rfl
 refine⟨fun _=>kU _ _ _ fun j s _ _=>?_,?_⟩;grind [bO,ir]
 unfold aJ;rcases B8 (step:=bX S1 x S1 (i:Int)) S1 default (fun y=>gB y x S1 (i:Int)) (fun k _=>rfl)with⟨e,hN⟩ | ⟨K,z,T,h1,e,h2,h3⟩ <;>grind
theorem Q9 (x:Judgement)(l:List Claim){S:List Claim}{i k:Nat}{n:Int}(hb:0<=b/\b+b0<=1152921504606846976)(hb0:0<=b0)(p:Pile ρ h b S)(hi:i<S.length)(hf:(S.getD i default).farm=x.farm)(hxo:x.other≠x.farm)(hn:0<=n/\n<4611686018427387904)(hy:(S.getD i default).litres<=b0)(hL:S.length<=32768):
  cn x l k ((i:Int),S,n)/\∃ S2,ci x l k ((i:Int),S,n)=.inr ((i:Int) - 1,S2,n - bZ n (S.getD i default).litres)/\Pile ρ h (b+b0) S2/\S.length<=S2.length/\S2.length<=S.length+1/\
   (∀ j,j<i->(S2.getD j default).right=(S.getD j default).right/\(S2.getD j default).farm=(S.getD j default).farm/\((S.getD j default).farm=x.farm->(S2.getD j default).litres=(S.getD j default).litres))/\
   ∀ r q,amt S2 r q=amt S r q+(if(S.getD i default).right=r/\q=x.other then bZ n (S.getD i default).litres else 0) - (if(S.getD i default).right=r/\q=x.farm then bZ n (S.getD i default).litres else 0):=by
 have hm:=qW (a:=n) (b:=(S.getD i default).litres);have hY:S.getD i default∈S:=xd S default hi;have hYl:=p.lit _ hY;generalize hg:bZ n (S.getD i default).litres=g at *;have hg0:0<=g/\g<=b0:=by omega
 generalize hS1:S.set i (nG (S.getD i default) ((S.getD i default).litres - g))=S1;obtain⟨p1,a1⟩:=p.set (b0:=b) hi (ajc _) (v:=(S.getD i default).litres - g) (by omega);rw[hS1]at p1 a1;have hl1:S1.length=S.length:=by grind
 have g1:S1.getD i default=nG (S.getD i default) ((S.getD i default).litres - g):=by grind
 obtain⟨x1,x2⟩:=NE S1 x i (by omega);generalize hI:aJ S1 x S1 (i:Int)=I at x2;have e:decide ((i:Int)>=0)=true:=decide_eq_true (by omega);have ef:((S.getD i default).farm !=x.farm)=false:=by rw[hf];simp
 have w1:i64.wrap ((i:Int) - 1)=(i:Int) - 1:=cI (by omega) (by omega);have w2:i64.wrap (n - g)=n - g:=cI (by omega) (by omega);have w3:i64.wrap ((S.getD i default).litres - g)=(S.getD i default).litres - g:=cI (by omega) (by omega);have e4:(if n< (S.getD i default).litres then n else(S.getD i default).litres)=g:=hg;have hSS:S.set i ({ right:=(S.getD i default).right,farm:=(S.getD i default).farm,hour:=(S.getD i default).hour,litres:=(S.getD i default).litres - g,rank:=(S.getD i default).rank}:Claim)=S1:=hS1;have hother:∀ j,j<i->S1.getD j default=S.getD j default:=fun j hj=>by grind
 unfold cn ci;simp only[e,air,ef,e4,w1,w2,w3,hSS,hI,cond_true,cond_false];rcases x2 with⟨hI1,hN⟩ | ⟨j,hj,hI2,hjr,hjf⟩;have hd:decide (I>=0)=false:=decide_eq_false (by omega);simp only[hd,cond_false];obtain⟨p2,a2⟩:=p1.app (b0:=b+b0) (z:=C6 (S1.getD i default) x.other g) (by omega) (p1.rk (S1.getD i default) (xd S1 default (by omega))) (p1.hr (S1.getD i default) (xd S1 default (by omega))) (by show 0<=g/\g<=b+b0;omega) fun y hy'=>hN y hy';grind [C6,di]
 have hd:decide (I>=0)=true:=decide_eq_true (by omega);have hz:=p1.lit _ (xd S1 default hj);have w4:i64.wrap ((S1.getD j default).litres+g)=(S1.getD j default).litres+g:=cI (by omega) (by omega);subst hI2;simp only[hd,cond_true,air,w4];obtain⟨p2,a2⟩:=p1.set (b0:=b+b0) hj (by omega) (v:=(S1.getD j default).litres+g) (by omega);refine⟨fun _=>⟨⟨by omega,by omega⟩,fun _=>⟨⟨by omega,by omega⟩,⟨by omega,by omega⟩,⟨by omega,by omega⟩,x1,fun _=>⟨⟨by omega,by omega⟩,by omega,by omega⟩,fun h=>(by cases h)⟩⟩,S1.set j (nG (S1.getD j default) ((S1.getD j default).litres+g)),rfl,p2,?_,?_,fun q hq=>?_,fun r q=>?_⟩;grind
 grind
 by_cases hjq:j=q
 subst hjq;rw[LJ _ _ _ hj,<-hother j hq];exact⟨rfl,rfl,fun e=>absurd (hjf.symm.trans e) hxo⟩;grind
 grind
end
section
variable {ρ:Int->Int}{h b0:Int}
theorem Gi (x:Judgement)(l:List Claim)(hxo:x.other≠x.farm)(hb0:0<=b0/\b0<=4398046511104):∀ (R:List Claim) (c:Nat) (S:List Claim) (n:Int) (k:Nat),R.length<=S.length->
  (∀ j,j<R.length->(S.getD j default).right=(R.reverse.getD j default).right/\(S.getD j default).farm=(R.reverse.getD j default).farm/\((R.reverse.getD j default).farm=x.farm->(S.getD j default).litres=(R.reverse.getD j default).litres))->
  Pile ρ h ((c:Int)*b0) S->0<=n->n<4611686018427387904->pc b0 R->c+R.length<=16384->S.length+R.length<=32768->
  okI (ci x l) (cn x l) (R.length+1) k ((R.length:Int) - 1,S,n)/\∃ S',aq (ci x l) (R.length+1) k ((R.length:Int) - 1,S,n)=.inl S'/\Pile ρ h (((c+R.length:Nat):Int)*b0) S'/\S'.length<=S.length+R.length/\
   ∀ r q,amt S' r q=amt S r q+(if q=x.other then gn x.farm R n r else 0) - (if q=x.farm then gn x.farm R n r else 0)
 | [],c,S,n,k,_,_,p,h0,h1,_,_,_=>by
  simp_all [okI,aq,ci,cn,gn]
 |y::R,c,S,n,k,hl,hS,p,h0,h1,hR,hc,hL=>by
  simp only[ais]at hl hc hL;have hy:=hR y (by simp);have hR':pc b0 R:=fun z hz=>hR z (by simp[hz]);have hlast:(y::R).reverse.getD R.length default=y:=by grind
  have hprev:∀ j,j<R.length->(y::R).reverse.getD j default=R.reverse.getD j default:=fun j hj=>by
   grind
  obtain⟨s1,s2,s3⟩:=hS R.length (by simp);rw[hlast]at s1 s2 s3;have hi:(((y::R).length:Nat):Int) - 1=(R.length:Int):=by simp
  have e1:((c+1:Nat):Int)*b0=(c:Int)*b0+b0:=aaK c b0;have hcb:0<=(c:Int)*b0/\(c:Int)*b0<=72057594037927936:=by
   refine⟨ajp (by omega) hb0.1,?_⟩;have h2:(c:Int)*b0<=16384*b0:=aiG (by omega) hb0.1;omega
  rw[hi];simp only[ais];rw[okI,aq,show c+(R.length+1)=c+1+R.length by omega];by_cases hf:y.farm=x.farm
  obtain⟨t1,S2,t2,t3,t4,t5,t6,t7⟩:=Q9 (k:=k) x l (i:=R.length) (n:=n) ⟨hcb.1,by omega⟩ hb0.1 p (by omega) (by rw[s2,hf]) hxo ⟨h0,h1⟩ (by omega) (by omega);have hm:=qW (a:=n) (b:=(S.getD R.length default).litres);have hyl:=s3 hf;rw[hyl]at t2 t7 hm;obtain⟨q1,S',q2,q3,q4,q5⟩:=Gi x l hxo hb0 R (c+1) S2 (n - bZ n y.litres) (k+1) (by omega) (fun j hj=>by
   grind) (by grind) (by omega) (by omega) hR' (by omega) (by omega)
  rw[t2];refine⟨⟨t1,fun s hs=>by grind⟩,S',q2,q3,by omega,fun r q=>?_⟩;rw[q5,t7,gn,if_pos hf,s1];omega;have e:decide ((R.length:Int)>=0)=true:=decide_eq_true (by omega);have ef:((S.getD R.length default).farm !=x.farm)=true:=by grind
  have w1:i64.wrap ((R.length:Int) - 1)=(R.length:Int) - 1:=cI (by omega) (by omega);have hp2:Pile ρ h (((c+1:Nat):Int)*b0) S:=⟨p.d,p.rk,p.hr,fun z hz=>by rw[e1];have:=p.lit z hz;omega⟩;obtain⟨q1,S',q2,q3,q4,q5⟩:=Gi x l hxo hb0 R (c+1) S n (k+1) (by omega) (fun j hj=>by
   grind) hp2 h0 h1 hR' (by omega) (by omega)
  simp only[ci,cn,e,air,ef,w1,cond_true];refine⟨⟨fun _=>⟨⟨by omega,by omega⟩,fun h=>(by cases h)⟩,fun s hs=>by grind⟩,S',q2,q3,by omega,fun r q=>?_⟩;rw[q5,gn,if_neg hf]
end
section
variable {ρ:Int->Int}{h b0:Int}
theorem Dock.pile {l:List Claim}(d:Dock ρ h l)(hb:pc b0 l):Pile ρ h b0 l:=by
 refine⟨?_,d.rk,d.hr,hb⟩;unfold LH;rw[aiH];intro i j hi hj hij e;have:=aiH.1 d.s i j hi hj hij;exact NC this (d.rk _ (ai_ hi)) (d.rk _ (ai_ hj)) ⟨e.1.symm,e.2.symm⟩
theorem Pg (x:Judgement)(l:List Claim)(hxo:x.other≠x.farm)(hb0:0<=b0/\b0<=4398046511104)(d:Dock ρ h l)(hb:pc b0 l)(hl:l.length<=8192)(h0:0<=x.n)(h1:x.n<4611686018427387904):
  (dc x l/\c5 (cC x l)/\tZ l x.farm x.other x.n)/\dz (cC x l)=kE l x.farm x.other x.n/\Dock ρ h (kE l x.farm x.other x.n):=by
 have hbr:pc b0 l.reverse:=fun y hy=>hb y (by grind);have hp:Pile ρ h (((1:Nat):Int)*b0) l:=by
  have:=d.pile hb;grind
 obtain⟨q1,S',q2,q3,q4,q5⟩:=Gi x l hxo hb0 l.reverse 1 l x.n 0 (by simp) (fun j _=>by grind) hp h0 h1 hbr (by grind) (by grind);rw[aj5]at q1 q2 q4;have w:i64.wrap ((l.length:Int) - 1)=(l.length:Int) - 1:=cI (by omega) (by omega);have eG:cC x l=S':=by grind [cC]
 have gp:dc x l:=by
  grind [dc]
 obtain⟨t1,t2,t3⟩:=Q8 q3 (by omega);obtain⟨r1,r2⟩:=vX l x.farm x.other x.n hb0 hl h0 h1 hb;have dn:Dock ρ h ([]:List Claim):=⟨List.Pairwise.nil,(fun y hy=>by cases hy),(fun y hy=>by cases hy),(fun y hy=>by cases hy)⟩;have gnil:Gift ρ h x.other ([]:List Claim):=⟨(fun y hy=>by cases hy),(fun y hy=>by cases hy),(fun y hy=>by cases hy),(fun y hy=>by cases hy)⟩;obtain⟨v1,v2,v3⟩:=JO (f:=x.farm) (o:=x.other) l.reverse x.n [] [] h0 (fun y hy=>by
  have hy':y∈l:=by grind
  exact⟨d.rk y hy',d.hr y hy',(hb y hy').1⟩) dn gnil
 have v4:=Ug (f:=x.farm) (o:=x.other) l.reverse x.n [] [] h0 fun y hy=>(hbr y hy).1;obtain⟨z1,z2⟩:=JP _ _ v1 v2;rw[eG,r2];refine⟨⟨gp,t1,r1⟩,C5 t2 z1 fun r q=>?_,z1⟩;rw[t3,q5,z2];have a1:=v3 r q;rw[v4,Gh l.reverse_perm]at a1;have a2:amt (gv x.farm x.other l.reverse x.n [] []).2 r q=if q=x.other then gn x.farm l.reverse x.n r else 0:=by
  by_cases hq:q=x.other
  simp_all [amt];rw[if_neg hq];exact Ca fun y hy e=>hq (by rw[<-e.2,v2.fm y hy])
 rw[a2];simp only[amt]at a1;omega
end
def doJ (x:Judgement)(l:List Claim):List Claim:=if x.kind=1 then fA l x.farm 0 else if x.kind=2 then fA l x.farm x.n else if x.kind=3 then kE l x.farm x.other x.n else l
section
variable {ρ:Int->Int}{h b0:Int}
theorem Dock.tidy_id {l:List Claim}(d:Dock ρ h l)(hl:l.length<2 ^ 46):c5 l/\dz l=l:=by
 have e:(l.filter fun x=>!ay x)=l:=ajJ.2 fun y hy=>by
  have:=d.pos y hy;grind [ay]
 exact JM hl (by rw[e]) d.s
theorem zj (f:Int):∀ (l:List Claim) (n:Int),∀ z∈p8 f n l,∃ y∈l,z.rank=y.rank/\z.right=y.right/\z.hour=y.hour
 | [],_,z,hz=>by cases hz
 |x::r,n,z,hz=>by
  unfold p8 at hz;by_cases hf:x.farm=f
  rw[if_pos hf]at hz;rcases aiu.1 hz with rfl|hz;exact⟨x,by simp,rfl,rfl,rfl⟩;obtain⟨y,hy,e⟩:=zj f r _ z hz;grind
  rw[if_neg hf]at hz;rcases aiu.1 hz with rfl|hz;grind
  obtain⟨y,hy,e⟩:=zj f r _ z hz;grind
theorem Gj {x:Judgement}{l:List Claim}(d:Dock ρ h l)(h0:0<=x.n)(h1:x.n<4611686018427387904)(hl:Lit l)(hb:l.length*40<=di):Dock ρ h (fA l x.farm x.n):=by
 obtain⟨_,_,e⟩:=uQ x l h0 h1 hl d.s hb;have hs:((p8 x.farm x.n l).filter fun y=>!ay y).Sublist (p8 x.farm x.n l):=ajw;have hL:=B9 x.farm l x.n h0 hl;rw[e];refine⟨(LB (B_ x.farm l x.n) d.s).sublist hs,fun z hz=>?_,fun z hz=>?_,fun z hz=>?_⟩;obtain⟨y,hy,e1,e2,_⟩:=zj x.farm l x.n z (hs.subset hz);rw[e1,e2];exact d.rk y hy;obtain⟨y,hy,_,_,e3⟩:=zj x.farm l x.n z (hs.subset hz);rw[e3];exact d.hr y hy;grind [ay]
theorem Q_ {dd:District}{x:Judgement}(hx:JOk dd x)(h0:x.of_=0){l:List Claim}(hb0:0<=b0/\b0<=4398046511104)(d:Dock ρ h l)(hb:pc b0 l)(hl:l.length<=8192)(a2:List Judgement)(s_0:List Claim×List Claim):
  bb a2 s_0 x l=.inr (doJ x l)/\cL a2 s_0 x l/\Dock ρ h (doJ x l):=by
 have hL:Lit l:=fun y hy=>by grind
 have hmB:l.length*40<=di:=by unfold di;omega
 have hk:=hx.kind h0;have hn:0<=x.n/\x.n<4611686018427387904:=by
  by_cases hk1:x.kind=1
  rw[hx.none hk1];omega;have:=hx.n hk1 h0;omega
 unfold bb cL doJ;by_cases k1:x.kind=1
 obtain⟨⟨p1,p2,p3⟩,e1,_⟩:=uQ x l hn.1 hn.2 hL d.s hmB;have d1:=Gj d hn.1 hn.2 hL hmB;rw[show(x.kind==1)=true by grind,if_pos k1,e1];rw[hx.none k1]at d1 |-;grind
 rw[show(x.kind==1)=false by grind,if_neg k1];by_cases k2:x.kind=2
 obtain⟨⟨p1,p2,p3⟩,e1,_⟩:=uQ x l hn.1 hn.2 hL d.s hmB;rw[show(x.kind==2)=true by grind,if_pos k2,e1];exact⟨rfl,⟨(fun h=>by cases h),fun _=>⟨fun _=>⟨p1,p2⟩,(fun h=>by cases h)⟩⟩,Gj d hn.1 hn.2 hL hmB⟩;rw[show(x.kind==2)=false by grind,if_neg k2];by_cases k3:x.kind=3
 obtain⟨⟨p1,p2,p3⟩,e1,d1⟩:=Pg x l (hx.other (by omega)).2.2 hb0 d hb hl hn.1 hn.2;grind
 have k4:x.kind=4:=by omega
 obtain⟨t1,t2⟩:=d.tidy_id (by omega);grind
end
theorem C7 (j:List Judgement)(x:Judgement)(h:Int):((((x.of_==0)&&(decide (x.hour<=h)))&&(aV h x.since x.to))&&(!(ij j x h)))=cU j x h:=by
 grind [cU,TT,YD]
theorem vY (j:List Judgement)(h:Int):∀ (R A:List Judgement) (k:Nat) (s:List Judgement),j=A++R->A.length=k->aq (eD j h) R.length k s=.inr (s++R.filter fun x=>cU j x h)
 | [],A,k,s,_,_=>by simp[aq]
 |y::R,A,k,s,hj,hk=>by
  have g:j.getD k default=y:=by grind
  simp only[ais,aq,eD,g,C7];have hj':j=(A++[y])++R:=by rw[hj];simp
  cases hc:cU j y h with
  |true=>
   simp only[cond_true];rw[vY j h R (A++[y]) (k+1) _ hj' (by simp[hk]),aji (by exact hc)];simp
  |false=>
   simp only[cond_false];rw[vY j h R (A++[y]) (k+1) _ hj' (by simp[hk]),ajh (by rw[hc];simp)]
theorem jf (j:List Judgement)(h:Int):aC j h=j.filter fun x=>cU j x h:=by
 simp_all [aC,vY]
theorem uS {j:List Judgement}{x:Judgement}{h:Int}(hx:cU j x h=true):x.of_=0:=by
 simp_all [cU]
theorem Ij (j:List Judgement)(h:Int)(x:Judgement)(k:Nat)(s:List Claim)(g:j.getD k default=x):mL j h k s=.inr (if cU j x h=true then doJ x s else s):=by
 unfold mL doJ;grind
theorem LK (j:List Judgement)(h:Int):∀ (R A:List Judgement) (k:Nat) (s:List Claim),j=A++R->A.length=k->aq (mL j h) R.length k s=.inr ((R.filter fun x=>cU j x h).foldl (fun s x=>doJ x s) s)
 | [],A,k,s,_,_=>by simp[aq]
 |y::R,A,k,s,hj,hk=>by
  have g:j.getD k default=y:=by grind
  have hj':j=(A++[y])++R:=by rw[hj];simp
  simp only[ais,aq,Ij j h y k s g];rw[LK j h R (A++[y]) (k+1) _ hj' (by simp[hk])];grind
theorem Xz (l:List Claim)(j:List Judgement)(h:Int):r6 l j h=(aC j h).foldl (fun s x=>doJ x s) l:=by
 unfold r6;rw[LK j h j [] 0 l rfl rfl,jf]
end Go.Sx
end
