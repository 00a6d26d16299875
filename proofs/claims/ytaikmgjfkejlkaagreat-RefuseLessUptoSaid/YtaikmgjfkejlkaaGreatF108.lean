/- Part of the proof that the law RefuseLess returns true and leaves its arguments as they were, for all arguments of bulk at most 1048576 (the Upto form). -/
import Derived.Test.YtaikmgjfkejlkaaGreatF107
import Derived.Test.YtaikmgjfkejlkaaGreatF106
import Derived.Calls
import Derived.Shelf.SlSortCmp.NoneTotal
import Derived.Shelf.SortM.Plain
import Derived.Shelf.SortM.SortNone
import Derived.Ground.SlgmProg
import Derived.Shelf.Slices.CompactI
import Derived.Test.YtaikmgjfkejlkaaGreatProg
set_option linter.all false
set_option maxHeartbeats 4000000
set_option maxRecDepth 100000
section
namespace Go.Sx
open Go.RowKit
open IntKind (i64)
abbrev RF:= { r:Nat->Res // ∀ k,(r k).n=k}
def CJ (items:List (List SV))(r:RF):List SV->Res->Option ap_:=itY items r.1
@[go_sem]def ajW {items:List (List SV)}{r:RF}{k:Nat}{args:List SV}:CJ items r args (r.1 (k+1))=some (LS (items[k]? =some args) r.1 (k+2)):=EE r.2 k args
section
variable {ρ σ:Type}
def lcy (pre:Prop)(run:ρ⊕σ)(exE:ρ->Ex)(W1:ρ->St)(ao0:σ->St)(stp:St):apB where
 α:=Option (ρ⊕σ)
 pre:=pre
 post:=λ|none=>True|some r=>r=run
 ex:=λ|none=>.ret|some (.inl x) =>exE x|some (.inr _) =>.normal
 out:=λ|none=>stp|some (.inl x) =>W1 x|some (.inr s) =>ao0 s
def LCY (m:Nat)(ns:List ap3)(js:List Nat)(D:Nat->σ->St)(step:Nat->σ->ρ⊕σ)(p:Nat->σ->Prop)(n:Nat)(s0:σ)(B:Prop)(exE:ρ->Ex)(W1:ρ->St)(stp:St)(st:St):apB:=
 lcy (sE m ns js st (D 0 s0)/\B/\okI step p n 0 s0) (aj step n 0 s0) exE W1 (D n) stp
def Zv (m:Nat)(ns:List ap3)(js:List Nat)(D:Nat->σ->St)(step:Nat->σ->ρ⊕σ)(p:Nat->σ->Prop)(n:Nat)(s0:σ)(exE:ρ->Ex)(W1:ρ->St)(stp:St)(st:St):apB:=
 lcy (sE m ns js st (D 0 s0)/\okI step p n 0 s0/\∀ s,aj step n 0 s0≠ .inr s) (aj step n 0 s0) exE W1 (D n) stp
variable {m:Nat}{ns:List ap3}{js:List Nat}{step:Nat->σ->ρ⊕σ}{p:Nat->σ->Prop}{n:Nat}{s0:σ}{B:Prop}{exE:ρ->Ex}{W1:ρ->St}{stp st:St}{Q:Ex->St->Prop}{D:Nat->σ->St}
theorem Il {pre:Prop}{E:ρ⊕σ}{ao0:σ->St}:rC Q (some (lcy pre E exE W1 ao0 stp))=(pre/\(∀ x,E=.inl x->Q (exE x) (W1 x))/\(∀ s,E=.inr s->Q .normal (ao0 s))/\Q .ret stp):=by
 apply propext;constructor
 rintro⟨h1,h2⟩;exact⟨h1,λx X=>h2 (some (.inl x)) X.symm,λs V=>h2 (some (.inr s)) V.symm,h2 none trivial⟩;rintro⟨h1,h2,W,U⟩;refine⟨h1,λr O=>?_⟩;match r,O with
 |none,_=>exact U|some (.inl x),O=>exact h2 x O.symm|some (.inr s),O=>exact W s O.symm
@[go_sem]def afK:rC Q (some (LCY m ns js D step p n s0 B exE W1 stp st))=((sE m ns js st (D 0 s0)/\B/\okI step p n 0 s0)/\(∀ x,aj step n 0 s0=.inl x->Q (exE x) (W1 x))/\(∀ s,aj step n 0 s0=.inr s->Q .normal (D n s))/\Q .ret stp):=Il
@[go_sem] theorem ac_:rC Q (some (Zv m ns js D step p n s0 exE W1 stp st))=((sE m ns js st (D 0 s0)/\okI step p n 0 s0/\∀ s,aj step n 0 s0≠ .inr s)/\(∀ x,aj step n 0 s0=.inl x->Q (exE x) (W1 x))/\Q .ret stp):=by
 refine Il.trans ?_;grind
def cY (step:Nat->σ->ρ⊕σ)(exE:ρ->Ex)(W1:ρ->St)(D:Nat->σ->St)(stp:St)(m id k:Nat)(s:σ):Ex->St->Prop
 | .normal,st=>zU D m k st (step k s)| .exit j,st=>tW exE W1 m (bif Nat.beq j id then .normal else .exit j) st (step k s)| .ret,st=>tW exE W1 m .ret st (step k s)\/oy stp m st| .pan x,st=>tW exE W1 m (.pan x) st (step k s)
variable {id k j:Nat}{s:σ}{x:Value}{e e':Ex}
@[go_sem] def afL:= @cY.eq_1
@[go_sem] def ajX:= @cY.eq_2
@[go_sem] def alf:= @cY.eq_3
@[go_sem] def alg:= @cY.eq_4
@[congr] theorem ahF {st':St}(h:st=st')(he:e=e'):cY step exE W1 D stp m id k s e st=cY step exE W1 D stp m id k s e' st':=by rw[h,he]
end
section
variable {P:Program}{ρ σ:Type}{ts:Tis}{G:Cons}{ro:Option Nat}{N:Nat}{id:Nat}{c:Code}{C:St->Option apB}{m:Nat}{ns:List ap3}{js:List Nat}{step:Nat->σ->ρ⊕σ}{p:Nat->σ->Prop}{n:Nat}{s0:σ}{exE:ρ->Ex}{W1:ρ->St}{D:Nat->σ->St}{stp:St}
theorem VI {n0:Nat}(X:n0=m){s:σ}{k:Nat}(hlt:k<n){I:Nat×σ->Prop}{μ:Nat×σ->Nat}{ao0:σ->St}{pre:Prop}{E:ρ⊕σ}
  (hI:∀ s',step k s=.inr s'->I (k+1,s')/\μ (k+1,s') <μ (k,s)) (Y:∀ x,step k s=.inl x->E=.inl x):
  ∀ e st',cY step exE W1 D stp m id k s e st'->uX (λx:Nat×σ=>D x.1 x.2) I μ n0 (k,s) id (λe st'=>∃ r js,(lcy pre E exE W1 ao0 stp).post r/\(lcy pre E exE W1 ao0 stp).ex r=e/\n0<=((lcy pre E exE W1 ao0 stp).out r).h.length/\Sub js n0 st' ((lcy pre E exE W1 ao0 stp).out r)) e st':=by
 subst X;have O:∀ e st',tW exE W1 n0 e st' (step k s)->∃ r js,(lcy pre E exE W1 ao0 stp).post r/\(lcy pre E exE W1 ao0 stp).ex r=e/\n0<=((lcy pre E exE W1 ao0 stp).out r).h.length/\Sub js n0 st' ((lcy pre E exE W1 ao0 stp).out r):=by
  intro e st' q;cases U:step k s with
  |inr s'=>rw[U]at q;exact q.elim
  |inl x=>
   rw[U]at q;obtain⟨q2,js,V,W⟩:=q;exact⟨some (.inl x),js,(Y x U).symm,q2,V,W⟩
 intro e st' hq;cases e with
 |normal=>
  change zU D n0 k st' (step k s)at hq;cases U:step k s with
  |inl x=>rw[U]at hq;exact hq.elim
  |inr s'=>
   rw[U]at hq;obtain⟨js,V,W⟩:=hq;obtain⟨i1,i2⟩:=hI s' U;exact⟨(k+1,s'),js,i1,i2,V,W⟩
 |exit j=>
  change tW exE W1 n0 (bif Nat.beq j id then .normal else .exit j) st' (step k s)at hq;show bif Nat.beq j id then _ else _;grind
 |ret=>
  rcases hq with hq|hq;exact O _ _ hq;obtain⟨js,V,W⟩:=hq;exact⟨none,js,trivial,rfl,V,W⟩
 |pan x=>exact O _ _ hq
theorem sH {B:Prop}(hm:P.follows .mixedOrders=true)(hts:ts.ok P)(hG:aoI P G)(hc:cV N c=true)(hC:∀ st,C st=some (LCY m ns js D step p n s0 B exE W1 stp st))(M:Int)(hn:n=M.toNat)(hB:B->M<9223372036854775808)
  (h:B->∀ k s,k<n->p k s->i64.wrap ((k:Int)+1)=((k+1:Nat):Int)->decide ((k:Int) <M)=true->∃ L,ak P ro N L c/\exec ts G L c (D k s) (cY step exE W1 D stp m id k s))
  (h2:B->∀ s,decide ((n:Int) <M)=false->exec ts G L0 c (D n s) (cZ (D n s) m id)):kZ P ro N id (.loop c) C:=by
 refine uw hm hts hG hc λst lc W hp=>?_;rw[hC st]at W;cases W;obtain⟨⟨O,hok,hle,hsub⟩,U,h1⟩:=hp;refine⟨Nat×σ,λx=>D x.1 x.2,λx=>x.1<=n/\okI step p (n - x.1) x.1 x.2/\aj step (n - x.1) x.1 x.2=aj step n 0 s0,λx=>n - x.1,(0,s0),mkN ns st,js,⟨al4 _,by omega,by simp⟩,wM ns st st (.refl _) hok,by grind,by grind,?_⟩;rintro⟨k,s⟩ ⟨hk,X,E⟩;simp only at hk X E;rcases amz k n with hlt|hge;rw[show n - k=(n - k - 1)+1 by omega]at E X;obtain⟨L,hl,V⟩:=h U k s hlt X.1 (Qf (hn▸hlt) (hB U)) (decide_eq_true (by omega));have hI:∀ s',step k s=.inr s'->okI step p (n - (k+1)) (k+1) s'/\aj step (n - (k+1)) (k+1) s'=aj step n 0 s0:=λs' Y=>by
  have:=X.2 s' Y;grind [aj]
 have hx:∀ x,step k s=.inl x->aj step n 0 s0=.inl x:=λx Y=>by
  grind [aj]
 exact⟨L,_,hl,λe st' q=>VI O hlt (λs' Y=>⟨⟨hlt,hI s' Y⟩,by omega⟩) hx e st' q,V⟩;have hkn:k=n:=by omega
 subst hkn;have V:=h2 U s (by grind);refine⟨L0,_,ag c,λe st' hq=>?_,V⟩;simp only[anr,aj]at E;cases e with
 |exit j=>
  change bif Nat.beq j id then oy (D k s) m st' else False at hq;show bif Nat.beq j id then _ else _;cases hb:Nat.beq j id with
  |true=>
   rw[hb]at hq;obtain⟨js,q3,q4⟩:=hq;exact⟨some (.inr s),js,E,rfl,by rw[O];exact q3,by rw[O];exact q4⟩
  |false=>grind
 |_=>exact hq.elim
theorem Im (hm:P.follows .mixedOrders=true)(Y:ts.ok P)(hG:aoI P G)(hc:cV N c=true)(hC:∀ st,C st=some (Zv m ns js D step p n s0 exE W1 stp st))
  (h:∀ k s,p k s->∃ L,ak P ro N L c/\exec ts G L c (D k s) (cY step exE W1 D stp m id k s)):kZ P ro N id (.loop c) C:=by
 refine uw hm Y hG hc λst lc U hp=>?_;rw[hC st]at U;cases U;obtain⟨⟨O,X,hle,hsub⟩,h1,hno⟩:=hp;refine⟨Nat×σ,λx=>D x.1 x.2,λx=>x.1<=n/\okI step p (n - x.1) x.1 x.2/\aj step (n - x.1) x.1 x.2=aj step n 0 s0,λx=>n - x.1,(0,s0),mkN ns st,js,⟨al4 _,by omega,by simp⟩,wM ns st st (.refl _) X,by grind,by grind,?_⟩;rintro⟨k,s⟩ ⟨hk,V,E⟩;simp only at hk V E;rcases amz k n with hlt|hge;rw[show n - k=(n - k - 1)+1 by omega]at E V;obtain⟨L,hl,hex⟩:=h k s V.1;have hI:∀ s',step k s=.inr s'->okI step p (n - (k+1)) (k+1) s'/\aj step (n - (k+1)) (k+1) s'=aj step n 0 s0:=λs' W=>by
  have:=V.2 s' W;grind [aj]
 have hx:∀ x,step k s=.inl x->aj step n 0 s0=.inl x:=λx W=>by
  grind [aj]
 exact⟨L,_,hl,λe st' q=>VI O hlt (λs' W=>⟨⟨hlt,hI s' W⟩,by omega⟩) hx e st' q,hex⟩;have hkn:k=n:=by omega
 subst hkn;simp only[anr,aj]at E;grind
end
def uz (n:Nat):List Ob:=List.replicate n .dead
def L1 (items:List (List SV))(r:RF)(n:Nat):Ex->St->Prop
 | .normal,st=>oy ⟨[],.ab (r.1 0)::uz n⟩ (n+1) ⟨[],st.h⟩\/oy ⟨[],.ab (r.1 (items.length+1))::uz n⟩ (n+1) ⟨[],st.h⟩| .ret,st=>oy ⟨[],.ab (r.1 0)::uz n⟩ (n+1) ⟨[],st.h⟩\/oy ⟨[],.ab (r.1 (items.length+1))::uz n⟩ (n+1) ⟨[],st.h⟩|_,_=>False
section
variable {items:List (List SV)}{r:RF}{n:Nat}{st:St}{e e':Ex}
@[go_sem] def Zw:= @L1.eq_1
@[go_sem] def afM:= @L1.eq_2
@[congr] theorem aa8 {st':St}(h:st=st')(he:e=e'):L1 items r n e st=L1 items r n e' st':=by rw[h,he]
def ajY:uz 0=[]:=(rfl)
def ajZ:uz 1=[.dead]:=(rfl)
def aj0:uz 2=[.dead,.dead]:=(rfl)
def aj1:uz 3=[.dead,.dead,.dead]:=(rfl)
def aj2:uz 4=[.dead,.dead,.dead,.dead]:=(rfl)
attribute[go_sem]ajY ajZ aj0 aj1 aj2
end
def L2 {js:List Nat}{n0:Nat}{h h':List Ob}(q:Sub js n0 ⟨[],h⟩ ⟨[],h'⟩):Sub js n0 ⟨[(0,.tup [])],h⟩ ⟨[(0,.tup [])],h'⟩:=by
 refine⟨q.1,?_,q.2.2⟩;simp only[RM,lk];exact⟨⟨rfl,rfl⟩,trivial⟩
open Classical in
def Bc {P:Program} {ts:Tis} {G:RF->Cons} (hm:P.follows .mixedOrders=true) (hts:ts.ok P) {f:FuncId} {fn:Func} {c:Code} (hf:P.funcs[f]? =some fn) (hb:fn.body=some c) (O:(fn.name== "runtime.NumGoroutine")=false) (hc:cV fn.ntmps c=true) (hr:fn.results.toList=[])
  {items:List (List SV)} {V:SV->List SV} {U:List Ob} {n:Nat} (hn:U.length=n)
  (h:∀ r:RF,YOk P (CJ items r)->aoI P (G r)/\(V (.os 0)).length<=fn.ntmps/\∃ L,ak P none fn.ntmps L c/\exec ts (G r) L c ⟨nV 0 (V (.os 0)),.ab (r.1 1)::U⟩ (L1 items r n))
  (he:∀ (args:Array Value) (w:World),(callFunc f args).run P w=.ok (.enter f args) w):zS P f V U items:=by
 refine Qd (λE hr0 hy=>?_) he;obtain⟨hG,h1,L,h2,h3⟩:=h ⟨E,hr0⟩ hy;refine⟨λl o=>if l=V (.os 0)/\o=.ab (E 1)::U then some { α:=Bool,pre:=True,post:=λ_=>True,res:=λb=>.ret (.tup []) (.ab (E (if b then items.length+1 else 0))::uz n)}else none,?_,_,if_pos ⟨rfl,rfl⟩,trivial,λb _=>⟨_,_,_,rfl,by grind⟩⟩;refine EA hm hts hG hf hb O hc λl o con hC _=>?_;split at hC
 rotate_left
 cases hC;rename_i X;obtain⟨rfl,rfl⟩:=X;cases hC;refine⟨h1,L,_,h2,λe st W=>?_,h3⟩;have key:∀ st:St,(oy ⟨[],.ab (E 0)::uz n⟩ (n+1) ⟨[],st.h⟩\/oy ⟨[],.ab (E (items.length+1))::uz n⟩ (n+1) ⟨[],st.h⟩)->DY (Ob.ab (E 1)::U).length { α:=Bool,pre:=True,post:=λ_=>True,res:=λb=>.ret (.tup []) (.ab (E (if b then items.length+1 else 0))::uz n)} (th (re ts st fn.results.toList)) st.h:=λst q=>by
  rw[hr];show ∃ r s' h' js,_;rcases q with⟨js,q1,Y⟩ | ⟨js,q1,Y⟩;exact⟨false,_,_,js,trivial,rfl,by grind,by rw[aly,hn];exact L2 Y⟩;exact⟨true,_,_,js,trivial,rfl,by grind,by rw[aly,hn];exact L2 Y⟩
 cases e with
 |normal=>exact key st W|ret=>exact key st W|exit j=>exact W.elim|pan x=>exact W.elim
section
variable {ρ σ τ:Type}
theorem Bd {step:τ->σ->ρ⊕σ}:∀ {a b:List τ} {s s':σ},dC step a s=.inr s'->dC step (a++b) s=dC step b s'
 | [],_,_,_,h=>by grind [dC]
 |x::a,b,s,s',h=>by
  simp only[alU,dC]at h |-;cases E:step x s with
  |inl y=>grind|inr s1=>rw[E]at h;simp only at h |-;exact Bd h
theorem L3 {step:τ->σ->ρ⊕σ}{p:τ->σ->Prop}:∀ {a b:List τ} {s s':σ},dC step a s=.inr s'->okL step p (a++b) s->okL step p b s'
 | [],_,_,_,h,E=>by grind [dC]
 |x::a,b,s,s',h,E=>by
  simp only[alU,dC]at h E;cases O:step x s with
  |inl y=>grind|inr s1=>rw[O]at h;exact L3 h (E.2 s1 O)
def LCP (m:Nat)(ns:List ap3)(js:List Nat)(D:List Nat->Option Nat->σ->St)(step:τ->σ->ρ⊕σ)(p:τ->σ->Prop)(l:List τ)(s0:σ)(exE:ρ->Ex)(W1:ρ->St)(ao0:σ->St)(st:St):apB where
 α:=ρ⊕σ
 pre:=sE m ns js st (D (List.range l.length) none s0)/\∀ L,L.Perm l->okL step p L s0
 post:=λr=>∃ L,L.Perm l/\dC step L s0=r
 ex:=λ| .inl x=>exE x| .inr _=>.normal
 out:=λ| .inl x=>W1 x| .inr s=>ao0 s
variable {m:Nat}{ns:List ap3}{js:List Nat}{step:τ->σ->ρ⊕σ}{p:τ->σ->Prop}{l:List τ}{s0:σ}{exE:ρ->Ex}{W1:ρ->St}{ao0:σ->St}{st:St}{Q:Ex->St->Prop}{D:List Nat->Option Nat->σ->St}
@[go_sem] theorem afN:rC Q (some (LCP m ns js D step p l s0 exE W1 ao0 st))=((sE m ns js st (D (List.range l.length) none s0)/\∀ L,L.Perm l->okL step p L s0)/\∀ L,L.Perm l->(∀ x,dC step L s0=.inl x->Q (exE x) (W1 x))/\∀ s,dC step L s0=.inr s->Q .normal (ao0 s)):=by
 apply propext;constructor
 rintro⟨h1,h2⟩;exact⟨h1,λL hL=>⟨λx hx=>h2 (.inl x) ⟨L,hL,hx⟩,λs hs=>h2 (.inr s) ⟨L,hL,hs⟩⟩⟩;rintro⟨h1,h2⟩;refine⟨h1,λr ⟨L,hL,hr⟩ =>?_⟩;cases r with
 |inl x=>exact(h2 L hL).1 x hr|inr s=>exact(h2 L hL).2 s hr
variable {P:Program}{ts:Tis}{G:Cons}{ro:Option Nat}{N id:Nat}{c:Code}{C:St->Option apB}
theorem L4 (d:τ)(it:Nat)(hm:P.follows .mixedOrders=true)(hts:ts.ok P)(hG:aoI P G)(hc:cV N c=true)(hC:∀ st,C st=some (LCP m ns js D step p l s0 exE W1 ao0 st))
  (h:∀ left cur s,(∀ j,j∈left->j<l.length/\p (l.getD j d) s)->∃ L,ak P ro N L c/\exec ts G L c (D left cur s) (cM step l d exE W1 ao0 D m id it left s)):kZ P ro N id (.loop c) C:=by
 refine uw hm hts hG hc λst lc hC' hp=>?_;rw[hC st]at hC';cases hC';obtain⟨⟨hlen,hok,hle,hsub⟩,hO⟩:=hp;subst hlen;have X:∀ q:List Nat,q.Perm (List.range l.length)->(q.map λj=>l.getD j d).Perm l:=λq hq=>by
  have:=hq.map (λj=>l.getD j d)
  rwa[EJ]at this
 refine⟨List Nat×Option Nat×σ,λx=>D x.1 x.2.1 x.2.2,λx=>∃ q:List Nat,(q++x.1).Perm (List.range l.length)/\dC step (q.map λj=>l.getD j d) s0=.inr x.2.2,λx=>x.1.length,(List.range l.length,none,s0),mkN ns st,js,⟨[],.refl _,rfl⟩,wM ns st st (.refl _) hok,hle,hsub,?_⟩;rintro⟨left,cur,s⟩ ⟨q,hq,W⟩;simp only at hq W;have Y:∀ j,j∈left->(q++j::left.erase j).Perm (List.range l.length):=λj hj=>((List.perm_cons_erase hj).symm.append_left q).trans hq;have hp0:∀ j,j∈left->j<l.length/\p (l.getD j d) s:=λj hj=>by
  refine⟨amX.1 (hq.mem_iff.1 (ang _ hj)),?_⟩;have:=hO _ (X _ (Y j hj));rw[anP]at this;exact(L3 W this).1
 obtain⟨L,hl,hex⟩:=h left cur s hp0;refine⟨L,_,hl,?_,hex⟩;have E:∀ e st' o,exC step l d exE W1 st.h.length left s e st' o->∃ r js,(LCP st.h.length ns js D step p l s0 exE W1 ao0 st).post r/\(LCP st.h.length ns js D step p l s0 exE W1 ao0 st).ex r=e/\st.h.length<=((LCP st.h.length ns js D step p l s0 exE W1 ao0 st).out r).h.length/\Sub js st.h.length st' ((LCP st.h.length ns js D step p l s0 exE W1 ao0 st).out r):=by
  intro e st' o z;cases o with
  |none=>exact z.elim
  |some j=>
   obtain⟨hj,z⟩:=z;cases hs:step (l.getD j d) s with
   |inr s'=>rw[hs]at z;exact z.elim
   |inl x=>
    rw[hs]at z;obtain⟨q2,V,q3,q4⟩:=z;refine⟨.inl x,V,⟨_,X _ (Y j hj),?_⟩,q2,q3,q4⟩;simp_all [Bd,dC]
 intro e st' O;cases e with
 |normal=>
  change nxC step l d D st.h.length left s st' (yY (aq st'.h it))at O;cases ho:yY (aq st'.h it)with
  |none=>rw[ho]at O;exact O.elim
  |some j=>
   rw[ho]at O;obtain⟨hj,O⟩:=O;cases hs:step (l.getD j d) s with
   |inl x=>rw[hs]at O;exact O.elim
   |inr s'=>
    rw[hs]at O;obtain⟨V,q3,q4⟩:=O;refine⟨(left.erase j,some j,s'),V,⟨q++[j],?_,?_⟩,?_,q3,q4⟩;grind
    simp_all [Bd,dC];grind
 |exit j=>
  have U:(bif Nat.beq j id then(left=[]->oy (ao0 s) st.h.length st')/\(left≠[]->exC step l d exE W1 st.h.length left s .normal st' (yY (aq st'.h it)))else exC step l d exE W1 st.h.length left s (.exit j) st' (yY (aq st'.h it))):=O;show bif Nat.beq j id then _ else _;cases hb:Nat.beq j id with
  |true=>
   rw[hb]at U;simp only[cond_true]at U |-;by_cases hlt:left=[]
   obtain⟨V,q3,q4⟩:=U.1 hlt;refine⟨.inr s,V,⟨_,X q (by grind),W⟩,rfl,q3,q4⟩;exact E _ _ _ (U.2 hlt)
  |false=>
   rw[hb]at U;exact E _ _ _ U
 |ret=>exact E _ _ _ O|pan x=>exact E _ _ _ O
end
def fkY {E st:St}{n0:Nat}{js:List Nat}(_:JL js)(h1:n0<=E.h.length:=by(first|(show _<=_;decide) |(simp only[*,go_sem,Nat.reduceBEq,Nat.reduceLeDiff,Nat.reduceAdd,Nat.reduceSub,Nat.reduceMul,Int.reduceLE,Int.reduceLT,Int.reduceToNat,Int.reduceNeg,reduceCtorEq];done) |(simp only[*,go_sem,Nat.reduceBEq,Nat.reduceLeDiff,Nat.reduceAdd,Nat.reduceSub,Nat.reduceMul,Int.reduceLE,Int.reduceLT,Int.reduceToNat,Int.reduceNeg,reduceCtorEq];(repeat' (first|with_reducible refine And.intro ?_ ?_|((with_reducible show _≠_);first|assumption|omega|(simp_all [cq,eo];done) |grind) |with_reducible intro _)) <;>(first|rfl|decide|assumption|omega|(simp_all [cq,eo];done) |fail))))(h2:Sub js n0 st E:=by(first|(show _<=_;decide) |(simp only[*,go_sem,Nat.reduceBEq,Nat.reduceLeDiff,Nat.reduceAdd,Nat.reduceSub,Nat.reduceMul,Int.reduceLE,Int.reduceLT,Int.reduceToNat,Int.reduceNeg,reduceCtorEq];done) |(simp only[*,go_sem,Nat.reduceBEq,Nat.reduceLeDiff,Nat.reduceAdd,Nat.reduceSub,Nat.reduceMul,Int.reduceLE,Int.reduceLT,Int.reduceToNat,Int.reduceNeg,reduceCtorEq];(repeat' (first|with_reducible refine And.intro ?_ ?_|((with_reducible show _≠_);first|assumption|omega|(simp_all [cq,eo];done) |grind) |with_reducible intro _)) <;>(first|rfl|decide|assumption|omega|(simp_all [cq,eo];done) |fail)))):oy E n0 st:=JO js h1 h2
def ada {α:Type 1}{G:List SV->α->Prop}{X:SV}{k:List SV->Option α}(h:∀ l c,k l=some c->G (X::l) c):∀ l c,pQ X k l=some c->G l c:=λl c hc=>by
 obtain⟨r,rfl,h1⟩:=EI hc;grind
def clP {p:Prop}(h:p:=by((repeat' (first|with_reducible refine And.intro ?_ ?_|((with_reducible show _≠_);first|assumption|omega|(simp_all [cq,eo];done) |grind) |with_reducible intro _)) <;>(first|done|with_reducible exact Empty.elim ‹Empty› |with_reducible assumption|rfl|omega|assumption|(simp_all only[cq,eo];done) |(simp_all only[cq,eo];grind)))):p:=h
def VJ (k:Tag)(i:Nat)(t:List (Nat×SV))(h:List Ob):SV->St
 | .v (.slice none 0 0) =>⟨(i,.os h.length)::t,h++[.row k []]⟩|_=>⟨t,h⟩
def Zx (k:Tag)(id off:Nat)(t:List (Nat×SV))(h:List Ob)(l:List SV):Option SV->St
 |some (.v (.slice none 0 0)) =>⟨t,cF h id (.cells (l.set off (.os h.length)))++[.row k []]⟩|_=>⟨t,h⟩
def adb (k:Tag)(id off:Nat)(t:List (Nat×SV))(h:List Ob):Ob->St
 | .cells l=>Zx k id off t h l (nth l off)|_=>⟨t,h⟩
def Zy (k:Tag)(j:Nat)(t:List (Nat×SV))(h:List Ob):SV->St
 | .ptr id off=>adb k id (off+j) t h (aq h id)|_=>⟨t,h⟩
def L5 (k:Tag):ResultVar->List (Nat×SV)->List Ob->St
 | .tmp i,t,h=>VJ k i t h (lk i t)| .cell i j,t,h=>Zy k j t h (lk i t)
def JP:List (ResultVar×Tag)->St->St
 | [],st=>st|x::r,st=>JP r (L5 x.2 x.1 st.t st.h)
def Zz (k:Tag)(r:ResultVar)(st:St):apE st (L5 k r st.t st.h):=by
 obtain⟨t,h⟩:=st;cases r with
 |tmp i=>
  show apE _ (VJ k i t h (lk i t));unfold VJ;split
  rename_i e;exact .slot _ (.refl _) e (.inl ⟨_,rfl⟩);exact .refl _
 |cell i j=>
  show apE _ (Zy k j t h (lk i t));unfold Zy;split
  unfold adb;split
  rename_i e;unfold Zx;split
  rename_i E;exact .cell _ (.refl _) e (by grind [gH]) (.inl ⟨_,rfl⟩);exact .refl _;exact .refl _;exact .refl _
theorem apE.trans {a b c:St}(h1:apE a b)(h2:apE b c):apE a c:=by
 induction h2 with
 |refl=>exact h1|cell o _ E V U O=>exact .cell o O E V U|slot o _ E U O=>exact .slot o O E U|aqP k _ E O=>exact .aqP k O E
def adc (l:List (ResultVar×Tag)):∀ st,apE st (JP l st):=by
 induction l with
 |nil=>exact λst=>.refl _
 |cons x r E=>exact λst=>(Zz x.2 x.1 st).trans (E _)
def L6 (l:List (ResultVar×Tag))(rs:List ResultVar)(ts:Tis)(post:SV->Prop)(pp:Value->Prop):Ex->St->Prop
 | .exit _,_=>False| .normal,st=>iR post (DU true rs ts (JP l st))| .ret,st=>iR post (DU true rs ts (JP l st))| .pan x,_=>pp x
section
variable {l:List (ResultVar×Tag)}{rs:List ResultVar}{ts:Tis}{post:SV->Prop}{pp:Value->Prop}{st:St}{k:Tag}{i id off:Nat}{t:List (Nat×SV)}{h:List Ob}{m:List SV}
@[go_sem] def afO:= @L6.eq_3
@[go_sem] def ZA:= @L6.eq_2
@[go_sem] def afP:= @L6.eq_4
@[go_sem] def ahG:= @JP.eq_1
@[go_sem]def afQ {r:ResultVar}:JP ((r,k)::l) ⟨t,h⟩=JP l (L5 k r t h):=(rfl)
@[go_sem] def afR:= @L5.eq_1
@[go_sem] def ade:= @L5.eq_2
@[go_sem] def ahH:= @VJ.eq_1
@[go_sem]def aj3:VJ k i t h (.os id)=⟨t,h⟩:=(rfl)
@[go_sem] def ahI:= @Zy.eq_1
@[go_sem] def adf:= @adb.eq_1
@[go_sem] def ahJ:= @Zx.eq_1
@[go_sem]def aj4:Zx k id off t h m (some (.os i))=⟨t,h⟩:=(rfl)
attribute [go_sem] List.set_cons_zero
end
section
variable {P:Program}{ts:Tis}{G:Cons}
theorem VK (l:List (ResultVar×Tag)) (hm:P.follows .mixedOrders=true) (hts:ts.ok P) (hG:aoI P G) {f:FuncId} {fn:Func} {c:Code} (hf:P.funcs[f]? =some fn) (hb:fn.body=some c) (hname:(fn.name== "runtime.NumGoroutine")=false)
  (hc:cV fn.ntmps c=true) {C:List SV->Option Con}
  (h:∀ l0 O,C l0=some O->an O->l0.length<=fn.ntmps/\∃ L,ak P none fn.ntmps L c/\exec ts G L c ⟨nV 0 l0,[]⟩ (L6 l fn.results.toList ts (dW O) (kY O))):B1 P f C:=by
 refine⟨λl O _ args w=>?_,λl0 O aqs hpre F w vs hF Y=>?_⟩;simp_all [callFunc];obtain⟨hlen,L,hl,hx⟩:=h l0 O aqs hpre;refine sA (n:=0) (callsIn_of_wp_marks hf hb trivial ?_);have hr:Y1 F { w:=w,own:=dB} fn.ntmps dB ⟨nV 0 l0,[]⟩ { tmps:=vs++Array.replicate (fn.ntmps - vs.size) undef,defers:=[]} w:=
  ⟨by have:=Y.1;simp;omega,Dfr.nil,zR hF,Fr.refl _,λt=>qI Y _ t⟩
 refine wpIn_mono (rJ hm hts hG c hc hl F _ _ hx dB _ w hr) ?_;intro e a' w' hq;have key:∀ W own st,(∀ b,F b->W b)->Y1 W { w:=w,own:=dB} fn.ntmps own st a' w'->iR (dW O) (DU true fn.results.toList ts (JP l st))->LeavesInM (rd none) 0 P fn a'.tmps
   (λe w'=>(∃ s u bo,dW O s/\e=.returned u/\Handed F w bo w' s u/\Below w.heap.size w w')\/(∃ x,kY O x/\e=.panicked [{ v:=x,recovered:=false}]/\Below w.heap.size w w')) a'.defers .returning w':=by
  intro W own0' st0 hF1 hst0 E;obtain⟨own,hst⟩:=(adc l st0).rel hst0;generalize JP l st0=st at hst E;refine mW hst (by simp) λw2 V=>?_;have U:=V.less hF1 rfl;unfold DU at E;cases hs:th (re ts st fn.results.toList)with
  |none=>
   simp only[cond_true,RL]at E;rw[hs]at E;exact E.elim
  |some s=>
   obtain⟨u,e1,e2⟩:=zQ (P:=P) hts U hs;refine⟨u,e1,.inl ?_⟩;simp only[cond_true,RL]at E;rw[hs]at E;change iR (dW O) (Cd st.h s)at E;cases hg:Cd st.h s with
   |none=>rw[hg]at E;exact E.elim
   |some s2=>
    rw[hg]at E;obtain⟨bo,hh⟩:=P9 U e2 hg;exact⟨_,u,bo,E,rfl,hh,qH U.fr⟩
 cases e with
 |normal=>obtain⟨W,own,st,X,h1,h2⟩:=hq;exact key W own st X h1 h2
 |ret=>obtain⟨W,own,st,X,h1,h2⟩:=hq;exact key W own st X h1 h2
 |exit id=>obtain⟨W,own,st,X,h1,h2⟩:=hq;exact h2.elim
 |panic ch=>
  obtain⟨x,W,own,st,X,h1,h2,rfl⟩:=hq;exact mW h1 (by simp) λw2 V=>.inr ⟨x,h2,rfl,qH V.fr⟩
 |_=>exact hq.elim
end
section
universe u
variable {α:Type u}{G:List SV->α->Prop}
def apO:Option (List SV->Option α)->List SV->Option α
 |some q,r=>q r|none,_=>none
@[go_sem] def ahK:= @apO.eq_1
@[go_sem] def ahL:= @apO.eq_2
def pFn (f:Nat)(k:List SV->Option (List SV->Option α)):List SV->Option α
 | .fn g [] caps::r=>bif Nat.beq g f then apO (k caps) r else none|_=>none
def pXF (f:Nat)(k:List SV->Option (List SV->Option α)):List SV->Option α
 | .ep [.fn g [] caps] 0::r=>bif Nat.beq g f then apO (k caps) r else none|_=>none
@[go_sem] def alh:= @pFn.eq_1
@[go_sem] def ali:= @pXF.eq_1
variable {r:List SV}
theorem QP{o:Option (List SV->Option α)}{c:α}(h:apO o r=some c):∃ q,o=some q/\q r=some c:=by
 cases o with
 |none=>cases h|some q=>exact⟨q,rfl,h⟩
variable {f:Nat}{k:List SV->Option (List SV->Option α)}
theorem oz(h:∀ caps q,k caps=some q->∀ l c,q l=some c->G (.fn f [] caps::l) c):∀ l c,pFn f k l=some c->G l c:=λl c hc=>by
 unfold pFn at hc;split at hc
 rename_i g caps r;cases E:Nat.beq g f with
 |false=>rw[E]at hc;cases hc
 |true=>
  rw[E]at hc;obtain⟨q,h1,h2⟩:=QP hc;have:=alu E;subst this;exact h caps q h1 r c h2
 cases hc
theorem zV(h:∀ caps q,k caps=some q->∀ l c,q l=some c->G (.ep [.fn f [] caps] 0::l) c):∀ l c,pXF f k l=some c->G l c:=λl c hc=>by
 unfold pXF at hc;split at hc
 rename_i g caps r;cases E:Nat.beq g f with
 |false=>rw[E]at hc;cases hc
 |true=>
  rw[E]at hc;obtain⟨q,h1,h2⟩:=QP hc;have:=alu E;subst this;exact h caps q h1 r c h2
 cases hc
def pFB (f:Nat)(k:List SV->Option (List SV->Option α)):List SV->Option α
 | .fn g caps []::r=>bif Nat.beq g f then apO (k caps) r else none|_=>none
def ahM (f:Nat)(k:List SV->Option (List SV->Option α)):List SV->Option α
 | .ep [.fn g caps []] 0::r=>bif Nat.beq g f then apO (k caps) r else none|_=>none
@[go_sem] def alj:= @pFB.eq_1
@[go_sem] def aj5:= @ahM.eq_1
variable {g:Nat}{c:List SV}{x:SV}
def alk{b:List SV}:pFB f k (.fn g b (x::c)::r)=none:=(rfl)
def aj6{b:List SV}:ahM f k (.ep [.fn g b (x::c)] 0::r)=none:=(rfl)
def alm{b:List SV}:pFn f k (.fn g (x::b) c::r)=none:=(rfl)
def aln{b:List SV}:pXF f k (.ep [.fn g (x::b) c] 0::r)=none:=(rfl)
attribute[go_sem]alk aj6 alm aln
end
def pXX {α:Type 1}(t:Tag)(k:t.T->List SV->Option α):List SV->Option α
 | .ep [s] 0::r=>pX t k (s::r)|_=>none
@[go_sem] def ahN:= @pXX.eq_1
def zW {α:Type 1}{G:List SV->α->Prop}{t:Tag}{k:List t.T->List SV->Option α}(h:∀ n l c,k n l=some c->G (.ep [.rs t n] 0::l) c):∀ l c,pXR t k l=some c->G l c:=λl c hc=>by
 obtain⟨n,r,rfl,h1⟩:=Zu hc;exact h n r c h1
def cl3 {p:Prop}(h:p:=by((repeat' (first|with_reducible refine And.intro ?_ ?_|((with_reducible show _≠_);first|assumption|omega|(simp_all [cq,eo];done) |grind) |with_reducible intro _)) <;>(first|done|assumption|rfl|omega|exact cl|(simp_all only[UN,UO,amd,Sum.inl.injEq,forall_eq',forall_const,true_imp_iff,cond_true,cond_false,and_self];done)))):p:=h
def L7 (k:Tag)(K:List k.T->Option ao3):List Ob->Option ao3
 | [.row k' l] =>if h:k'=k then K (h▸l)else none|_=>none
@[go_sem]def aj7 {k:Tag}{K:List k.T->Option ao3}{l:List k.T}:L7 k K [.row k l]=K l:=by simp[L7]
def L8 {k:Tag}{K:List k.T->Option ao3}{h:List Ob}{c:ao3}(E:L7 k K h=some c):∃ l,h=[.row k l]/\K l=some c:=by
 unfold L7 at E;split at E;split at E
 rename_i e;subst e;exact⟨_,rfl,E⟩;cases E;cases E
end Go.Sx
end
section
namespace Go.Sx
open Go.Proofs
open IntKind (i64)
def EK (x:Int×Int):List SV:=[.v (.int .i64 x.1),.v (.int .i64 x.2)]
def zX (H:Nat):Nat->List (Int×Int)
 |0=>[]
 |r+1=>((List.range H).map λh:Nat=>((r:Int),(h:Int)))++zX H r
def cH (d:ah):List (Int×Int):=zX d.hours.toNat d.reaches.length
def aa9 {j:Nat}(E:j<=aK):i64.wrap ((j:Int) - 1)=(j:Int) - 1:=by unfold aK at E;exact az (by omega) (by omega)
@[go_sem] def mz:List SV->Option Con:=pD .bh λd=>pE (.det True (.fn 245 [] [.ep (cellsOf .bh d) 0]))
def zY:B1 Tryz.prog 169 mz:=by
 have hG:aoI Tryz.prog (mkG [] []):=ox P0 P0;refine A8 [.o] mixed aD hG (fn:=Tryz.f169) (c:=ae Tryz.f169) kr kr kr kr (av λl=>am λE=>?_);refine⟨nbl rfl,L0,ag _,?_⟩;unfold ae Tryz.f169;simp only[go_sem,sF,sG,Nat.reduceBEq,Nat.reduceLeDiff,Nat.reduceAdd,Nat.reduceSub,Nat.reduceMul]
def ZB {α:Type}{l m:List α}{x:α}{k:Nat}(h:l.drop k=x::m):l[k]? =some x/\k+1<=l.length/\l.drop (k+1)=m:=by
 have E:(l.drop k)[0]? =l[k]?:=by grind
 rw[h]at E;refine⟨E.symm,?_,by rw[<-aou,h];rfl⟩;grind
def GQ (r H h:Nat):List (Int×Int):=((List.range' h (H - h)).map λh:Nat=>((r:Int),(h:Int)))
variable {r H:Nat}
theorem uA{h:Nat}(E:h<H):GQ r H h=((r:Int),(h:Int))::GQ r H (h+1):=by
 unfold GQ;rw[show H - h=(H - (h+1))+1 by omega,amV];rfl
theorem EL:GQ r H H=[]:=by simp[GQ]
theorem zZ:zX H (r+1)=GQ r H 0++zX H r:=by
 grind [GQ,zX,List.range_eq_range']
open Classical in
theorem Sy (d:ah)(hH:d.hours<9223372036854775808):zS Tryz.prog 245 (λy=>[y,.ep (cellsOf .bh d) 0]) [] ((cH d).map EK):=by
 unfold cH;generalize hI:(zX d.hours.toNat d.reaches.length).map EK=items;refine Qd (λr hr hy=>?_) (λargs w=>by kernel_rfl);have hG:aoI Tryz.prog (zT [] [] (itY items r)):=Dp (by simp) (by simp) hy;refine⟨λl h=>if l=[.os 0,.ep (cellsOf .bh d) 0]/\h=[.ab (r 1)]then some { α:=Nat,pre:=True,post:=λj=>j=0\/j=items.length+1,res:=λj=>.ret (.tup []) [.ab (r j)]}else none,
  ?_,_,if_pos ⟨rfl,rfl⟩,trivial,λj hj=>⟨_,j,_,rfl,hj⟩⟩
 refine ow mixed aD hG (fn:=Tryz.f245) (c:=ae Tryz.f245) kr kr kr kr λl o con h V=>?_;split at h
 rotate_left
 cases h;rename_i hlo;obtain⟨rfl,rfl⟩:=hlo;cases h;refine⟨nbl rfl,λid st=>bif Nat.beq id 0 then some { α:=Bool,pre:=lk 0 st.t=.os 0/\lk 1 st.t=.ep (cellsOf .bh d) 0/\lk 3 st.t=.v (.int .i64 ((d.reaches.length:Int) - 1))/\st.h=[.ab (r 1)]/\d.reaches.length<=aK,post:=λ_=>True,ex:=λb=>bif b then .normal else .ret,out:=λb=>⟨[],[.ab (r (bif b then items.length+1 else 0))]⟩:apB}else none,?_,?_⟩
 ·unfold ae Tryz.f245;simp only[ak,true_and,and_true];refine wJ mixed aD hG kr λst lc X V=>?_;simp only[go_sem,Nat.reduceBEq,alx]at X;subst X;obtain⟨t,h⟩:=st;dsimp only at V;obtain⟨h0,h1,h2,rfl,hm⟩:=V;refine⟨Nat×Nat,λx=>⟨[(0,.os 0),(1,.ep (cellsOf .bh d) 0),(3,.v (.int .i64 ((x.2:Int) - 1)))],[.ab (r (x.1+1))]⟩,λx=>x.2<=d.reaches.length/\items.drop x.1=(zX d.hours.toNat x.2).map EK/\x.1<=items.length,λx=>x.2,(0,d.reaches.length),[0],⟨alw _,hI.symm,al4 _⟩,alw _,?_,?_⟩;simp only[go_sem,h0,h1,h2,Nat.reduceBEq,Nat.reduceLeDiff,Nat.reduceAdd,true_and,and_true];rfl
  ·rintro⟨k,j⟩ ⟨hj,O,W⟩;simp only at hj O W;cases j with
   |zero=>
    refine⟨L0,_,ag _,λ_ _ q=>q,?_⟩;simp only[go_sem,EE hr,true_imp_iff,decide_eq_true_eq,alB,false_imp_iff,Nat.reduceBEq,Nat.reduceLeDiff,Nat.reduceAdd,Nat.reduceSub,Nat.reduceMul,true_and,and_true,implies_true];refine⟨λhn=>absurd hn (by decide),λhn=>?_⟩;have hlen:(zX d.hours.toNat 0).length=items.length - k:=by grind [List.length_map]
    have:(zX d.hours.toNat 0).length=0:=rfl;refine⟨true,[0],?_⟩;have e:items.length+1=k+1:=by omega
    simp only[go_sem,e,Nat.reduceBEq,Nat.reduceLeDiff,Nat.reduceAdd,true_and,and_true];rfl
   |succ j=>
    have ej:((j+1:Nat):Int) - 1=(j:Int):=by omega
    have hw:i64.wrap ((j:Int) - 1)=(j:Int) - 1:=aa9 (by omega);simp only[ej];refine⟨λid st=>bif Nat.beq id 2 then some { α:=Nat×Bool,pre:=lk 0 st.t=.os 0/\lk 1 st.t=.ep (cellsOf .bh d) 0/\lk 3 st.t=.v (.int .i64 (j:Int))/\lk 14 st.t=.v (.int .i64 d.hours)/\lk 15 st.t=.v (.int .i64 0)/\st.h=[.ab (r (k+1))],post:=λx=>x.2=true->items.drop x.1=(zX d.hours.toNat j).map EK/\x.1<=items.length,ex:=λb=>bif b.2 then .normal else .ret,out:=λb=>⟨[(0,.os 0),(1,.ep (cellsOf .bh d) 0),(3,.v (.int .i64 (j:Int)))],[.ab (r (bif b.2 then b.1+1 else 0))]⟩:apB}else none,_,?_,λ_ _ q=>q,?_⟩
    ·simp only[ak,true_and,and_true];refine wJ mixed aD hG kr λst lc X V=>?_;simp only[go_sem,Nat.reduceBEq,alx]at X;subst X;obtain⟨t,h⟩:=st;dsimp only at V;obtain⟨i0,i1,i3,i14,i15,rfl⟩:=V;refine⟨Nat×Nat,λx=>⟨[(0,.os 0),(1,.ep (cellsOf .bh d) 0),(3,.v (.int .i64 (j:Int))),(14,.v (.int .i64 d.hours)),(15,.v (.int .i64 (x.2:Int)))],[.ab (r (x.1+1))]⟩,λx=>x.2<=d.hours.toNat/\items.drop x.1=(GQ j d.hours.toNat x.2++zX d.hours.toNat j).map EK/\x.1<=items.length,λx=>d.hours.toNat - x.2,(k,0),[0],⟨al4 _,by rw[O,zZ],W⟩,alw _,?_,?_⟩;simp only[go_sem,i0,i1,i3,i14,i15,Nat.reduceBEq,Nat.reduceLeDiff,Nat.reduceAdd,true_and,and_true];grind
     ·rintro⟨k,g⟩ ⟨hg,U,W⟩;simp only at hg U W;refine⟨L0,_,ag _,λ_ _ q=>q,?_⟩;simp only[go_sem,EE hr,true_imp_iff,decide_eq_true_eq,alB,false_imp_iff,Nat.reduceBEq,Nat.reduceLeDiff,Nat.reduceAdd,Nat.reduceSub,Nat.reduceMul,true_and,and_true,implies_true];refine⟨λhlt=>?_,λhge=>?_⟩
      ·have E:g<d.hours.toNat:=by omega
       rw[uA E,alU,amh]at U;obtain⟨q1,q2,q3⟩:=ZB U;have hw2:i64.wrap ((g:Int)+1)=((g+1:Nat):Int):=Qf E hH;refine⟨q1,⟨(k+1,g+1),[0],⟨E,q3,q2⟩,by omega,?_⟩,⟨(0,false),[0],(λh=>nomatch h),rfl,?_⟩,(λh=>nomatch h)⟩;all_goals simp only[go_sem,hw2,Nat.reduceBEq,Nat.reduceLeDiff,Nat.reduceAdd,true_and,and_true]
       all_goals (first|done|decide|(repeat' (first|refine And.intro ?_ ?_|rfl|decide)))
      ·have Y:g=d.hours.toNat:=by
        grind
       subst Y;rw[EL,alC]at U;refine⟨(k,true),[0],λ_=>⟨U,W⟩,rfl,?_⟩;all_goals simp only[go_sem,Nat.reduceBEq,Nat.reduceLeDiff,Nat.reduceAdd,true_and,and_true]
       grind
    ·simp only[go_sem,true_imp_iff,decide_eq_true_eq,alB,false_imp_iff,Nat.reduceBEq,Nat.reduceLeDiff,Nat.reduceAdd,Nat.reduceSub,Nat.reduceMul,true_and,and_true,implies_true];refine⟨λ_ b hb=>?_,λhn=>absurd (Int.natCast_nonneg j) (by grind)⟩;obtain⟨k',b⟩:=b;cases b with
     |true=>
      obtain⟨q1,q2⟩:=hb rfl;simp only[go_sem,hw,Nat.reduceBEq,Nat.reduceLeDiff,Nat.reduceAdd,true_and,and_true];refine⟨(k',j),[0],⟨by omega,q1,q2⟩,Nat.lt_succ_self _,?_⟩;all_goals simp only[go_sem,hw,Nat.reduceBEq,Nat.reduceLeDiff,Nat.reduceAdd,true_and,and_true]
      rfl
     |false=>
      simp only[go_sem,Nat.reduceBEq,Nat.reduceLeDiff,Nat.reduceAdd,true_and,and_true];refine⟨false,[0],rfl,?_⟩;all_goals simp only[go_sem,hw,Nat.reduceBEq,Nat.reduceLeDiff,Nat.reduceAdd,true_and,and_true]
      rfl
 unfold ae Tryz.f245;simp only[go_sem,true_imp_iff,decide_eq_true_eq,Nat.reduceBEq,Nat.reduceLeDiff,Nat.reduceAdd,Nat.reduceSub,Nat.reduceMul,true_and,and_true,implies_true];intro hm;rw[aa9 hm];refine⟨⟨rfl,hm⟩,λb=>?_⟩;cases b;simp only[go_sem];exact⟨0,_,_,[0],.inl rfl,rfl,alw 1,by simp only[go_sem,Nat.reduceBEq,Nat.reduceLeDiff,Nat.reduceAdd,true_and,and_true];rfl⟩;simp only[go_sem];exact⟨items.length+1,_,_,[0],.inr rfl,rfl,alw 1,by simp only[go_sem,Nat.reduceBEq,Nat.reduceLeDiff,Nat.reduceAdd,true_and,and_true];rfl⟩
@[go_sem] def EM:List SV->Option Con:=pR .order λl=>pE (.det (l.length*32<=d9) (.nw .order l))
theorem CK:B1 Tryz.prog 168 EM:=by
 have hG:aoI Tryz.prog (mkG [] []):=ox P0 P0;refine VK [(.tmp 2,.order)] mixed aD hG (fn:=Tryz.f168) (c:=ae Tryz.f168) kr kr kr kr (bN λl=>am λE=>?_);dsimp only[an]at E;refine⟨nbl rfl,L0,ag _,?_⟩;unfold ae Tryz.f168;simp only[go_sem,Nat.reduceBEq,Nat.reduceLeDiff,Nat.reduceAdd,Nat.reduceSub,Nat.reduceMul,Int.reduceLE,Int.reduceLT,Int.reduceToNat,Int.reduceNeg,reduceCtorEq];intro b U;refine⟨λh=>?_,λ_=>⟨E,λ_=>rfl⟩⟩;have O:=U h;subst O;rfl
def upL (d:ah):Nat->Int->List Int
 |0,_=>[]|f+1,n=>if 0<=n then n::upL d f (d.reaches.getD n.toNat (eC .reach)).up else []
def L9 (d:ah):Nat->Int->Prop
 |0,n=>n<0|f+1,n=>0<=n->n<d.reaches.length/\L9 d f (d.reaches.getD n.toNat (eC .reach)).up
def ed (d:ah)(n:Int):List Int:=upL d (n.toNat+1) n
def nZ (d:ah)(n:Int):Prop:=L9 d (n.toNat+1) n
variable {d:ah}{f:Nat}{n:Int}
theorem VL(h:L9 d f n)(O:0<=n):∃ E,f=E+1/\n<d.reaches.length/\L9 d E (d.reaches.getD n.toNat (eC .reach)).up/\upL d f n=n::upL d E (d.reaches.getD n.toNat (eC .reach)).up:=by
 cases f with
 |zero=>exact absurd h (by unfold L9;omega)
 |succ E=>
  obtain⟨h1,h2⟩:=h O;exact⟨E,rfl,h1,h2,by rw[upL,if_pos O]⟩
theorem Dt(E:¬0<=n):upL d f n=[]:=by
 cases f with
 |zero=>rfl|succ O=>rw[upL,if_neg E]
def L_ (x:Int):List SV:=[.v (.int .i64 x)]
@[go_sem] def Cl:List SV->List Ob->Option ao3:=λl h=>noH h ((pD .bh λd=>pI λn=>pE (fL True (.fn 234 [] [.ptr 0 0,.ptr 1 0]) [.cells [.v (.int .i64 n)],.cells (cellsOf .bh d)])) l)
theorem JQ:ao2 Tryz.prog 160 Cl:=by
 have hG:aoI Tryz.prog (mkG [] []):=ox P0 P0;refine ow mixed aD hG (fn:=Tryz.f160) (c:=ae Tryz.f160) kr kr kr kr λl o O h U=>?_;unfold Cl at h;obtain⟨rfl,h⟩:=Qc h;obtain⟨n,l0,rfl,E⟩:=JK h;obtain⟨d,l1,rfl,h1⟩:=UH E;obtain⟨rfl,rfl⟩:=wK h1;refine⟨nbl rfl,L0,ag _,?_⟩;unfold ae Tryz.f160;simp only[go_sem,Nat.reduceBEq,Nat.reduceLeDiff,Nat.reduceAdd,Nat.reduceSub,Nat.reduceMul];refine⟨(),_,_,[1,0],trivial,rfl,?_⟩;simp only[go_sem,Nat.reduceBEq,Nat.reduceLeDiff,Nat.reduceAdd,true_and,and_true];all_goals (first|done|decide|(repeat' (first|refine And.intro ?_ ?_|rfl|decide)))
open Classical in
theorem ahO (d:ah)(n0:Int)(U:nZ d n0):zS Tryz.prog 234 (λy=>[y,.ptr 1 0,.ptr 2 0]) [.cells [.v (.int .i64 n0)],.cells (cellsOf .bh d)] ((ed d n0).map L_):=by
 unfold nZ at U;unfold ed;generalize hI:(upL d (n0.toNat+1) n0).map L_=items;refine Qd (λr hr hy=>?_) (λargs w=>by kernel_rfl);have hG:aoI Tryz.prog (zT [] [] (itY items r)):=Dp (by simp) (by simp) hy;refine⟨λl h=>if l=[.os 0,.ptr 1 0,.ptr 2 0]/\h=[.ab (r 1),.cells [.v (.int .i64 n0)],.cells (cellsOf .bh d)]then some { α:=Nat,pre:=True,post:=λj=>j=0\/j=items.length+1,res:=λj=>.ret (.tup []) [.ab (r j),.dead,.dead]}else none,
  ?_,_,if_pos ⟨rfl,rfl⟩,trivial,λj W=>⟨_,j,_,rfl,W⟩⟩
 refine ow mixed aD hG (fn:=Tryz.f234) (c:=ae Tryz.f234) kr kr kr kr λl o con h hp=>?_;split at h
 rotate_left
 cases h;rename_i Y;obtain⟨rfl,rfl⟩:=Y;cases h;refine⟨nbl rfl,λid st=>bif Nat.beq id 0 then some { α:=Nat×Bool,pre:=lk 0 st.t=.os 0/\lk 1 st.t=.ptr 1 0/\lk 2 st.t=.ptr 2 0/\st.h=[.ab (r 1),.cells [.v (.int .i64 n0)],.cells (cellsOf .bh d)],post:=λj=>j.1=0\/j.1=items.length+1,ex:=λj=>bif j.2 then .ret else .normal,out:=λj=>⟨[],[.ab (r j.1),.dead,.dead]⟩:apB}else none,?_,?_⟩
 ·unfold ae Tryz.f234;simp only[ak,true_and,and_true];refine wJ mixed aD hG kr λst lc hC hp=>?_;simp only[go_sem,Nat.reduceBEq,alx]at hC;subst hC;obtain⟨t,h⟩:=st;dsimp only at hp;obtain⟨h0,h1,h2,rfl⟩:=hp;refine⟨Nat×Nat×Int,λx=>⟨[(0,.os 0),(1,.ptr 1 0),(2,.ptr 2 0)],[.ab (r (x.1+1)),.cells [.v (.int .i64 x.2.2)],.cells (cellsOf .bh d)]⟩,λx=>L9 d x.2.1 x.2.2/\items.drop x.1=(upL d x.2.1 x.2.2).map L_/\x.1<=items.length,λx=>x.2.1,(0,n0.toNat+1,n0),[0,1,2],⟨U,hI.symm,al4 _⟩,alw _,?_,?_⟩;simp only[go_sem,h0,h1,h2,Nat.reduceBEq,Nat.reduceLeDiff,Nat.reduceAdd,true_and,and_true];decide
  ·rintro⟨k,f,n⟩ ⟨hf,E,hk⟩;simp only at hf E hk;refine⟨L0,_,ag _,λ_ _ q=>q,?_⟩;simp only[go_sem,EE hr,true_imp_iff,decide_eq_true_eq,alB,false_imp_iff,Nat.reduceBEq,Nat.reduceLeDiff,Nat.reduceAdd,Nat.reduceSub,Nat.reduceMul,true_and,and_true,implies_true];have O:(upL d f n).length=items.length - k:=by rw[<-amp,E,amo]
   refine⟨λX=>?_,λX=>?_⟩
   ·obtain⟨f',rfl,e1,e2,e3⟩:=VL hf X;have V:items[k]? =some (L_ n):=by
     have:(items.drop k)[0]? =items[k]?:=by rw[anA];rfl
     rw[<-this,E,e3];rfl
    rw[e3]at E O;have hk1:k+1<=items.length:=by simp at O;omega
    have hd':items.drop (k+1)=(upL d f' (d.reaches.getD n.toNat (eC .reach)).up).map L_:=by rw[<-aou,E];rfl
    refine⟨V,⟨⟨X,e1⟩,(k+1,f',(d.reaches.getD n.toNat (eC .reach)).up),[0,1,2],⟨e2,hd',hk1⟩,Nat.lt_succ_self _,?_⟩,⟨(0,true),[0,1,2],.inl rfl,rfl,?_⟩,λh=>nomatch h⟩;all_goals simp only[go_sem,Nat.reduceBEq,Nat.reduceLeDiff,Nat.reduceAdd,true_and,and_true]
    all_goals (first|done|decide|(repeat' (first|refine And.intro ?_ ?_|rfl|decide)))
   have hn':¬0<=n:=by simpa using X
   rw[Dt hn']at O;simp at O;refine⟨(k+1,false),[0,1,2],.inr (by show k+1=_;omega),rfl,?_⟩;simp only[go_sem,Nat.reduceBEq,Nat.reduceLeDiff,Nat.reduceAdd,true_and,and_true];decide
 unfold ae Tryz.f234;simp only[go_sem,true_imp_iff,decide_eq_true_eq,Nat.reduceBEq,Nat.reduceLeDiff,Nat.reduceAdd,Nat.reduceSub,Nat.reduceMul,true_and,and_true,implies_true];rintro⟨j,b⟩ W;cases b;simp only[go_sem];exact⟨j,_,_,[0,1,2],W,rfl,alw 3,by simp only[go_sem,Nat.reduceBEq,Nat.reduceLeDiff,Nat.reduceAdd,true_and,and_true];decide⟩;simp only[go_sem];exact⟨j,_,_,[0,1,2],W,rfl,alw 3,by simp only[go_sem,Nat.reduceBEq,Nat.reduceLeDiff,Nat.reduceAdd,true_and,and_true];decide⟩
def hUp (K:Int->ah->Option ao3):List Ob->Option ao3
 | [.cells [.v (.int .i64 n)],.cells c] =>pDo (λd _=>K n d) [] (vO .bh c)
 |_=>none
@[go_sem] def alo:= @hUp.eq_1
theorem QQ {K:Int->ah->Option ao3}{h:List Ob}{c:ao3}(E:hUp K h=some c):∃ n d,h=[.cells [.v (.int .i64 n)],.cells (cellsOf .bh d)]/\K n d=some c:=by
 unfold hUp at E;split at E
 rename_i n cs;obtain⟨x,r,O,U⟩:=UJ (t:=.bh) (kd:=λd _=>K n d) (l:=[.ep cs 0]) E;simp at O;obtain⟨rfl,rfl⟩:=O;exact⟨n,x,rfl,U⟩;cases E
abbrev ZC:SV:=.fn 234 [] [.ptr 0 0,.ptr 1 0]
noncomputable def iT:List SV->List Ob->Option ao3:=λl h=>hUp (λn d=>pQ (.v (.slice none 0 0)) (pQ ZC (pE (fL (0<=n/\nZ d n/\(ed d n).length*8<=d9) (.os 2) [.dead,.dead,.row .int (ed d n)]))) l) h
noncomputable def pA:List SV->List Ob->Option ao3:=λl h=>hUp (λn d=>pQ ZC (pE (fL (0<=n/\nZ d n/\(ed d n).length*8<=d9) (.os 2) [.dead,.dead,.row .int (ed d n)])) l) h
def Cm:List Int->List Ob
 | [] =>[.dead,.dead,.cells [.v (.slice none 0 0)]]|x::l=>[.dead,.dead,.cells [.os 3],.row .int (x::l)]
def Cn (x:Int)(l:List Int):Empty⊕List Int:=.inr (l++[x])
theorem In:∀ (l m:List Int),dC Cn l m=.inr (m++l)
 | [],m=>by simp[dC]
 |x::l,m=>by simp only[dC,Cn];rw[In l];simp
theorem Ma {B:Nat}:∀ (l m:List Int),m.length+l.length<=B->okL Cn (λ_ s=>s.length+1<=B) l m
 | [],_,_=>trivial
 |x::l,m,h=>⟨by simp at h;omega,λs' E=>by
  simp only[Cn,amd]at E;subst E;exact Ma l _ (by simp at h |-;omega)⟩
theorem adg {d:ah}{n:Int}(E:0<=n):∃ x l,ed d n=x::l:=⟨_,_,by unfold ed;rw[upL,if_pos E]⟩
theorem zq1 {p:Prop}(h:p:=by simp only[go_sem,e6]):p:=h
theorem xV:ao2 Tryz.prog 233 iT:=by
 have hG:aoI Tryz.prog (mkG [] []):=ox P0 P0;refine ow mixed aD hG (fn:=Tryz.f233) (c:=ae Tryz.f233) kr kr kr kr λl o Y h E=>?_;unfold iT at h;obtain⟨n,d,rfl,X⟩:=QQ h;obtain⟨l0,rfl,h1⟩:=EI X;obtain⟨l1,rfl,h2⟩:=EI h1;obtain⟨rfl,rfl⟩:=wK h2;obtain⟨hn,O,hB⟩:=E;refine⟨nbl rfl,λid st=>bif Nat.beq id 0 then some (LC (ρ:=Empty) (σ:=List Int) (lk 2 st.t=.ptr 2 0/\lk 6 st.t=ZC/\st.h=[.cells [.v (.int .i64 n)],.cells (cellsOf .bh d),.cells [.v (.slice none 0 0)]]) (dC Cn (ed d n) []) (·.elim) (·.elim) (λs=>⟨[(2,.ptr 2 0)],Cm s⟩))else none,?_,?_⟩
 ·unfold ae Tryz.f233;simp only[ak,true_and,and_true];refine rZ mixed aD hG (by decide) (by decide) kr kr λst lc U E=>?_;simp only[go_sem,Nat.reduceBEq,alx]at U;subst U;obtain⟨t,h⟩:=st;dsimp only[LC]at E;obtain⟨e2,e6,rfl⟩:=E;refine⟨234,[.ptr 0 0,.ptr 1 0],Int,_,_,ed d n,L_,Cn,λ_ s=>s.length+1<=(ed d n).length,_,[],_,_,_,[(2,.ptr 2 0)],Cm,(·.elim),[0,1,2],?_,rfl,Ma _ _ (by simp),nbl rfl,?_,?_,λx s hq=>⟨rfl,L0,λl=>ag _,λl=>ag _,?_⟩,λs=>?_,λy=>y.elim⟩;exact zq1
  ·simp only[go_sem,sD,jT,alO,amD,alC,alT,amG,Cm,e2,Nat.reduceBEq,Nat.reduceLeDiff,Nat.reduceAdd];all_goals (first|done|decide|(repeat' (first|refine And.intro ?_ ?_|rfl|decide)))
  exact ahO d n O;have W:(s++[x]).length*8<=d9:=by simp;omega
  cases s with
  |nil=>
   simp only[go_sem,psT,L_,Cm,Cn,alU,alC,Nat.reduceBEq,Nat.reduceLeDiff,Nat.reduceAdd,Nat.reduceSub,Nat.reduceMul];exact⟨by simpa using W,λ_=>fk (jl [0,1,2,4])⟩
  |cons a m=>
   simp only[go_sem,psT,L_,Cm,Cn,alU,alC,Nat.reduceBEq,Nat.reduceLeDiff,Nat.reduceAdd,Nat.reduceSub,Nat.reduceMul];exact⟨by simpa using W,λ_=>fk (jl [0,1,2,5])⟩
  cases s with
  |nil=>simp only[Cm];exact fk (jl [0,1,2])|cons a m=>simp only[Cm];exact fk (jl [0,1,2,3])
 ·unfold ae Tryz.f233;obtain⟨x,l,V⟩:=adg (d:=d) hn;simp only[go_sem,Nat.reduceBEq,Nat.reduceLeDiff,Nat.reduceAdd,Nat.reduceSub,Nat.reduceMul,In,V,Cm,alC];refine⟨λy=>y.elim,λs hs=>?_⟩;cases hs;simp only[go_sem,Nat.reduceBEq,Nat.reduceLeDiff,Nat.reduceAdd,Nat.reduceSub,Nat.reduceMul];refine⟨(),_,_,[0,1,3],trivial,rfl,?_⟩;simp only[go_sem,V,Nat.reduceBEq,Nat.reduceLeDiff,Nat.reduceAdd,true_and,and_true];all_goals (first|done|decide|(repeat' (first|refine And.intro ?_ ?_|rfl|decide)))
theorem z6:ao2 Tryz.prog 159 pA:=by
 have hG:aoI Tryz.prog (mkG [] [(233,iT)]):=ox P0 (cgc xV P0);refine ow mixed aD hG (fn:=Tryz.f159) (c:=ae Tryz.f159) kr kr kr kr λl o O h U=>?_;unfold pA at h;obtain⟨n,d,rfl,E⟩:=QQ h;obtain⟨l1,rfl,h2⟩:=EI E;obtain⟨rfl,rfl⟩:=wK h2;refine⟨nbl rfl,L0,ag _,?_⟩;unfold ae Tryz.f159;simp only[go_sem,iT,ZC,Nat.reduceBEq,Nat.reduceLeDiff,Nat.reduceAdd,Nat.reduceSub,Nat.reduceMul];refine⟨U,(),_,_,[0,1,2],trivial,rfl,?_⟩;simp only[go_sem,Nat.reduceBEq,Nat.reduceLeDiff,Nat.reduceAdd,true_and,and_true];all_goals (first|done|decide|(repeat' (first|refine And.intro ?_ ?_|rfl|decide)))
attribute [go_sem] iT pA
end Go.Sx
end
section
namespace Go.Sx
open Go.RowKit
def pXM {α:Type 1}(t t2:Tag)(k:List (t.T×t2.T)->List SV->Option α):List SV->Option α
 | .ep [s] 0::r=>pM t t2 k (s::r)|_=>none
@[go_sem] def ahP:= @pXM.eq_1
theorem JR {α:Type 1}{G:List SV->α->Prop}{t t2:Tag}{k:List (t.T×t2.T)->List SV->Option α}(h:∀ n l c,k n l=some c->G (.ep [.rm t t2 n] 0::l) c):∀ l c,pXM t t2 k l=some c->G l c:=λl c hc=>by
 unfold pXM at hc;split at hc
 obtain⟨x,r,e,h1⟩:=UK hc;simp only[anb]at e;obtain⟨rfl,rfl⟩:=e;exact h x _ c h1;cases hc
section
universe u
variable {α:Type u}{G:List SV->α->Prop}
def pLS (k:List SV->Option (List SV->Option α)):List SV->Option α
 | .ls 1 l::r=>apO (k l) r|_=>none
@[go_sem] def alp:= @pLS.eq_1
end
open Classical in
noncomputable def jf {τ:Type}(A:τ->List SV)(H:τ->List Ob)(K:τ->ao3):List SV->List Ob->Option ao3:=λl h=>if e:∃ x,l=A x/\h=H x then some (K e.choose)else none
def VM (x:bl):(⟨x.no,x.kind,x.right,x.since,x.to,x.parts,x.of_,x.at_,x.known⟩:bl)=x:=rfl
def JS (d:ah):(⟨d.name,d.hours,⟨d.Y2.cap,d.Y2.start⟩,d.reaches,d.u0,d.ao1,d.al,d.aoT,d.apn⟩:ah)=d:=rfl
theorem Sz {k:Tag}{x y:k.T}:cellsOf k x=cellsOf k y↔x=y:=⟨λh=>by
 have h1:=AY x;rw[h,AY y]at h1;exact(Option.some.inj h1).symm,λh=>by rw[h]⟩
theorem fO {τ:Type}{A:τ->List SV}{H:τ->List Ob}{K:τ->ao3}{x:τ}(E:∀ x y,A x=A y->H x=H y->x=y:=by
 intro x y h1 h2;simp only[anb,SV.agg.injEq,SV.ep.injEq,SV.v.injEq,Value.int.injEq,Value.bool.injEq,Value.string.injEq,SV.fn.injEq,SV.rs.injEq,SV.rm.injEq,Ob.row.injEq,Ob.mp.injEq,Ob.cells.injEq,Ob.apg.injEq,heq_eq_eq,Sz,true_and,and_true]at h1 h2;first|exact h2|exact h1|(simp_all [Prod.ext_iff];done)):jf A H K (A x) (H x)=some (K x):=by
 have e:∃ y,A x=A y/\H x=H y:=⟨x,rfl,rfl⟩;unfold jf;rw[dif_pos e];have:=E _ _ e.choose_spec.1 e.choose_spec.2;rw[<-this]
theorem dS {τ:Type}{A:τ->List SV}{H:τ->List Ob}{K:τ->ao3}{l:List SV}{h:List Ob}{c:ao3}(E:jf A H K l h=some c):∃ x,l=A x/\h=H x/\c=K x:=by
 unfold jf at E;split at E
 rename_i e;simp only[alx]at E;exact⟨e.choose,e.choose_spec.1,e.choose_spec.2,E.symm⟩;cases E
section
variable {P:Program}{ts:Tis}{G:Cons}{N:Nat}
theorem yZ (hm:P.follows .mixedOrders=true)(hts:ts.ok P)(hG:aoI P G){id:Nat}{g:Operand}{W:Array Tmp}{assign body:Code}{C:St->Option apB}
  (Y:W.toList.Nodup) (hpN:∀ p∈W.toList,p<N) (X:cV N assign=true) (hcb:cV N body=true)
  (h:∀ E U,C E=some U->U.pre->∃ st,apE E st/\∃ (f:FuncId) (caps:List SV) (τ ρ σ:Type) (l:List τ) (mk:τ->List SV) (step:τ->σ->ρ⊕σ) (p:τ->σ->Prop) (pre:Prop) (s0:σ) (exE:ρ->Ex) (W1:ρ->St) (ao0:σ->St) (T:List (Nat×SV)) (H:σ->List Ob) (Hy:ρ->List Ob) (js:List Nat),
   raw st.t g=.fn f [] caps/\U=LC pre (dC step l s0) exE W1 ao0/\okL step p l s0/\st.h.length<=(H s0).length/\Sub js st.h.length ⟨st.t,sD (jT st caps) st.h⟩ ⟨T,H s0⟩/\
   zS P f (λy=>y::caps.map (ren (Oy (jT st caps)) 3)) (LU (jT st caps) st.h) (l.map mk)/\
   (∀ x s,p x s->(mk x).length=W.size/\∃ L,(∀ l,ak P (some l) N L assign)/\(∀ l,ak P (some l) N L body)/\exec ts G L assign ⟨psT W.toList (mk x)++T,H s⟩ (λe st1=>e=.normal/\exec ts G L body st1 (rgQ step exE T H Hy st.h.length id x s)))/\
   (∀ s,oy (ao0 s) st.h.length ⟨T,H s⟩)/\∀ y,oy (W1 y) st.h.length ⟨T,Hy y⟩):kZ P none N id (.rangeFunc g W assign body) C:=by
 intro nd F w0 E U hC O own a w hr;obtain⟨st,hN,V⟩:=h E U hC O;obtain⟨bo,hr'⟩:=hN.rel hr;refine rZ hm hts hG Y hpN X hcb (C:=λs=>@ite _ (s=st) (Classical.propDecidable _) (some U) none) (λs l e _=>?_) nd F w0 st U (if_pos rfl) O bo a w hr';split at e
 rename_i e1;subst e1;cases e;exact V;cases e
end
def adh (n0 id:Nat):Ob->SV
 | .row k l=>bif Nat.ble n0 id then .rs k l else .any|_=>.any
def isV:SV->Bool
 | .v _=>true|_=>false
def SA (n0:Nat)(h:List Ob):SV->SV
 | .v x=>.v x| .rs k l=>.rs k l| .agg l=>bif l.all isV then .agg l else .any| .os id=>adh n0 id (aq h id)|_=>.any
def OB (n0:Nat)(h:List Ob):SV->SV
 | .tup l=>.tup (l.map (SA n0 h))|s=>SA n0 h s
section
variable {F:Nat->Prop}{own:Own}{w:World}{n0:Nat}{h:List Ob}
@[go_sem] def ahQ:= @OB.eq_1
def aj8 {id:Nat}:OB n0 h (.os id)=adh n0 id (aq h id):=(rfl)
def alq {x:Value}:OB n0 h (.v x)=.v x:=(rfl)
def aj9 {k:Tag}{l:List k.T}:OB n0 h (.rs k l)=.rs k l:=(rfl)
def ahR {l:List SV}:OB n0 h (.agg l)=bif l.all isV then .agg l else .any:=(rfl)
attribute[go_sem]aj8 alq aj9 ahR
@[go_sem] def alr:= @SA.eq_1
@[go_sem] def aj_:= @SA.eq_2
@[go_sem] def ahS:= @SA.eq_3
@[go_sem] def aka:= @SA.eq_4
@[go_sem] def ahT:= @adh.eq_1
@[go_sem] def asy:= @isV.eq_1
end
def adi (pks:List Pk)(n0:Nat)(S:SV)(H:List Ob)(h:List Ob):Option SV->Prop
 |some s=>S=xU pks (OB n0 h s)/\oy ⟨[],H⟩ n0 ⟨[],h⟩|none=>False
def aa_ (pks:List Pk)(n0:Nat)(rs:List ResultVar)(ts:Tis)(S:SV)(H:List Ob):Ex->St->Prop
 | .exit _,_=>False| .normal,st=>adi pks n0 S H st.h (th (re ts st rs))| .ret,st=>adi pks n0 S H st.h (th (re ts st rs))| .pan _,_=>False
section
variable {P:Program}{ts:Tis}{G:Cons}{n0:Nat}{S s:SV}{H h:List Ob}{rs:List ResultVar}{st:St}{pks:List Pk}
@[go_sem] def afS:= @adi.eq_1
@[go_sem] def ZD:= @aa_.eq_2
@[go_sem] def afT:= @aa_.eq_3
end
def ahU (h:List Ob):Option Con->Option ao3
 |some (.det p s) =>some (fL p (OB 0 (aV 3 s) (jn 3 0 s)) (h.map λ_=>.dead))
 |_=>none
def arZ (C:List SV->Option Con)(l:List SV)(h:List Ob):Option ao3:=ahU h (C (l.map (gw h 6)))
@[go_sem] def akb:= @arZ.eq_1
@[go_sem] def ahV:= @ahU.eq_1
section
variable {P:Program}{F:Nat->Prop}{own:Own}{w w':World}
end
end Go.Sx
end
section
namespace Go.Sx
def ahW {te:TI}{nx:Nat}{h:List Ob}{s:SV}:mt te nx h [.any,s]=.bad:=(rfl)
def als {t:Tag}{f:List t.T->List SV->Option Con}{l:List SV}:pR t f (.any::l)=none:=(rfl)
attribute[go_sem]ahW als
end Go.Sx
end
section
namespace Go.Sx
universe u
section
variable {α:Type u}
def pV (k:Int->List SV->Option α):List SV->Option α
 | .v (.int .u8 n)::r=>k n r|_=>none
@[go_sem] def akc:= @pV.eq_1
variable {k:Int->List SV->Option α}
theorem adj{l:List SV}{c:α}(h:pV k l=some c):∃ n r,l=.v (.int .u8 n)::r/\k n r=some c:=by
 unfold pV at h;split at h
 exact⟨_,_,rfl,h⟩;cases h
def pW (k:Int->List SV->Option α):List SV->Option α
 | .v (.int .u16 n)::r=>k n r|_=>none
@[go_sem] def akd:= @pW.eq_1
theorem VN{G:List SV->α->Prop}(h:∀ n l c,k n l=some c->G (.v (.int .u8 n)::l) c):∀ l c,pV k l=some c->G l c:=λl c hc=>by
 obtain⟨n,r,rfl,h1⟩:=adj hc;exact h n r c h1
end
end Go.Sx
end
section
namespace Go.Sx
open Go.RowKit
def orC {α:Type 1}:Option α->Option α->Option α
 |some x,_=>some x|none,y=>y
@[go_sem] def ahX:= @orC.eq_1
@[go_sem] def ahY:= @orC.eq_2
theorem xx {α:Type 1}{a b:Option α}{c:α}(h:orC a b=some c):a=some c\/b=some c:=by
 cases a with
 |none=>exact .inr h|some x=>exact .inl h
variable {P:Program}{f:FuncId}
theorem ao2.or{C D:List SV->List Ob->Option ao3}(h1:ao2 P f C)(h2:ao2 P f D):ao2 P f (λl h=>orC (C l h) (D l h)):=
 ⟨λl h c hc=>by rcases xx hc with e|e;exact h1.enter l h c e;exact h2.enter l h c e,
  λl h c hc=>by rcases xx hc with e|e;exact h1.calls l h c e;exact h2.calls l h c e⟩
theorem B1.or{C D:List SV->Option Con}(h1:B1 P f C)(h2:B1 P f D):B1 P f (λl=>orC (C l) (D l)):=
 ⟨λl c hc=>by rcases xx hc with e|e;exact h1.enter l c e;exact h2.enter l c e,
  λl c hc=>by rcases xx hc with e|e;exact h1.calls l c e;exact h2.calls l c e⟩
end Go.Sx
end
section
namespace Go.Sx
def adk {α:Type}:Result α->World
 | .ok _ w=>w| .halt _ w=>w
theorem OC {α:Type}:∀ (a:Ask α) (w:World),w.drawn<=(w.ask a).2.drawn
 | .done a,w=>alw _
 | .ask what range k,w=>by
  unfold World.ask;dsimp only;split
  exact OC _ w;exact alQ (Nat.le_succ _) (OC _ { w with drawn:=w.drawn+1})
theorem adl (w:World)(c:Sys):w.drawn<=(w.sys c).2.drawn:=by
 unfold World.sys;have:=OC (Kernel.perform c w.os) w;grind
variable {p:Program}{w:World}{v:Value}
theorem Mb{w':World}{a:Addr}{b:Bool}{l:List Addr}(h:w.farStore p a v b=.ok (w',l)):w'.drawn=w.drawn:=by
 unfold World.farStore at h;split at h
 ·split at h
  ·rename_i r E;cases h;unfold World.viewStore at E;simp only[bind,Except.bind,pure,Except.pure]at E
   repeat' split at E
   all_goals (first|(cases E;done) |skip)
   all_goals (cases E;rfl)
  cases h
 cases h
variable {α:Type}
theorem JT(p:Program):∀ (s:Sem α) (w:World),w.drawn<=(adk (s.run p w)).drawn:=by
 intro s;induction s with
 |pure a=>intro w;exact alw _
 |load m a k E=>
  intro w;unfold Sem.run;split
  exact E _ w;split
  exact E _ w;exact alw _
 |store m a v k E=>
  intro w;cases v
  case agg=>exact alw _
  case tuple=>exact alw _
  all_goals
   simp only[Sem.run];split
   split
   exact alw _;exact E (w.setCell a _);split
   rename_i h;rw[<-Mb h];exact E _;exact alw _
 |new o k E=>intro w;exact E w.heap.size { w with heap:=w.heap.push o}
 |shape r k E=>intro w;exact E _ _
 |freeze a n k E=>
  intro w;have:(w.freeze a n).drawn=w.drawn:=by grind [World.freeze]
  rw[<-this];exact E _
 |frozen a k E=>intro w;exact E _ _
 |getObj r k E=>
  intro w;unfold Sem.run;split
  exact alw _;exact E _ _;exact alw _
 |setObj r o k E=>
  intro w;unfold Sem.run;split
  exact alw _;grind
  exact alw _
 |choose q k E=>
  grind [Sem.run]
 |sys c k E=>intro w;exact alQ (adl w c) (E _ _)|program k E=>intro w;exact E _ _|mark m k E=>intro w;exact E _|halt h=>intro w;exact alw _
theorem VO(p:Program):∀ (s:Sem α) (w:World) (es:Array Event),(s.runT p w es).1=s.run p w:=by
 simp_all
theorem lL{s:Sem α}{w':World}{a:α}(h:s.run p w=.ok a w'):w.drawn<=w'.drawn:=by have:=JT p s w;rw[h]at this;exact this
theorem VP{s:Sem α}{w':World}{a:Halt}(h:s.run p w=.halt a w'):w.drawn<=w'.drawn:=by have:=JT p s w;rw[h]at this;exact this
theorem rL{s:Sem α}{es E:Array Event}{r:Result α}(h:s.runT p w es=(r,E)):w.drawn<=(adk r).drawn:=by
 have:=VO p s w es;rw[h]at this;have h2:=JT p s w;grind
def gLe (w:World):GStep->Prop
 | .ended .. =>True| .go _ w' _| .comm _ _ _ _ w' _| .spawn _ _ w' _| .count _ w' _| .timer _ _ w' _| .alone _ _ w' _| .newcoro _ _ _ w' _| .coroswitch _ _ _ w' _| .collect _ w' _| .watch _ w' _=>w.drawn<=w'.drawn
theorem gLe.after{es:Array Event}{s:GStep}(h:gLe w s):gLe w (s.after es):=by cases s <;>exact h
theorem gLe.trans{w':World}{s:GStep}(h1:w.drawn<=w'.drawn)(h:gLe w' s):gLe w s:=by cases s <;>first|trivial|exact alQ h1 h
theorem Du{c:Prop}[Decidable c]{a b:GStep}(h1:gLe w a)(h2:gLe w b):gLe w (if c then a else b):=by grind
def tI (fr:Frame)(m:String)(w:World):gLe w (endThrow fr m w):=alw _
theorem wN (p:Program)(fr:Frame)(v:Value)(w:World):gLe w (endPrinting p fr v w):=by
 unfold endPrinting;dsimp only;split
 exact tI _ _ _;trivial
theorem Co (p:Program)(fr:Frame)(E:List Frame)(O:Option Dying)(m:String)(w:World):gLe w (endFatal p fr E O m w):=by
 unfold endFatal
 extract_lets
 split
 rename_i h;exact lL h;trivial;trivial
theorem OD (p:Program)(fr:Frame)(d:Dying)(f:Fatal)(w:World):gLe w (writeOn p fr d f w):=by
 unfold writeOn
 extract_lets
 split
 trivial
 extract_lets
 generalize h:Sem.runT _ _ _ _=rr;obtain⟨r,es⟩:=rr;have h:=rL h;split
 rename_i e;cases e;exact h;rename_i e;cases e;exact h;trivial;trivial
theorem OE (w w':World)(fd:Nat)(t:ByteArray)(o:Outcome):gLe w (endWith w' fd t o):=by
 unfold endWith
 extract_lets
 split
 split <;>trivial
 trivial;trivial
theorem adm (p:Program)(fr:Frame)(d:Dying)(w:World):gLe w (die p fr d w):=by
 unfold die;split
 exact OD _ _ _ _ _
 ·split
  split
  exact alw _;exact OE _ _ _ _ _
  ·extract_lets
   split
   exact alw _;split
   rename_i h;exact lL h;trivial
   ·split
    rename_i h;have h:=rL h;refine gLe.after ?_;split
    all_goals first|exact h|trivial|exact gLe.trans h (wN _ _ _ _)
   trivial
theorem wO (p:Program)(U:Bool)(fr:Frame)(E:List Frame)(O:Option Dying)(v:Value)(w:World):gLe w (doReturn p U fr E O v w):=by
 unfold doReturn;split
 ·split
  all_goals exact alw _
 split
 exact alw _;trivial;split
 exact alw _;split
 exact alw _;trivial
theorem CL (p:Program)(fr:Frame)(E:List Frame)(O:Option Dying)(d:Deferred)(w:World):gLe w (callDeferred p fr E O d w):=by
 unfold callDeferred;refine Du trivial ?_;rcases h:(invoke d.target d.args).runT p w #[]with⟨r,es⟩;have h:=rL h;dsimp only;refine gLe.after ?_;split
 all_goals first|exact h|trivial|exact gLe.trans h (Co _ _ _ _ _ _) |exact gLe.trans h (tI _ _ _) |skip
 split <;>exact h
theorem SB (p:Program)(U:Bool)(fr:Frame)(E:List Frame)(O:Option Dying)(w:World):gLe w (unwind p U fr E O w):=by
 unfold unwind;split
 split
 rename_i h;have h:=rL h;refine gLe.after ?_;split
 exact h;trivial;exact CL _ _ _ _ _ _;split
 trivial;split
 trivial;split
 exact alw _;split
 split
 exact alw _;split
 rename_i h;exact lL h;trivial;trivial;split
 exact wN _ _ _ _;trivial;split
 exact wO _ _ _ _ _ _ _;split
 rename_i h;have h:=rL h;refine gLe.after ?_;split
 exact gLe.trans h (wO _ _ _ _ _ _ _);trivial;trivial
theorem VQ (p:Program)(fr:Frame)(E:List Frame)(O:Option Dying)(g:Nat)(w:World):gLe w (early p fr E O g w):=by
 unfold early
 extract_lets refuse notYet there
 have V:∀ w0:World,w.drawn<=w0.drawn->gLe w (notYet w0):=λw0 U=>by
  show gLe w (match w0.heap[g]? with|some (.pending c elem) =>_|_=>_);split
  exact U;trivial
 split
 grind
 split
 trivial
 extract_lets there
 have W:∀ w0:World,w.drawn<=w0.drawn->gLe w (there w0):=λw0 U=>U;split
 grind
 split
 grind
 split
 trivial;grind
 trivial;grind
 split
 grind
 split
 grind
 split
 rename_i h;exact V _ (lL h);rename_i h;exact W _ (lL h);trivial
theorem wP (p:Program)(E:Bool)(fr:Frame)(O:List Frame)(U:Option Dying)(s:Sem Next)(w:World):gLe w (Go.stepG.apply p E fr O U s w):=by
 unfold Go.stepG.apply
 extract_lets go kind
 have Y:∃ r es,(if E=true then s.runT p w #[]else(s.run p w,#[]))=(r,es)/\w.drawn<=(adk r).drawn:=by
  split
  rcases h:s.runT p w #[]with⟨r,es⟩;exact⟨r,es,rfl,rL h⟩;exact⟨_,_,rfl,JT p s w⟩
 obtain⟨r,es,X,h⟩:=Y;rw[X];dsimp only;refine gLe.after ?_;have V:∀ fr w0,w.drawn<=w0.drawn->gLe w (go fr w0):=λfr w0 W=>W;split
 all_goals first|exact h|trivial|exact V _ _ h|exact gLe.trans h (Co _ _ _ _ _ _) |exact gLe.trans h (tI _ _ _) |exact gLe.trans h (VQ _ _ _ _ _ _) |skip
 all_goals first|(refine Du (gLe.trans h (tI _ _ _)) ?_;exact h) |(split <;>first|exact h|trivial|exact V _ _ h)
theorem ZE (p:Program)(O:Bool)(fr:Frame)(E:List Frame)(U:Option Dying)(w:World):gLe w (Go.stepG.oper p O fr E U w):=by
 unfold Go.stepG.oper;split
 trivial;split
 exact wP _ _ _ _ _ _ _;exact wP _ _ _ _ _ _ _
theorem QR{o:Option α}{a:GStep}{f:α->GStep}(h1:gLe w a)(h2:∀ x,gLe w (f x)):gLe w (o.elim a f):=by cases o;exact h1;exact h2 _
theorem ZF (p:Program)(main V:Bool)(fr:Frame)(O:List Frame)(Y:Option Dying)(w:World):gLe w (Go.stepG.exec p main V fr O Y w):=by
 unfold Go.stepG.exec
 extract_lets go to lost leave
 have W:∀ fr w0,w.drawn<=w0.drawn->gLe w (go fr w0):=λfr w0 h0=>h0;have X:∀ k,gLe w (to k):=λk=>alw _;have U:∀ m,gLe w (lost m):=λ_=>trivial;have E:∀ j,gLe w (leave j):=λj=>by
  show gLe w (match fr.roundOf with|none=>_|some l=>_);split
  grind
  rcases h:(Instr.endRound _ j).runT p w #[]with⟨r,es⟩;have h:=rL h;dsimp only;refine gLe.after ?_;split
  exact gLe.trans h (wO _ _ _ _ _ _ _);trivial
 have hgo1:∀ fr,gLe w (go fr w):=λfr=>alw _
 clear_value to lost leave
 split
 all_goals first|exact E _|exact X _|exact U _|trivial|exact QR (E _) X|exact wP _ _ _ _ _ _ _|exact QR (U _) (λ_=>wP _ _ _ _ _ _ _) |skip
 grind
 rcases h:(Instr.enterLoop fr.fn fr.tmps _ _ _ fr.roundOf).runT p w #[]with⟨r,es⟩;have h:=rL h;dsimp only;refine gLe.after ?_;split
 exact gLe.trans h (wP _ _ _ _ _ _ _);trivial;rcases h:(Instr.endLoop _).runT p w #[]with⟨r,es⟩;have h:=rL h;dsimp only;refine gLe.after ?_;split
 exact W _ _ h;exact W _ _ h;trivial;refine Du (X _) ?_;split
 rename_i h;exact W _ _ (lL h);trivial;exact Du (ZE _ _ _ _ _ _) (hgo1 _)
theorem VR (p:Program)(U:Bool)(g:Goroutine)(w:World)(E:Bool):gLe w (Go.stepG p U g w E):=by
 unfold Go.stepG;obtain⟨fr,O,st,V,off⟩:=g;dsimp only;split
 exact adm _ _ _ _;exact ZF _ _ _ _ _ _ _;exact SB _ _ _ _ _ _
def sLe (w:World):Stepped->Prop
 | .next m=>w.drawn<=m.world.drawn| .ended .. =>True
theorem sLe.trans{w':World}{s:Stepped}(h1:w.drawn<=w'.drawn)(h:sLe w' s):sLe w s:=by cases s <;>first|trivial|exact alQ h1 h
theorem QS{c:Prop}[Decidable c]{a b:Stepped}(h1:sLe w a)(h2:sLe w b):sLe w (if c then a else b):=by grind
theorem QT (p:Program)(E:Array Goroutine)(rest:Rest)(w:World):sLe w (look p E rest w):=by
 unfold look;split
 extract_lets
 refine QS trivial ?_;split
 trivial
 extract_lets
 split
 rename_i h;have h:=lL h;exact h;trivial;trivial;trivial
theorem JU{rest:Rest}{cases:Array CommCase}{w':World}(h:waitingAt rest cases w=some w'):w.drawn<=w'.drawn:=by
 grind [waitingAt]
theorem EN (p:Program)(rest:Rest)(U:Array Goroutine)(i:Nat)(g:Goroutine)(cases:Array CommCase)(V:Bool)(O:CommShape)(w:World):sLe w (communicate p rest U i g cases V O w).1:=by
 unfold communicate
 extract_lets put illMade me other
 have E:∀ g U w0 ops,w.drawn<=w0.drawn->sLe w (put g U w0 ops).1:=λ_ _ _ _ h=>h;split
 trivial;split
 split
 split
 rename_i h;exact JU h;trivial;simp_all;split
 trivial;rename_i h;have hw:=lL h;clear h
 extract_lets r
 split
 split
 rename_i h2;exact E _ _ _ _ (alQ hw (VP h2));trivial;simp_all;simp_all
 extract_lets
 split
 simp_all;split
 rename_i h2;have W:=lL h2;exact E _ _ _ _ (alQ hw W);trivial;simp_all;simp_all;trivial
theorem Io (m:Machine)(k:Nat)(t:Timer)(a b:Nat):m.world.drawn<=(retime m k t a b).2.world.drawn:=by
 grind [retime,drain]
variable {m O:Machine}
theorem OF{op:TimerOp}(h:timerOp m op=.ok (v,O)):m.world.drawn<=O.world.drawn:=by
 have named:∀ (D:Nat) (U:Machine) E f,(∀ k t,D<=(f k t).2.world.drawn)->timerOp.named U E f=.ok (v,O)->D<=O.world.drawn:=λD U E f W h=>by
  grind [timerOp.named]
 unfold timerOp at h;split at h
 split at h
 cases h;exact alw _;grind
 exact named _ _ _ _ (λk t=>Io _ _ _ _ _) h;split at h
 rename_i m1 V;have h1:m.world.drawn<=m1.world.drawn:=by
  grind [timerOp.opened]
 exact alQ h1 (named m1.world.drawn _ _ _ (λk t=>Io _ _ _ _ _) h);cases h;cases h;exact alw _
theorem VS (p:Program)(m:Machine)(i:Nat)(O:Bool):sLe m.world (Go.runT p m i O).1:=by
 unfold Go.runT
 extract_lets rest world
 split
 extract_lets wake fn pos s ops done
 have E:gLe m.world s:=VR _ _ _ _ _;have hd:∀ r,(done r).1=r:=λr=>rfl
 clear_value s done
 split
 all_goals try rw[hd]
 trivial;split
 rename_i h;have:=EN p rest ‹_› i ‹_› ‹_› ‹_› ‹_› ‹_›;rw[h]at this;exact sLe.trans E this;exact E;exact E;exact QS trivial E;exact E;exact sLe.trans E (QT _ _ _ _);exact E;exact E;split
 exact E;split
 rename_i h;simp only[endThrow,dieOf]at h;cases h;exact E;trivial;trivial;split
 rename_i h;exact alQ E (OF h);exact E;trivial;trivial
theorem VT (p:Program)(m:Machine)(k:Nat):sLe m.world (serve p m k):=by
 unfold serve;split
 trivial;exact alw _
 extract_lets
 split
 trivial;exact alw _
def mLe (w:World):Move->Prop
 | .goroutine m _=>w.drawn<=m.world.drawn| .machine s _=>sLe w s
theorem mLe.trans{w':World}{s:Move}(h1:w.drawn<=w'.drawn)(h:mLe w' s):mLe w s:=by
 cases s;exact alQ h1 h;exact sLe.trans h1 h
theorem EO (p:Program)(m:Machine):mLe m.world (askOn p m):=by
 unfold askOn
 extract_lets mono rs ds pick
 have E:∀ O:Machine,m.world.drawn<=O.world.drawn->mLe m.world (pick O):=λO U=>by
  show mLe m.world (match (choose (.sched rs.length)).run p O.world with| .halt _ w=>_| .ok k world=>_);split
  trivial;rename_i h;have h1:=lL h;split
  exact alQ U h1;split
  trivial;rename_i h2;have h2:=lL h2;exact alQ U (alQ h1 h2)
 clear_value pick rs ds
 split
 trivial;rename_i h;have hw:=lL h;clear h
 extract_lets m1
 split
 exact sLe.trans hw (VT p _ _);cases rs with
 |nil=>
  dsimp only;split
  exact hw;split
  exact hw;split <;>trivial
 |cons r rs=>
  dsimp only;split
  grind
  split
  trivial;rename_i h;have h2:=lL h;grind;rename_i h;have h2:=lL h;exact alQ hw h2;rename_i h;have h2:=lL h;exact E _ (alQ hw h2)
theorem Mc (p:Program)(m:Machine):mLe m.world (ask p m):=by
 unfold ask;split
 split
 trivial;rename_i h;have hw:=lL h;have:=QT p m.gs m.rest ‹World›;split
 rename_i E h2;rw[h2]at this;exact mLe.trans (alQ hw this) (EO p _);rename_i e h2;exact sLe.trans hw this;rename_i h;have hw:=lL h;exact mLe.trans hw (EO p _);exact EO p m
theorem ZG (p:Program)(m:Machine):mLe m.world (move p m):=by
 unfold move;split
 split
 exact alw _;trivial;split
 split
 exact alw _;exact Mc p _;exact Mc p m
theorem ZH (p:Program)(m:Machine):sLe m.world (step p m):=by
 unfold step stepT;have:=ZG p m;split
 rename_i h;rw[h]at this;exact sLe.trans this (VS p _ _ _);rename_i h;rw[h]at this;exact this
theorem Md(h:Steps p m O):m.world.drawn<=O.world.drawn:=by
 obtain⟨n,E⟩:=h;induction n generalizing m with
 |zero=>grind [runN]
 |succ n V=>
  simp only[runN]at E;have:=ZH p m;cases U:step p m with
  |next m1=>
   rw[U]at E this;exact alQ this (V E)
  |ended o w=>grind
theorem Me{P:Program}{f:FuncId}{args:Array Value}{R:Ending->World->Prop}(h:Calls P f args w R):Calls P f args w λe w'=>R e w'/\(e≠ .outgrown->w.drawn<=w'.drawn):=by
 intro cs;obtain⟨e,w',fr,U,hc,V,O⟩:=h cs;refine⟨e,w',fr,⟨U,λE=>?_⟩,hc,V,O⟩;cases e with
 |returned v=>exact Md (p:=P) hc|panicked c=>exact Md (p:=P) hc|outgrown=>grind
end Go.Sx
end
section
namespace Go.Sx
open Go.Lib Go.Proofs Go.RowKit Go.Shelf Go.Sort
def VU:SV->Value
 | .v x=>x|_=>undef
def sI (k:Tag)(x:k.T):List Value:=(cellsOf k x).map VU
def wQ (k:Tag):Prop:= ∀ (x:k.T) (s:SV),s∈cellsOf k x->∃ v,s=.v v/\v.oneCell'=true
def srt {α:Type}(cf:α->α->Int)(l:List α):List α:=l.mergeSort λx y=>!(ltOf cf y x)
def apart {α:Type}(cf:α->α->Int)(l:List α):Prop:= ∀ x∈l,∀ y∈l,ltOf cf x y=false->ltOf cf y x=false->x=y
theorem OG {α:Type}[Inhabited α]{cf:α->α->Int}(U:SWO (ltOf cf)){l:List α}(h:apart cf l){O:Array α}(X:PermIn 0 l.toArray.size l.toArray O)(hs:SortedIn (ltOf cf) 0 l.toArray.size O):O=(srt cf l).toArray:=by
 obtain⟨Y,_,E⟩:=X;have e1:O.extract 0 l.toArray.size=O:=by grind
 rw[e1,Array.extract_size]at E;have E:O.toList.Perm l:=by omega
 have:O.toList=srt cf l:=by
  refine amx (le:=λx y=>(!ltOf cf y x)=true) ?_ ?_ ?_ (E.trans (amr _ _).symm);intro a b ha hb h1 h2;simp only[alL]at h1 h2;exact h a (E.subset ha) b ((amr _ _).subset hb) h2 h1;rw[al3];intro i j hi hj V;have:=hs i j (al4 _) V (by grind);grind
  refine amm (λa b c h1 h2=>?_) (λa b=>?_) l;simp only[alL]at h1 h2 |-;exact U.ntrans c b a h2 h1;simp only[alY,alL];cases h1:ltOf cf b a with
  |false=>grind
  |true=>
   right;cases h2:ltOf cf a b with
   |false=>rfl
   |true=>
    have W:=U.trans a b a h2 h1;rw[U.irrefl]at W;cases W
 rw[<-this]
section
variable {P:Program}{ρ:Ren}{F:Nat->Prop}{own:Own}{w:World}{k:Tag}
variable {l:List k.T}{o:Nat}{cs:Array Value}
theorem Be(W:wQ k)(h:apm F own w k l o cs){i j:Nat}(hi:i<l.length)(X:j<aa k):cs[o+i*aa k+j]? =(sI k l[i])[j]?:=by
 have U:=alE hi;have E:j< (cellsOf k l[i]).length:=by grind [bE]
 have O:=alE E;obtain⟨u,h1,h2⟩:=h i _ U j _ O;obtain⟨v,V,_⟩:=W l[i] _ (amM E);rw[h1];unfold sI;rw[aml,O];rw[V]at h2 |-;rw[cK h2];rfl
theorem Bf(W:wQ k)(h:∀ i j,(hi:i<l.length)->j<aa k->cs[o+i*aa k+j]? =(sI k l[i])[j]?):apm F own w k l o cs:=by
 intro i x hi j s O;obtain⟨V,rfl⟩:=alz.1 hi;have E:=(alz.1 O).1;rw[bE]at E;have:=h i j V E;unfold sI at this;rw[aml,O]at this;obtain⟨v,U,_⟩:=W _ s (alH O);subst U;exact⟨v,this,.v v⟩
theorem ZI {w w':World}(hb:Go.RowKit.Below w.heap.size w w')(hd:w.drawn<=w'.drawn):∃ q os,w'=grow (w.drewN q) os:=by
 refine⟨w'.drawn - w.drawn,w'.heap.extract w.heap.size w'.heap.size,?_⟩;obtain⟨h1,h2,X,h4,h5⟩:=hb;obtain⟨heap,Y,drawn,os,U⟩:=w;obtain⟨V,W,O,os',E⟩:=w';simp only at h1 h2 X h4 h5 hd;subst h1;subst h2;subst X;unfold grow World.drewN;simp only[World.mk.injEq,true_and,and_true];grind
end
open Classical in
noncomputable def iU (k:Tag)(g:FuncId)(caps:List SV)(cf:k.T->k.T->Int):List SV->List Ob->Option ao3:=λl h=>
 L7 k (λl0=>if l=[.os 0,.fn g [] caps]then some (fL (apart cf l0) (.tup []) [.row k (srt cf l0)])else none) h
@[go_sem] theorem mX {k:Tag}{g:FuncId}{caps:List SV}{cf:k.T->k.T->Int}{l0:List k.T}:iU k g caps cf [.os 0,.fn g [] caps] [.row k l0]=some (fL (apart cf l0) (.tup []) [.row k (srt cf l0)]):=by
 simp[iU,L7]
section
variable {P:Program}{ρ:Ren}{k:Tag}
variable {w:World}{cs:Array Value}{ty:TypeId}
theorem VV{b:Nat}(E:w.heap[b]? =some (.cells cs ty (0,0)))(D:Array Value)(o:Nat):(putRow id w b o D).heap[b]? =some (.cells (putCells id o D cs) ty (0,0)):=by
 unfold putRow mapBlock;simp only[anH,if_true,E];rfl
theorem Mf{b c:Nat}(hc:c≠b)(D:Array Value)(o:Nat):(putRow id w b o D).heap[c]? =w.heap[c]?:=by
 unfold putRow mapBlock;grind
variable {o:Nat}
theorem JV{D:Array Value}{t:Nat}(E:t<D.size)(O:o+t<cs.size):(putCells id o D cs)[o+t]? =D[t]?:=by
 unfold putCells;grind
variable {α:Type}{enc:α->List Value}{n:Nat}
theorem Mg[Inhabited α](O:∀ x,(enc x).length=n){d:Array α}{i j:Nat}(hi:i<d.size)(E:j<n):(flatK enc n d)[i*n+j]? =(enc d[i]!)[j]?:=by
 have hlt:i*n+j<d.size*n:=by
  have:=alM n (show i+1<=d.size from hi);grind
 have h1:i*n+j< (flatK enc n d).size:=by simp_all
 rw[amL h1,<-getElem!_pos (flatK enc n d) _ h1,get_flatK enc n d _ hlt];grind [Nat.mul_comm,Nat.mul_add_div,Nat.div_eq_of_lt,Nat.mul_add_mod,Nat.mod_eq_of_lt]
variable {m:Nat}
theorem ar3[Inhabited α]{b:Nat}(E:w.heap[b]? =some (.cells cs ty (0,0)))(d:Array α)(O:Array Obj):(sortWorldK enc n w b o m d O).heap[b]? =some (.cells (putCells id o (flatK enc n d) cs) ty (0,0)):=by
 have hlt:b<w.heap.size:=(amH.1 E).1;unfold sortWorldK grow;simp only;rw[alS (by unfold putRowK putRow mapBlock Sort.ahead;grind)];exact VV (w:=Sort.ahead w m) E _ _
theorem aba[Inhabited α]{b c:Nat}(hc:c<w.heap.size)(E:c≠b)(d:Array α)(O:Array Obj):(sortWorldK enc n w b o m d O).heap[c]? =w.heap[c]?:=by
 unfold sortWorldK grow;simp only;rw[alS (by unfold putRowK putRow mapBlock Sort.ahead;grind)];exact Mf (w:=Sort.ahead w m) E _ _
theorem JW[Inhabited α]{b:Nat}(d:Array α)(E:Array Obj):w.heap.size<=(sortWorldK enc n w b o m d E).heap.size:=by
 unfold sortWorldK grow putRowK putRow mapBlock Sort.ahead;simp
theorem qJ (L:SlLaysF0.n6 P ρ)(aE:∀ w,(isAgg (ρ.t 24)).run P w=.ok true w)(zE:∀ w,(Go.sizeOf (ρ.t 24)).run P w=.ok (aa k) w)(hk:wQ k)(h0:0<aa k){g:FuncId}{caps:List SV}{C:List SV->Option Con}(hC:B1 P g C){cf:k.T->k.T->Int}
  (hcf:∀ x y,C (.agg (cellsOf k x):: .agg (cellsOf k y)::caps)=some (.det True (.v (.int .i64 (cf x y))))) (hO:SWO (ltOf cf)) (hpf:∀ s∈caps,PF s) (asb:∃ x y,C (.agg (cellsOf k x):: .agg (cellsOf k y)::caps)=some (.det True (.v (.int .i64 (cf x y))))):ao2 P (ρ.f 6) (iU k g caps cf):=by
 haveI:Inhabited k.T:=⟨eC k⟩
 refine⟨λl h c hc args w=>L.f6.enters rfl args w,λl h c hc hp F own w vs O hvs=>?_⟩;unfold iU at hc;obtain⟨l0,hh,hK⟩:=L8 hc;clear hc;subst hh;by_cases hl:l=[.os 0,.fn g [] caps]
 rotate_left
 grind
 rw[if_pos hl]at hK;subst hl;cases hK;have hp:apart cf l0:=hp;obtain⟨hsz,Y⟩:=hvs;have r0:=Y 0 _ rfl;have r1:=Y 1 _ rfl;have X:vs= #[vs.getD 0 undef,vs.getD 1 undef]:=by
  apply aoL;omega;intro i h1 h2;simp only[aly,alJ]at hsz;match i,h1,h2 with
  |0,h1,_=>simp_all|1,h1,_=>simp_all|i+2,h1,_=>omega
 generalize vs.getD 0 undef=v0 at r0 X;generalize vs.getD 1 undef=v1 at r1 X;subst X;obtain⟨hd,o0,rfl,_⟩:=iD r0;obtain⟨hd',o0',V⟩:=O.at (id:=0) (o:=.row k l0) rfl rfl;rw[o0]at o0';cases o0';have V:ao8 F own w k l0 hd.v hd.bs:=V;cases r1 with
 | @fn _ _ _ us cs s1 s2 c1 c2=>
 have hus:us= #[]:=anJ (by omega);subst hus;rcases V with⟨a,e1,rfl,e2⟩ | ⟨b,o,cap,cells,ty,e1,e2,e3,e4,e5,e6,e7⟩;rw[e1];refine(AnyF.slices_SortFunc_none L a 0 _ w).mono λe w' he=>?_;obtain⟨rfl,rfl⟩:=he;refine⟨(),own,trivial,⟨_,rfl,.tup rfl λj s E=>by simp at E⟩,?_,Fr.refl _,alw _⟩;simp_all [srt]
 ·have U:b∈hd.bs:=by rw[e2];simp
  have hbw:b<w.heap.size:=O.lt 0 hd b o0 U;have hkl:∀ x:k.T,(sI k x).length=aa k:=λx=>by unfold sI;rw[amo,bE]
  have hone:∀ x:k.T,∀ v∈sI k x,v.oneCell'=true:=λx v hv=>by
   unfold sI at hv;rw[anq]at hv;obtain⟨s,hs,rfl⟩:=hv;obtain⟨v,rfl,h1⟩:=hk x s hs;exact h1
  have eg:∀ args w,(callFunc g args).run P w=.ok (.enter g args) w:=λargs w=>by
   obtain⟨x,y,hxy⟩:=asb;exact hC.enter _ _ hxy args w
  have hown:∀ id h2,own id=some h2->id=0:=λid h2 e=>by have:=O.dom id h2 e;grind
  have hH:HoldsK (sI k) (aa k) w b o l0.toArray:=by
   intro t ht;rw[size_flatK]at ht;simp only[anl]at ht;have hi:t / aa k<l0.length:=Nat.div_lt_of_lt_mul (by grind);have E:=anz t h0;have ht':t=t / aa k*aa k+t % aa k:=(Nat.div_add_mod' t _).symm;have q1:=Be hk e7 hi E;have q2:=Mg (enc:=sI k) hkl (d:=l0.toArray) (i:=t / aa k) (j:=t % aa k) (by omega) E;grind [World.cell?,World.frozen?]
  have hcmp:CmpLays P g cs (sI k) (aa k) cf b o l0.toArray.size w:=by
   intro m os dk hdk x y;generalize hW:sortWorldK (sI k) (aa k) w b o m dk os=W;have hcar:apk F own w F own W:=⟨λ_ h2 e=>⟨h2,e,.refl _⟩,λc hc hn=>⟨hn,by
    rw[<-hW];exact aba hc (λe=>hn (.inr ⟨0,hd,o0,e▸U⟩)) _ _⟩⟩
   have henc:∀ z:k.T,Rel (λ_=>False) dB W (.agg (cellsOf k z)) (.agg (sI k z).toArray):=λz=>by
    refine .agg (by simp[sI]) λj s E=>?_;obtain⟨v,rfl,_⟩:=hk z s (alH E);have:(sI k z).toArray.getD j undef=v:=by
     unfold sI;rw[alW,anG,aml,E];rfl
    rw[this];exact .v v
   have hcall:=Me (hC.calls _ _ (hcf x y) trivial (λ_=>False) W (#[.agg (sI k x).toArray,.agg (sI k y).toArray]++cs) (λ_ h=>h.elim) ⟨by grind,λj s E=>by
    match j,E with
    |0,E=>
     cases E;simp_all [alS]
    |1,E=>
     cases E;simp_all [alS]
    |j+2,E=>
     have E:caps[j]? =some s:=E;have:=((c2 j s E).carry hcar).ao_ (hpf s (alH E)) (F':=λ_=>False) (bo:=dB) λ_ _ h=>by
      rcases h with h| ⟨_,_,h,_⟩;exact h;cases h
     simp_all [amR]⟩)
   refine hcall.mono λe w' hq=>?_;obtain⟨he,hdr⟩:=hq;rcases he with⟨s,u,bo,hs,rfl,hh,hb⟩ | ⟨z,hz,_⟩;simp only[dW]at hs;subst hs;have:=hh.val;simp only[wF]at this;rw[cK this];exact⟨rfl,ZI hb (hdr (by simp))⟩;exact hz.elim
  have hall:=AnyQ.slices_SortFunc L (aa k) aE zE (sI k) hkl hone cf hO g cs b o cap l0.toArray w eg hcmp hH hbw (by grind [aK]);rw[e1];refine hall.mono λe w' he=>?_;obtain⟨rfl,d',n,os,hpm,hst,rfl⟩:=he;have hd':=OG hO hp hpm hst;subst hd';have hlS:(srt cf l0).length=l0.length:=aoq _;generalize srt cf l0=lS at hlS;have hsb:=ar3 (enc:=sI k) (n:=aa k) (o:=o) (m:=n) e3 lS.toArray os;refine⟨(),own,trivial,⟨_,rfl,.tup rfl λj s E=>by simp at E⟩,?_,?_,alw _⟩;refine⟨O.dom,λc hc=>alG (O.aoY c hc) (JW _ _),O.apart,O.inj,λi h2 c e hc=>alG (O.lt i h2 c e hc) (JW _ _),λi hi=>?_⟩;match i,hi with
  |0,_=>
   refine⟨hd,o0,?_⟩;show ao8 F own _ k lS hd.v hd.bs;refine .inr ⟨b,o,cap,_,ty,by grind,e2,hsb,?_,by omega,by omega,Bf hk λi j hi E=>?_⟩;unfold putCells;grind;have hlt:i*aa k+j< (flatK (sI k) (aa k) lS.toArray).size:=by
    rw[size_flatK];have:=alM (aa k) (show i+1<=lS.length from hi);grind
   have hle:o+(i*aa k+j) <cells.size:=by
    rw[size_flatK]at hlt;simp only[anl]at hlt;have:=alM (aa k) (show lS.length<=cap by omega);omega
   rw[amF,JV hlt hle,Mg hkl (by omega) E];grind
  |i+1,hi=>rw[mT (by simp)]at hi;cases hi
  refine⟨λ_ h2 e=>⟨h2,e,.refl _⟩,(Fr.refl { w:=w,own:=own}).base,rfl,rfl,rfl,JW _ _,λc hc=>?_⟩;exact aba hc.1 (λe=>hc.2 ⟨0,hd,o0,e▸U⟩) _ _
end
def xW (l:List Int):List Int:=l.mergeSort λx y=>decide (x<=y)
noncomputable def OH:List SV->List Ob->Option ao3:=jf (λx_:List Int=>[.os 0]) (λx_=>[.row .int x_]) (λx_=>fL True (.tup []) [.row .int (xW x_)])
@[go_sem]def afU (l_:List Int):OH ([.os 0]) ([.row .int l_])=some (fL True (.tup []) [.row .int (xW l_)]):=fO (A:=λx_:List Int=>[.os 0]) (H:=λx_=>[.row .int x_]) (K:=λx_=>fL True (.tup []) [.row .int (xW x_)]) (x:=l_)
section
variable {P:Program}{ρ:Ren}
variable {enc:Int->Value}{w:World}{cs:Array Value}{ty:TypeId}
theorem abb{b:Nat}(E:w.heap[b]? =some (.cells cs ty (0,0)))(D:Array Int)(o:Nat):(putRow enc w b o D).heap[b]? =some (.cells (putCells enc o D cs) ty (0,0)):=by
 unfold putRow mapBlock;simp only[anH,if_true,E];rfl
theorem VW{b c:Nat}(hc:c≠b)(D:Array Int)(o:Nat):(putRow enc w b o D).heap[c]? =w.heap[c]?:=by
 unfold putRow mapBlock;simp only[anH];rw[if_neg (λe=>hc e.symm)]
variable {o:Nat}
theorem Mh{D:Array Int}{t:Nat}(E:t<D.size)(O:o+t<cs.size):(putCells enc o D cs)[o+t]? =some (enc D[t]):=by
 unfold putCells;rw[Array.getElem?_mapIdx,amL O];simp only[amK];rw[if_pos (by omega)];have:o+t - o=t:=by omega
 rw[this,getElem!_pos D t E]
variable {m:Nat}
theorem ar_{b:Nat}(E:w.heap[b]? =some (.cells cs ty (0,0)))(d:Array Int)(O:Array Obj):(grow (putRow enc (Sort.ahead w m) b o d) O).heap[b]? =some (.cells (putCells enc o d cs) ty (0,0)):=by
 have hlt:b<w.heap.size:=(amH.1 E).1;unfold grow;simp only;rw[alS (by unfold putRow mapBlock Sort.ahead;simpa using hlt)];exact abb (w:=Sort.ahead w m) E _ _
theorem ahZ{b c:Nat}(hc:c<w.heap.size)(E:c≠b)(d:Array Int)(O:Array Obj):(grow (putRow enc (Sort.ahead w m) b o d) O).heap[c]? =w.heap[c]?:=by
 unfold grow;simp only;rw[alS (by unfold putRow mapBlock Sort.ahead;simpa using hc)];exact VW (w:=Sort.ahead w m) E _ _
theorem JX{b:Nat}(d:Array Int)(E:Array Obj):w.heap.size<=(grow (putRow enc (Sort.ahead w m) b o d) E).heap.size:=by
 unfold grow putRow mapBlock Sort.ahead;simp
theorem xy:wQ .int:=by
 intro x s E;have:s=.v (.int .i64 x):=by simpa[cellsOf]using E
 exact⟨_,this,rfl⟩
theorem OI (L:SlLaysM.n5 P ρ):ao2 P (ρ.f 5) OH:=by
 refine⟨λl h c hc args w=>L.f5.enters rfl args w,λl h c hc hp F own w vs E hvs=>?_⟩;obtain⟨l0,rfl,rfl,rfl⟩:=dS hc;clear hc;obtain⟨hsz,apR⟩:=hvs;have r0:=apR 0 _ rfl;have V:vs= #[vs.getD 0 undef]:=by
  apply aoL;simpa using hsz;intro i h1 h2;simp only[aly,alJ]at hsz;match i,h1,h2 with
  |0,h1,_=>simp[Array.getD,h1]|i+1,h1,_=>omega
 generalize vs.getD 0 undef=v0 at r0 V;subst V;obtain⟨hd,o0,rfl,_⟩:=iD r0;obtain⟨hd',X,O⟩:=E.at (id:=0) (o:=.row .int l0) rfl rfl;rw[o0]at X;cases X;have O:ao8 F own w .int l0 hd.v hd.bs:=O;rcases O with⟨a,e1,rfl,e2⟩ | ⟨b,o,cap,cells,ty,e1,e2,e3,e4,e5,e6,e7⟩;rw[e1];refine(AnyM.slices_Sort_int_none L a 0 w).mono λe w' he=>?_;obtain⟨rfl,rfl⟩:=he;refine⟨(),own,trivial,⟨_,rfl,.tup rfl λj s hj=>by simp at hj⟩,?_,Fr.refl _,alw _⟩;have:xW ([]:List Int)=[]:=by simp[xW]
 show Hp F own w' [.row .int (xW [])];rw[this];exact E
 ·have U:b∈hd.bs:=by rw[e2];simp
  have hbw:b<w.heap.size:=E.lt 0 hd b o0 U;have hH:Holds (Value.int .i64) w b o (l0:List Int).toArray:=by
   intro t ht;simp only[anl]at ht;have q1:=Be xy e7 (i:=t) (j:=0) ht (by decide);have e0:aa .int=1:=rfl;rw[e0,am_,amy]at q1;constructor
   unfold World.cell?;rw[e3];dsimp only;rw[q1,getElem!_pos _ t (by simpa using ht)];rfl;unfold World.frozen?;rw[e3];simp
  have hlen:l0.length<4611686018427387904:=by unfold aK at e6;omega
  have W:=AnyM.slices_Sort_int L b o cap l0 w hH hbw hlen;rw[e1];refine W.mono λe w' he=>?_;obtain⟨rfl,n,os,rfl⟩:=he;have Y:(xW l0).length=l0.length:=aoq _;show ∃ r bo,_/\Jw F w own 1 (.returned (.tuple #[])) bo (grow (putRow (Value.int .i64) (Sort.ahead w n) b o (xW l0).toArray) os) (.ret (.tup []) [.row .int (xW l0)]);generalize xW l0=lS at Y;have hsb:=ar_ (enc:=Value.int .i64) (o:=o) (m:=n) e3 lS.toArray os;refine⟨(),own,trivial,⟨_,rfl,.tup rfl λj s hj=>by simp at hj⟩,?_,?_,alw _⟩;refine⟨E.dom,λc hc=>alG (E.aoY c hc) (JX _ _),E.apart,E.inj,λi h2 c e hc=>alG (E.lt i h2 c e hc) (JX _ _),λi hi=>?_⟩;match i,hi with
  |0,_=>
   refine⟨hd,o0,?_⟩;show ao8 F own _ .int lS hd.v hd.bs;have hc1:aa .int=1:=rfl;refine .inr ⟨b,o,cap,_,ty,by rw[Y];exact e1,e2,hsb,?_,by omega,by omega,Bf xy λi j hi hj=>?_⟩;unfold putCells;simpa using e4;rw[hc1]at hj |-;have hj0:j=0:=by omega
   subst hj0;rw[am_,amy,Mh (by simpa using hi) (by have h9:aa .int=1:=rfl;simp only[h9,am_]at e4 e5;omega)];simp[sI,cellsOf,VU]
  |i+1,hi=>rw[mT (by simp)]at hi;cases hi
  refine⟨λ_ h2 e=>⟨h2,e,.refl _⟩,(Fr.refl { w:=w,own:=own}).base,rfl,rfl,rfl,JX _ _,λc hc=>?_⟩;exact ahZ hc.1 (λe=>hc.2 ⟨0,hd,o0,e▸U⟩) _ _
end
end Go.Sx
end
section
attribute [go_sem] Nat.reduceBEq Nat.reduceLeDiff Nat.reduceLT decide_true Nat.reduceAdd Nat.reduceSub Nat.reduceMul Nat.reduceDiv Int.reduceLE Int.reduceLT Int.reduceToNat Int.reduceNeg reduceCtorEq cond_true cond_false Bool.not_true Bool.not_false
end
section
namespace Go.Sx
open Go.Proofs Go.RowKit
variable {E:List (Nat×(List SV->Option Con))}{O:List (Nat×(List SV->List Ob->Option ao3))}
def mG(h1:∀ x∈E,B1 Tryz.prog x.1 x.2)(h2:∀ x∈O,ao2 Tryz.prog x.1 x.2):aoI Tryz.prog (mkG E O):=ox h1 h2
def mGY{Y:List SV->Res->Option ap_}(h1:∀ x∈E,B1 Tryz.prog x.1 x.2)(h2:∀ x∈O,ao2 Tryz.prog x.1 x.2)(U:YOk Tryz.prog Y):aoI Tryz.prog (zT E O Y):=Dp h1 h2 U
variable {P:Program}{f:Nat}{C:List SV->Option Con}{l:List (Nat×(List SV->Option Con))}
def cp(h:B1 P f C)(t:∀ x∈l,B1 P x.1 x.2):∀ x∈(f,C)::l,B1 P x.1 x.2:=cgc h t
def cn(p:List Pk)(h:B1 P f C)(t:∀ x∈l,B1 P x.1 x.2):∀ x∈(f,λl=>C (yI p l))::l,B1 P x.1 x.2:=cgc (h.norm p) t
def co{C:List SV->List Ob->Option ao3}{l:List (Nat×(List SV->List Ob->Option ao3))}(h:ao2 P f C)(t:∀ x∈l,ao2 P x.1 x.2):∀ x∈(f,C)::l,ao2 P x.1 x.2:=cgc h t
section
variable {G:Cons}{f:FuncId}{C:List SV->Option Con}{D:List SV->List Ob->Option ao3}
abbrev ZJ (fn:Func)(G:Cons)(l:List SV)(o:List Ob)(Q:Ex->St->Prop):Prop:=l.length<=fn.ntmps/\∃ L,ak Tryz.prog none fn.ntmps L (ae fn)/\exec ts G L (ae fn) ⟨nV 0 l,o⟩ Q
theorem fE (hG:aoI Tryz.prog G) (fn:Func) (h:∀ l E,C l=some E->an E->ZJ fn G l [] (DX true fn.results.toList ts (dW E) (kY E))) (U:Tryz.prog.funcs[f]? =some fn:=by kernel_rfl) (V:fn.body=some (ae fn):=by kernel_rfl) (O:(fn.name== "runtime.NumGoroutine")=false:=by kernel_rfl) (hc:cV fn.ntmps (ae fn)=true:=by kernel_rfl):B1 Tryz.prog f C:=
 Ux true mixed aD hG U V O hc h
theorem fN (hG:aoI Tryz.prog G) (fn:Func) (p:List Pk) (h:∀ l E,C l=some E->an E->ZJ fn G l [] (DX false fn.results.toList ts (λs=>dW E (xU p s)) (kY E))) (U:Tryz.prog.funcs[f]? =some fn:=by kernel_rfl) (V:fn.body=some (ae fn):=by kernel_rfl) (O:(fn.name== "runtime.NumGoroutine")=false:=by kernel_rfl) (hc:cV fn.ntmps (ae fn)=true:=by kernel_rfl):B1 Tryz.prog f C:=
 A8 p mixed aD hG U V O hc h
theorem fW (hG:aoI Tryz.prog G) (fn:Func) (l:List (ResultVar×Tag)) (h:∀ l0 E,C l0=some E->an E->ZJ fn G l0 [] (L6 l fn.results.toList ts (dW E) (kY E))) (U:Tryz.prog.funcs[f]? =some fn:=by kernel_rfl) (V:fn.body=some (ae fn):=by kernel_rfl) (O:(fn.name== "runtime.NumGoroutine")=false:=by kernel_rfl) (hc:cV fn.ntmps (ae fn)=true:=by kernel_rfl):B1 Tryz.prog f C:=
 VK l mixed aD hG U V O hc h
theorem fR (hG:aoI Tryz.prog G) (fn:Func) (h:∀ l o E,D l o=some E->∃ p S H,E=fL p S H/\(p->ZJ fn G l o (QN o.length fn.results.toList ts S H))) (U:Tryz.prog.funcs[f]? =some fn:=by kernel_rfl) (V:fn.body=some (ae fn):=by kernel_rfl) (O:(fn.name== "runtime.NumGoroutine")=false:=by kernel_rfl) (hc:cV fn.ntmps (ae fn)=true:=by kernel_rfl):ao2 Tryz.prog f D:=
 LY mixed aD hG U V O hc h
end
end Go.Sx
end
section
namespace Go.Sx
open Go.Proofs
open IntKind (i64 u64)
variable {l0:List Nat}{p:Prop}
theorem uB(a0:JL l0)(h:JL l0->p:=by intro ja;(first|done|(repeat' (first|with_reducible refine And.intro ?_ ?_|((with_reducible show _≠_);first|assumption|omega|(simp_all [cq,eo];done) |grind) |with_reducible intro _)) <;>(first|done|with_reducible exact Empty.elim ‹Empty› |with_reducible assumption|rfl|omega|assumption|decide|exact fk ja|(simp only[*,cond_true,cond_false,alN,alZ,go_sem];done) |(simp only[*,cond_true,cond_false,alN,alZ,go_sem];(repeat' (first|with_reducible refine And.intro ?_ ?_|((with_reducible show _≠_);first|assumption|omega|(simp_all [cq,eo];done) |grind) |with_reducible intro _)) <;>(first|done|assumption|rfl|omega|decide|exact fk ja|(simp_all [cq,eo];done))) |(simp_all [okI,cq,eo];done) |(simp_all [cq,eo];(first|done|exact fk2 ja)) |exact fk2 ja))):p:=h a0
theorem bG(a0:JL l0)(h:JL l0->p:=by intro ja;simp only[go_sem,hc,hw];all_goals exact uB ja):p:=h a0
theorem bH(a0:JL l0)(h:JL l0->p:=by intro ja;simp only[go_sem,hc];all_goals exact uB ja):p:=h a0
def kQ (x:Int):Bool:=false
@[go_sem] def CN:List SV->Option Con:=(pI λx=>(pE (.det True (.v (.bool (kQ x))))))
theorem zq2(h:p:=by simp only[go_sem];all_goals exact cl):p:=h
theorem Bg:B1 Tryz.prog 137 CN:=by
 have hG:=mG P0 P0;refine fN hG Tryz.f137 [.o] (ay λx=>(am (λE=>?_)));dsimp only[an]at E;refine⟨nbl rfl,L0,ag _,?_⟩;unfold ae Tryz.f137;try unfold kQ
 exact zq2
def bj (x:Int)(y:Int):Int:=(bif(kQ x)then(bif(kQ y)then 0 else(-1))else(bif(kQ y)then 1 else(bif(decide (x<y))then(-1)else(bif(decide (x > y))then 1 else 0))))
@[go_sem] def oA:List SV->Option Con:=(pI λx=>(pI λy=>(pE (.det True (.v (.int .i64 (bj x y)))))))
theorem eS:B1 Tryz.prog 82 oA:=by
 have hG:=mG (cp Bg P0) P0;refine fN hG Tryz.f82 [.o] (ay λx=>(ay λy=>(am (λE=>?_))));dsimp only[an]at E;refine⟨nbl rfl,L0,ag _,?_⟩;unfold ae Tryz.f82;try unfold bj
 exact zq2
def dm (n:Int):Int:=(bif(decide (n<0))then(u64.wrap (0 - (u64.wrap n)))else(u64.wrap n))
@[go_sem] def z7:List SV->Option Con:=(pI λn=>(pE (.det True (.v (.int .u64 (dm n))))))
theorem sJ:B1 Tryz.prog 275 z7:=by
 have hG:=mG P0 P0;refine fN hG Tryz.f275 [.o] (ay λn=>(am (λE=>?_)));dsimp only[an]at E;refine⟨nbl rfl,L0,ag _,?_⟩;unfold ae Tryz.f275;try unfold dm
 exact zq2
def aR (a:G2):Int:=(bif(((((decide (a.d<1)) ||(decide (a.d > 1073741824))) ||(decide (a.n< (-1073741824)))) ||(decide (a.n > 1073741824))) ||(((LX (Int.toNat (dm a.n)) (Int.toNat (u64.wrap a.d)):Nat):Int) !=1))then 120 else 0)
def yw (a:G2):Prop:=(((((decide (a.d<1)) ||(decide (a.d > 1073741824))) ||(decide (a.n< (-1073741824)))) ||(decide (a.n > 1073741824)))=false->(0<=(dm a.n)/\0<=(u64.wrap a.d)))
theorem EP (n:Int):0<=u64.wrap n:=by
 simp[IntKind.wrap,IntKind.bits,IntKind.signed];omega
theorem Bh (n:Int):0<=dm n:=by
 unfold dm;cases decide (n<0) <;>exact EP _
def EQ (a:G2):yw a:=λ_=>⟨Bh _,EP _⟩
@[go_sem] def GR:List SV->Option Con:=(pD .ratio λa=>(pE (.det True (.v (.int .i64 (aR a))))))
theorem zq5(h:p:=by simp only[go_sem,C83];all_goals exact cl):p:=h
theorem oB:B1 Tryz.prog 222 GR:=by
 have hG:=mG (cp VC (cp sJ P0)) P0;refine fN hG Tryz.f222 [.o] (av λa=>(am (λE=>?_)));dsimp only[an]at E;have E:=EQ a;unfold yw at E;refine⟨nbl rfl,L0,ag _,?_⟩;unfold ae Tryz.f222;try unfold aR
 exact zq5
def ig (a:G2)(b:G2):Int×Int:=(bif(((aR a) !=0) ||((aR b) !=0))then(0,120)else((bj (i64.wrap (a.n*b.d)) (i64.wrap (b.n*a.d))),0))
@[go_sem] def Mi:List SV->Option Con:=(pD .ratio λa=>(pD .ratio λb=>(pE (.det True (.tup [.v (.int .i64 ((ig a b).1)),.v (.int .i64 ((ig a b).2))])))))
theorem z8:B1 Tryz.prog 221 Mi:=by
 have hG:=mG (cp eS (cp oB P0)) P0;refine fN hG Tryz.f221 [.o,.o] (av λa=>(av λb=>(am (λE=>?_))));dsimp only[an]at E;refine⟨nbl rfl,L0,ag _,?_⟩;unfold ae Tryz.f221;try unfold ig
 exact zq2
def GS (ok:Bool)(e:Int):Unit:=(bif(!ok)then default else())
def dE (ok:Bool)(e:Int):Bool:=(bif(!ok)then false else true)
@[go_sem] def CO:List SV->Option Con:=(pB λok=>(pI λe=>(pE (.may (dE ok e) (.tup []) (.iface 194 (.int .i64 e))))))
theorem uC:B1 Tryz.prog 61 CO:=by
 have hG:=mG P0 P0;refine fN hG Tryz.f61 [] (Bb λok=>(ay λe=>(am (λE=>?_))));dsimp only[an]at E;refine⟨nbl rfl,L0,ag _,?_⟩;unfold ae Tryz.f61;try unfold GS
 try unfold dE
 exact zq2
@[go_sem] def cy (l_:List Int)(S2:Nat)(ly:Unit):Unit⊕Unit:=(bif(decide ((l_.getD (Int.toNat ((S2:Int)+1)) 0) < (l_.getD (Int.toNat (i64.wrap (((S2:Int)+1) - 1))) 0)))then .inl ()else .inr ())
def kl (l_:List Int)(S2:Nat)(ly:Unit):Prop:=(l_.length<=aK->((0<=((S2:Int)+1)/\((S2:Int)+1) < (l_.length:Int))/\(0<=(i64.wrap (((S2:Int)+1) - 1))/\(i64.wrap (((S2:Int)+1) - 1)) < (l_.length:Int))))
def aJ (l_:List Int):Bool:=(match aj (cy l_) (l_.length - 1) 0 ()with| .inl pq=>false| .inr ly=>true)
def vR (l_:List Int):Prop:=okI (cy l_) (kl l_) (l_.length - 1) 0 ()
theorem Bi (O:List Int):vR O:=ic _ _ _ λj s h1 h2 E=>by
 unfold aK at E;rw[az (by omega) (by omega)];omega
@[go_sem] def CP:List SV->Option Con:=(pR .int λl_=>(pE (.det True (.v (.bool (aJ l_))))))
theorem zq8(h:p:=by simp only[go_sem,hb0]):p:=h
theorem zq9(h:p:=by simp only[go_sem,cy,hc0,hw0];all_goals exact cl):p:=h
theorem ar4(h:p:=by simp only[go_sem,hc0];all_goals exact cl2):p:=h
theorem pC:B1 Tryz.prog 113 CP:=by
 have hG:=mG P0 P0;refine fN hG Tryz.f113 [.o] (bN λE=>(am (λW=>?_)));dsimp only[an]at W;have W:=Bi E;unfold vR at W;refine⟨nbl rfl,(λid st=>bif Nat.beq id 0 then some (LC (ρ:=Unit) (σ:=Unit) (lk 0 st.t=.rs .int E/\lk 3 st.t=.v (.int .i64 1)/\st.h=[]/\okI (cy E) (kl E) (E.length - 1) 0 ()) (aj (cy E) (E.length - 1) 0 ()) (λ_=>.ret) (λpq=>⟨[(2,.v (.bool false))],[]⟩) (λY=>⟨[],[]⟩))else none),?_,?_⟩
 ·unfold ae Tryz.f113;simp only[ak,true_and,and_true]
  ·refine Ij mixed aD hG kr λst lc hC W=>?_;simp only[go_sem,Nat.reduceBEq,alx]at hC;subst hC;obtain⟨t,h⟩:=st;dsimp only[LC]at W;obtain⟨e0_0,e0_1,rfl,X⟩:=W;refine⟨_,_,_,(cy E),(kl E),(E.length - 1),(),_,_,_,(λO Y=>⟨[(0,.rs .int E),(3,.v (.int .i64 ((O:Int)+1)))],[]⟩),[],rfl,X,alw _,?_,λO Y hk0 hp0=>?_⟩
   ·simp only[go_sem,e0_0,e0_1];all_goals (first|done|decide|(repeat' (first|refine And.intro ?_ ?_|rfl|decide)))
   refine⟨L0,?_,?_⟩;simp only[ak,and_self,true_and,and_true]
   ·by_cases hb0:E.length<=aK
    rotate_left
    exact zq8;by_cases V:O< (E.length - 1)
    have hw0:i64.wrap (((O:Nat):Int)+1+1)=((O+1:Nat):Int)+1:=by(have hbb:=hb0;have hll:=V;try unfold aK at hbb);rw[az (by omega) (by omega)];omega
    have U:=hp0 V;unfold kl at U
    replace U:=U hb0
    try simp only[hw0,alv]at U
    have hc0:decide (((O:Int)+1) < (E.length:Int))=true:=by simp only[decide_eq_true_eq];omega
    exact zq9;have hc0:decide (((O:Int)+1) < (E.length:Int))=false:=by simp only[decide_eq_false_iff_not];omega
    exact ar4
 unfold ae Tryz.f113;try unfold aJ
 exact zq2
def cC (i:Int)(n:Int):Bool:=((decide (i>=0))&&(decide (i<n)))
@[go_sem] def ER:List SV->Option Con:=(pI λi=>(pI λn=>(pE (.det True (.v (.bool (cC i n)))))))
theorem rh:B1 Tryz.prog 115 ER:=by
 have hG:=mG P0 P0;refine fN hG Tryz.f115 [.o] (ay λi=>(ay λn=>(am (λE=>?_))));dsimp only[an]at E;refine⟨nbl rfl,L0,ag _,?_⟩;unfold ae Tryz.f115;try unfold cC
 exact zq2
def jq (x:G2×G2):Bool:=(((((ig x.1 x.2).2==0)&&(decide (x.1.n>=0)))&&(decide ((ig x.1 x.2).1<=0)))&&(decide (x.2.n<=x.2.d)))
@[go_sem] def ES:List SV->Option Con:=(pD .apw λx=>(pE (.det True (.v (.bool (jq x))))))
theorem CQ:B1 Tryz.prog 176 ES:=by
 have hG:=mG (cp z8 P0) P0;refine fN hG Tryz.f176 [.o] (av λx=>(am (λE=>?_)));dsimp only[an]at E;refine⟨nbl rfl,L0,ag _,?_⟩;unfold ae Tryz.f176;try unfold jq
 exact zq2
def dG (i:Int)(x:Reach):Bool:=letI q0:=aJ ([0,x.apu.lo,x.apu.hi,1073741824]);letI q1:=aJ ([0,x.aoU,x.aph,1099511627776]);letI q2:=aJ ([0,x.aoU,x.cap,1073741824]);letI q3:=aJ ([1,x.delay,16]);letI q4:=jq x.apc;(bif(decide (i > 0))then((((((cC x.up i)&&q3)&&q2)&&q1)&&q0)&&q4)else((((((x.up==(-1))&&q3)&&q2)&&q1)&&q0)&&q4))
@[go_sem] def ET:List SV->Option Con:=(pI λi=>(pD .reach λx=>(pE (.det True (.v (.bool (dG i x)))))))
theorem CR:B1 Tryz.prog 114 ET:=by
 have hG:=mG (cn [.sl .int] pC (cp rh (cp CQ P0))) P0;refine fN hG Tryz.f114 [.o] (ay λi=>(av λx=>(am (λE=>?_))));dsimp only[an]at E;refine⟨nbl rfl,L0,ag _,?_⟩;unfold ae Tryz.f114;try unfold dG
 exact zq2
def iE (a0:ah)(a1:ape):Bool:=letI q0:=(a1.every==0)&&(a1.length==0);letI q1:=i64.wrap (a0.hours - 1);letI q2:=a1.reach==a1.reach;letI q3:=a1.name==a1.name;letI q4:=a1.kind==a1.kind;letI q5:=a1.ee==a1.ee;(bif(((!(cC a1.ee (a0.u0.length:Int))) ||(!(cC a1.reach (a0.reaches.length:Int)))) ||(!(aJ ([0,a1.since,a1.to,q1]))))then false else(bif(a1.kind==1)then((((a1.reach==0)&&(aJ ([0,a1.aoX,1048576])))&&(aJ ([1,a1.dd,1073741824])))&&(aJ ([1,a1.length,a1.every,a0.hours])))else(bif(a1.kind==2)then(q3&&(q4&&(q5&&(q2&&((a1.aoX==0)&&((a1.dd==0)&&((a1.since==0)&&((a1.to==q1)&&q0))))))))else(bif(a1.kind==3)then(q3&&(q4&&(q5&&(q2&&((a1.aoX==0)&&((a1.dd==0)&&((a1.since==a1.since)&&((a1.to==a1.to)&&q0))))))))else false))))
@[go_sem] def EU:List SV->Option Con:=(pD .bh λa0=>(pD .right λa1=>(pE (.det True (.v (.bool (iE a0 a1)))))))
theorem CS:B1 Tryz.prog 116 EU:=by
 have hG:=mG (cn [.sl .int] pC (cp rh P0)) P0;refine fN hG Tryz.f116 [.o] (av λa0=>(av λa1=>(am (λE=>?_))));dsimp only[an]at E;refine⟨nbl rfl,L0,ag _,?_⟩;unfold ae Tryz.f116;try unfold iE
 exact zq2
@[go_sem] def dX (a0:ah)(a1:Int)(S2:Nat)(ly:Unit):Unit⊕Unit:=(bif(dE (dG (S2:Int) (a0.reaches.getD S2 default)) a1)then .inr ()else .inl ())
@[go_sem] def eG (a0:ah)(a1:Int)(k_1:Nat)(s_1:Unit):Unit⊕Unit:=(bif(dE (aJ ([0,(a0.ao1.getD k_1 default).need,1048576])) a1)then .inr ()else .inl ())
@[go_sem] def dY (a0:ah)(a1:Int)(k_2:Nat)(s_2:Unit):Unit⊕Unit:=letI q0:=a0.u0.getD k_2 default;letI q1:=cC (q0.reach) (a0.reaches.length:Int);letI q2:=aJ ([0,q0.aqr,1048576]);(bif(decide (q0.aqr > 0))then(bif(dE (((cC (q0.apy) (a0.ao1.length:Int))&&q1)&&q2) a1)then .inr ()else .inl ())else(bif(dE (((q0.apy==(-1))&&q1)&&q2) a1)then .inr ()else .inl ()))
@[go_sem] def dZ (a0:ah)(a1:Int)(k_3:Nat)(s_3:Unit):Unit⊕Unit:=(bif(dE (iE a0 (a0.al.getD k_3 default)) a1)then .inr ()else .inl ())
@[go_sem] def fu (a0:ah)(a1:Int)(k_4:Nat)(s_4:Unit):Unit⊕Unit:=letI q0:=a0.aoT.getD k_4 default;(bif(dE (((cC (q0.ee) (a0.u0.length:Int))&&(cC (q0.reach) (a0.reaches.length:Int)))&&(aJ ([0,q0.due,a0.hours]))) a1)then .inr ()else .inl ())
def EV (a0:ah)(a1:Int):Unit:=(bif(dE (((aJ ([1,a0.hours,4096]))&&(aJ ([0,a0.Y2.start,a0.Y2.cap,1099511627776])))&&(decide ((a0.reaches.length:Int) > 0))) a1)then(match aj (dX a0 a1) a0.reaches.length 0 ()with| .inl pq=>default| .inr ly=>(match aj (eG a0 a1) a0.ao1.length 0 ()with| .inl apA=>default| .inr s_1=>(match aj (dY a0 a1) a0.u0.length 0 ()with| .inl apv=>default| .inr s_2=>(match aj (dZ a0 a1) a0.al.length 0 ()with| .inl aqo=>default| .inr s_3=>(match aj (fu a0 a1) a0.aoT.length 0 ()with| .inl aoW=>default| .inr s_4=>())))))else default)
def fZ (a0:ah)(a1:Int):Bool:=(bif(dE (((aJ ([1,a0.hours,4096]))&&(aJ ([0,a0.Y2.start,a0.Y2.cap,1099511627776])))&&(decide ((a0.reaches.length:Int) > 0))) a1)then(match aj (dX a0 a1) a0.reaches.length 0 ()with| .inl pq=>false| .inr ly=>(match aj (eG a0 a1) a0.ao1.length 0 ()with| .inl apA=>false| .inr s_1=>(match aj (dY a0 a1) a0.u0.length 0 ()with| .inl apv=>false| .inr s_2=>(match aj (dZ a0 a1) a0.al.length 0 ()with| .inl aqo=>false| .inr s_3=>(match aj (fu a0 a1) a0.aoT.length 0 ()with| .inl aoW=>false| .inr s_4=>true)))))else false)
@[go_sem] def Bj:List SV->Option Con:=(pD .bh λa0=>(pI λa1=>(pE (.may (fZ a0 a1) (.tup []) (.iface 194 (.int .i64 a1))))))
theorem Aa:B1 Tryz.prog 62 Bj:=by
 have hG:=mG (cp uC (cn [.sl .int] pC (cp CR (cp rh (cn [.st .bh,.st .right] CS P0))))) P0;refine fN hG Tryz.f62 [] (av λa0=>(ay λa1=>(am (λhp=>?_))));dsimp only[an]at hp;refine⟨nbl rfl,(λid st=>bif Nat.beq id 0 then some (LCR (ρ:=Unit) (σ:=Unit) 1 [] [0] (λX Y=>⟨[(1,.v (.int .i64 a1)),(2,.ptr 0 0),(38,.rs .reach a0.reaches),(39,.v (.int .i64 (a0.reaches.length:Int))),(40,.v (.int .i64 (X:Int)))],[.cells (cellsOf .bh a0)]⟩) (dX a0 a1) pT a0.reaches.length () (a0.reaches.length<=aK) (λ_=>.pan (.iface 194 (.int .i64 a1))) (λpq=>⟨[],[.dead]⟩) st)else bif Nat.beq id 2 then some (LCR (ρ:=Unit) (σ:=Unit) 1 [] [0] (λU V=>⟨[(1,.v (.int .i64 a1)),(2,.ptr 0 0),(52,.rs .apy a0.ao1),(53,.v (.int .i64 (a0.ao1.length:Int))),(54,.v (.int .i64 (U:Int)))],[.cells (cellsOf .bh a0)]⟩) (eG a0 a1) pT a0.ao1.length () (a0.ao1.length<=aK) (λ_=>.pan (.iface 194 (.int .i64 a1))) (λapA=>⟨[],[.dead]⟩) st)else bif Nat.beq id 4 then some (LCR (ρ:=Unit) (σ:=Unit) 1 [] [0] (λE O=>⟨[(1,.v (.int .i64 a1)),(2,.ptr 0 0),(66,.rs .ee a0.u0),(67,.v (.int .i64 (a0.u0.length:Int))),(68,.v (.int .i64 (E:Int)))],[.cells (cellsOf .bh a0)]⟩) (dY a0 a1) pT a0.u0.length () (a0.u0.length<=aK) (λ_=>.pan (.iface 194 (.int .i64 a1))) (λapv=>⟨[],[.dead]⟩) st)else bif Nat.beq id 6 then some (LCR (ρ:=Unit) (σ:=Unit) 1 [] [0] (λW s_3=>⟨[(1,.v (.int .i64 a1)),(2,.ptr 0 0),(103,.rs .right a0.al),(104,.v (.int .i64 (a0.al.length:Int))),(105,.v (.int .i64 (W:Int)))],[.cells (cellsOf .bh a0)]⟩) (dZ a0 a1) pT a0.al.length () (a0.al.length<=aK) (λ_=>.pan (.iface 194 (.int .i64 a1))) (λaqo=>⟨[],[.dead]⟩) st)else bif Nat.beq id 8 then some (LCR (ρ:=Unit) (σ:=Unit) 1 [] [0] (λk_4 s_4=>⟨[(1,.v (.int .i64 a1)),(2,.ptr 0 0),(116,.rs .apH a0.aoT),(117,.v (.int .i64 (a0.aoT.length:Int))),(118,.v (.int .i64 (k_4:Int)))],[.cells (cellsOf .bh a0)]⟩) (fu a0 a1) pT a0.aoT.length () (a0.aoT.length<=aK) (λ_=>.pan (.iface 194 (.int .i64 a1))) (λaoW=>⟨[],[.dead]⟩) st)else none),?_,?_⟩;unfold ae Tryz.f62;simp only[ak,true_and,and_true];refine⟨?_,?_,?_,?_,?_⟩;refine bZ mixed aD hG kr (λ_=>rfl) (a0.reaches.length:Int) rfl fM (λhb0 X Y aqm _ hw hc=>⟨L0,ag _,?_⟩) (λhb0 Y hc=>?_);exact bG (jl [0]);exact bH (jl [0]);refine bZ mixed aD hG kr (λ_=>rfl) (a0.ao1.length:Int) rfl fM (λhb1 U V aqc _ hw hc=>⟨L0,ag _,?_⟩) (λhb1 V hc=>?_);exact bG (jl [0]);exact bH (jl [0]);refine bZ mixed aD hG kr (λ_=>rfl) (a0.u0.length:Int) rfl fM (λhb2 E O hlt2 _ hw hc=>⟨L0,ag _,?_⟩) (λhb2 O hc=>?_);exact bG (jl [0]);exact bH (jl [0]);refine bZ mixed aD hG kr (λ_=>rfl) (a0.al.length:Int) rfl fM (λhb3 W s_3 hlt3 _ hw hc=>⟨L0,ag _,?_⟩) (λhb3 s_3 hc=>?_);exact bG (jl [0]);exact bH (jl [0]);refine bZ mixed aD hG kr (λ_=>rfl) (a0.aoT.length:Int) rfl fM (λhb4 k_4 s_4 asJ _ hw hc=>⟨L0,ag _,?_⟩) (λhb4 s_4 hc=>?_);exact bG (jl [0]);exact bH (jl [0]);unfold ae Tryz.f62;try unfold EV
 try unfold fZ
 exact zq2
def ap (d:ah):Int:=(bif(dE (((((decide ((d.reaches.length:Int)<=64))&&(decide ((d.u0.length:Int)<=600)))&&(decide ((d.ao1.length:Int)<=32)))&&(decide ((d.al.length:Int)<=256)))&&(decide ((d.aoT.length:Int)<=256))) 2)then(bif(fZ d 191)then 0 else 191)else 2)
@[go_sem] def EW:List SV->Option Con:=(pD .bh λd=>(pE (.det True (.v (.int .i64 (ap d))))))
theorem asl(h:p:=by simp only[go_sem,Sv,OA,ac0];all_goals exact cl):p:=h
theorem kF:B1 Tryz.prog 22 EW:=by
 have hG:=mG (cp uC (cn [.st .bh,.o] Aa P0)) P0;refine acV Vy [.o] mixed aD hG (fn:=Tryz.f22) (c0:=Sv (ae Tryz.f22)) (c1:=OA (OA (ae Tryz.f22))) (i1:=ast (Sv (OA (ae Tryz.f22)))) (o1:=ahp 0 (Sv (OA (ae Tryz.f22)))) (o2:=ahp 1 (Sv (OA (ae Tryz.f22)))) (t3:=3) (q:=2) (tys:= #[]) kr kr kr (by refine⟨?_,?_,?_⟩ <;>kernel_rfl) (by refine⟨?_,?_,?_⟩ <;>kernel_rfl) (nbl rfl) kr kr (av λd=>(am (λE=>?_)));dsimp only[an]at E;refine⟨nbl rfl,L0,L0,1,?_,?_,?_⟩;unfold ae Tryz.f22;simp only[Sv,ak,and_self,true_and,and_true];unfold ae Tryz.f22;simp only[OA];simp only[ak,and_self,true_and,and_true];unfold ae Tryz.f22;try unfold ap
 exact asl
def oC (x:Order):Int:=x.hour
@[go_sem] def mM:List SV->Option Con:=(pD .order λx=>(pE (.det True (.v (.int .i64 (oC x))))))
theorem wR:B1 Tryz.prog 248 mM:=by
 have hG:=mG P0 P0;refine fN hG Tryz.f248 [.o] (av λx=>(am (λE=>?_)));dsimp only[an]at E;refine⟨nbl rfl,L0,ag _,?_⟩;unfold ae Tryz.f248;try unfold oC
 exact zq2
def sK (x:Order):Int:=(bif x.X2 then 1 else 0)
@[go_sem] def pF:List SV->Option Con:=(pD .order λx=>(pE (.det True (.v (.int .i64 (sK x))))))
theorem Ab:B1 Tryz.prog 249 pF:=by
 have hG:=mG P0 P0;refine fN hG Tryz.f249 [.o] (av λx=>(am (λE=>?_)));dsimp only[an]at E;refine⟨nbl rfl,L0,ag _,?_⟩;unfold ae Tryz.f249;try unfold sK
 exact zq2
def oD (x:Order):Int:=x.index
@[go_sem] def mN:List SV->Option Con:=(pD .order λx=>(pE (.det True (.v (.int .i64 (oD x))))))
theorem wS:B1 Tryz.prog 250 mN:=by
 have hG:=mG P0 P0;refine fN hG Tryz.f250 [.o] (av λx=>(am (λE=>?_)));dsimp only[an]at E;refine⟨nbl rfl,L0,ag _,?_⟩;unfold ae Tryz.f250;try unfold oD
 exact zq2
end Go.Sx
end
section
namespace Go.Proofs
open Go.Shelf
def Tryz.aq5:Go.Shelf.Ren:=⟨λ|20=>73|n=>n,λ|22=>35|n=>n,λ|n=>n⟩
theorem Tryz.cpI:Go.Proofs.Lays2.n20 Tryz.prog Tryz.aq5:= {
 mixed:=by kernel_rfl
 f20:=Tryz.func73.trans (congrArg some (by kernel_rfl))
 t0:=Tryz.underlying0
 a0:=Tryz.isAgg0
 z0:=Tryz.sizeOf0
 v0:=Tryz.zeroValue0
 t3:=Tryz.underlying3
 a3:=Tryz.isAgg3
 z3:=Tryz.sizeOf3
 v3:=Tryz.zeroValue3
 t4:=Tryz.underlying4
 a4:=Tryz.isAgg4
 z4:=Tryz.sizeOf4
 v4:=Tryz.zeroValue4
 t22:=Tryz.underlying35
 a22:=Tryz.isAgg35
 z22:=Tryz.sizeOf35
 v22:=Tryz.zeroValue35
 i3:=by kernel_rfl}
end Go.Proofs
namespace Go.Sx
open Go.RowKit Go.Shelf Go.Lib Go.Sort Go.Proofs
def cpI (l:List Int):List Int:=Lib.compact l
theorem ZK (l:List Int):(cpI l).length<=l.length:=by
 unfold cpI Lib.compact Lib.compactUpTo;rw[amo];exact alQ (amu _ _) (by simp)
noncomputable def VX:List SV->List Ob->Option ao3:=jf (λx_:List Int=>[.os 0]) (λx_=>[.row .int x_]) (λx_=>fL True (.os 1) [.dead,.row .int (cpI x_)])
@[go_sem]def ah0 (l_:List Int):VX ([.os 0]) ([.row .int l_])=some (fL True (.os 1) [.dead,.row .int (cpI l_)]):=fO (A:=λx_:List Int=>[.os 0]) (H:=λx_=>[.row .int x_]) (K:=λx_=>fL True (.os 1) [.dead,.row .int (cpI x_)]) (x:=l_)
section
variable {P:Program}{ρ:Ren}
theorem GU (L:Lays2.n20 P ρ)(he:∀ (args:Array Value) (w:World),(callFunc (ρ.f 20) args).run P w=.ok (.enter (ρ.f 20) args) w):ao2 P (ρ.f 20) VX:=by
 refine⟨λl h c hc args w=>he args w,λl h c hc hp F own w vs E hvs=>?_⟩;obtain⟨l0,rfl,rfl,rfl⟩:=dS hc;clear hc;obtain⟨hsz,apR⟩:=hvs;have r0:=apR 0 _ rfl;have X:vs= #[vs.getD 0 undef]:=by
  apply aoL;simpa using hsz;intro i h1 h2;simp only[aly,alJ]at hsz;match i,h1,h2 with
  |0,h1,_=>simp[Array.getD,h1]|i+1,h1,_=>omega
 generalize vs.getD 0 undef=v0 at r0 X;subst X;obtain⟨hd,Y,rfl,_⟩:=iD r0;obtain⟨hd',o0',U⟩:=E.at (id:=0) (o:=.row .int l0) rfl rfl;rw[Y]at o0';cases o0';have U:ao8 F own w .int l0 hd.v hd.bs:=U;have hdom:∀ i h2,own i=some h2->i=0:=λi h2 e=>by have:=E.dom i h2 e;simp at this;exact this
 have fin:∀ (W:Value) (w':World),pr W=true->ao8 F (λi=>if i=1 then some { hd with v:=W}else if i=0 then some { hd with bs:=[]}else none) w' .int (cpI l0) W hd.bs->w.heap.size<=w'.heap.size->w'.os=w.os->w'.tape=w.tape->w'.output=w.output->(∀ c,c<w.heap.size->c ∉ hd.bs->w'.heap[c]? =w.heap[c]?)->
   ∃ r bo,(fL True (.os 1) [.dead,.row .int (cpI l0)]).post r/\Jw F w own 1 (.returned W) bo w' ((fL True (.os 1) [.dead,.row .int (cpI l0)]).res r):=by
  intro W w' h1 hr hs q1 q2 q3 hold;refine⟨(),λi=>if i=1 then some { hd with v:=W}else if i=0 then some { hd with bs:=[]}else none,trivial,⟨W,rfl,?_⟩,?_,?_,by simp⟩;have:=Rel.os (F:=F) (own:=λi=>if i=1 then some { hd with v:=W}else if i=0 then some { hd with bs:=[]}else none) (w:=w') (id:=1) (hd:= { hd with v:=W}) (by simp) h1;exact this;refine⟨λid h2 e=>?_,λb hb=>alG (E.aoY b hb) hs,λid h2 b e hb=>?_,λi j hi hj b e1 e2 b1 b2=>?_,λid h2 b e hb=>?_,λid O=>?_⟩;show id<2;by_cases h1:id=1
  omega;by_cases h0:id=0
  omega;simp[h1,h0]at e;grind [E.apart 0 hd b Y]
  grind
  have:=E.lt 0 hd b Y (by grind);omega;match id,O with
  |0,O=>cases O
  |1,_=>
   refine⟨{ hd with v:=W},by simp,?_⟩;exact hr
  |i+2,O=>rw[mT (by simp)]at O;cases O
  refine⟨λid h2 e=>?_,λid h2 b e hb ho=>?_,q1,q2,q3,hs,λc hc=>hold c hc.1 λhm=>hc.2 ⟨0,hd,Y,hm⟩⟩;have:=hdom id h2 e;subst this;have e:own 0=some h2:=e;rw[Y]at e;cases e;exact⟨{ hd with bs:=[]},by simp,rfl,rfl,rfl⟩;refine ho.2 ⟨0,hd,Y,?_⟩;grind
 rcases U with⟨a,e1,rfl,e2⟩ | ⟨b,o,cap,cells,ty,e1,e2,e3,e4,e5,e6,e7⟩;rw[e1];refine(Any.slices_Compact_int_empty L a 0 w).mono λe w' he=>?_;obtain⟨rfl,rfl⟩:=he;exact fin _ _ rfl (.inl ⟨a,rfl,rfl,e2⟩) (alw _) rfl rfl rfl λ_ _ _=>rfl;have V:b∈hd.bs:=by rw[e2];simp
 have hbw:b<w.heap.size:=E.lt 0 hd b Y V;have hH:Holds (Value.int .i64) w b o (l0:List Int).toArray:=by
  intro t ht;simp only[anl]at ht;have q1:=Be xy e7 (i:=t) (j:=0) ht (by decide);have e0:aa .int=1:=rfl;rw[e0,am_,amy]at q1;constructor
  unfold World.cell?;rw[e3];dsimp only;rw[q1,getElem!_pos _ t (by simpa using ht)];rfl;unfold World.frozen?;rw[e3];simp
 have hlen:l0.length<=9223372036854775807:=by unfold aK at e6;omega
 have hall:=Any.slices_Compact_int L b o cap l0 w hH hlen e5;rw[e1];refine hall.mono λe w' he=>?_;obtain⟨rfl,n,rfl⟩:=he;have hlS:(cpI l0).length<=l0.length:=ZK l0;have hc1:aa .int=1:=rfl;generalize hD:(Lib.compact l0++List.replicate (l0.length - (Lib.compact l0).length) 0:List Int)=D;have hDl:D.length=l0.length:=by
  have:(Lib.compact l0).length<=l0.length:=hlS;rw[<-hD];simp;omega
 have hsb:(putRow (Value.int .i64) (Sort.ahead w n) b o D.toArray).heap[b]? =some (.cells (putCells (Value.int .i64) o D.toArray cells) ty (0,0)):=abb (w:=Sort.ahead w n) e3 _ _;have hsz':w.heap.size<=(putRow (Value.int .i64) (Sort.ahead w n) b o D.toArray).heap.size:=by
  unfold putRow mapBlock Sort.ahead;simp
 refine fin _ _ rfl (.inr ⟨b,o,cap,_,ty,rfl,e2,hsb,?_,alQ hlS e5,by show(cpI l0).length<=aK;omega,Bf xy λi j hi hj=>?_⟩) hsz' rfl rfl rfl λc hc hn=>VW (w:=Sort.ahead w n) (show c≠b from λe=>hn (by rw[e];exact V)) _ _;unfold putCells;simpa using e4;rw[hc1]at hj |-;have hj0:j=0:=by omega
 subst hj0;have hi2:i<D.length:=by rw[hDl];omega
 rw[am_,amy,Mh (by simpa using hi2) (by simp only[hc1,am_]at e4 e5;omega)];have hg:D[i]=(cpI l0)[i]'hi:=by
  subst hD;rw[List.getElem_append_left];rfl
 simp[sI,cellsOf,VU,hg]
end
theorem adn:ao2 Tryz.prog 73 VX:=GU Tryz.cpI λargs w=>by kernel_rfl
end Go.Sx
end
section
namespace Go.Sx
open Go.Proofs
open IntKind (i64 u64)
def lM (n:Int)(d:Int):Int:=(i64.wrap (Int.tdiv (i64.wrap (n - (Int.tmod (i64.wrap ((Int.tmod n d)+d)) d))) d))
def rM (n:Int)(d:Int):Prop:=(d≠0/\(d≠0/\d≠0))
@[go_sem] def JY:List SV->Option Con:=(pI λn=>(pI λd=>(pE (.det (rM n d) (.v (.int .i64 (lM n d)))))))
theorem GV:B1 Tryz.prog 223 JY:=by
 have hG:=mG P0 P0;refine fN hG Tryz.f223 [.o] (ay λn=>(ay λd=>(am (λE=>?_))));dsimp only[an]at E;unfold rM at E;refine⟨nbl rfl,L0,ag _,?_⟩;unfold ae Tryz.f223;try unfold lM
 exact zq2
def eT (a:G2)(n:Int):Int×Int×Int:=(bif((aR a) !=0)then(0,0,(aR a))else(bif((decide (n< (-1073741824))) ||(decide (n > 1073741824)))then(0,0,1)else((lM (i64.wrap (a.n*n)) a.d),(i64.wrap (0 - (lM (i64.wrap ((i64.wrap (0 - a.n))*n)) a.d))),0)))
def yx (a:G2)(n:Int):Prop:=(((aR a) !=0)=false->(((decide (n< (-1073741824))) ||(decide (n > 1073741824)))=false->((rM (i64.wrap (a.n*n)) a.d)/\(rM (i64.wrap ((i64.wrap (0 - a.n))*n)) a.d))))
theorem GW {a:G2}(h:(aR a !=0)=false):1<=a.d:=by
 unfold aR at h;by_cases hd:a.d<1
 simp[hd]at h;omega
theorem EX (a:G2)(n:Int):yx a n:=λh _=>by
 have:=GW h;exact⟨⟨by omega,by omega,by omega⟩,⟨by omega,by omega,by omega⟩⟩
@[go_sem] def GX:List SV->Option Con:=(pD .ratio λa=>(pI λn=>(pE (.det True (.tup [.v (.int .i64 ((eT a n).1)),.v (.int .i64 ((eT a n).2.1)),.v (.int .i64 ((eT a n).2.2))])))))
theorem wT:B1 Tryz.prog 151 GX:=by
 have hG:=mG (cp oB (cp GV P0)) P0;refine fN hG Tryz.f151 [.o,.o,.o] (av λa=>(ay λn=>(am (λE=>?_))));dsimp only[an]at E;have E:=EX a n;unfold yx at E;refine⟨nbl rfl,L0,ag _,?_⟩;unfold ae Tryz.f151;try unfold eT
 exact zq2
def nM (n:Int)(d:Int):G2×Int:=letI q3:=({ n:=0,d:=0}:G2);letI q6:=dm n;letI q7:=dm d;letI q0:=((LX (Int.toNat q6) (Int.toNat q7):Nat):Int);letI q1:=u64.wrap (Int.tdiv q6 q0);letI q2:=u64.wrap (Int.tdiv q7 q0);letI q4:=i64.wrap q1;letI q5:=i64.wrap q2;(bif(d==0)then(q3,120)else(bif(decide ((if q1<q2 then q2 else q1) > 1073741824))then(q3,2)else(bif((decide (n<0)) !=(decide (d<0)))then(({ n:=(i64.wrap (0 - q4)),d:=q5}:G2),0)else(({ n:=q4,d:=q5}:G2),0))))
def rN (n:Int)(d:Int):Prop:=letI q1:=dm n;letI q2:=dm d;letI q0:=((LX (Int.toNat q1) (Int.toNat q2):Nat):Int);((d==0)=false->((0<=q1/\0<=q2)/\(q0≠0/\q0≠0)))
@[go_sem] def JZ:List SV->Option Con:=(pI λn=>(pI λd=>(pE (.det (rN n d) (.tup [.agg (cellsOf .ratio ((nM n d).1)),.v (.int .i64 ((nM n d).2))])))))
theorem GY:B1 Tryz.prog 337 JZ:=by
 have hG:=mG (cp VC (cp sJ P0)) P0;refine fN hG Tryz.f337 [.st .ratio,.o] (ay λn=>(ay λd=>(am (λE=>?_))));dsimp only[an]at E;unfold rN at E;refine⟨nbl rfl,L0,ag _,?_⟩;unfold ae Tryz.f337;try unfold nM
 exact zq5
def gW (a:G2)(b:G2):Int×Int:=((i64.wrap ((i64.wrap (a.n*b.d))+(i64.wrap (b.n*a.d)))),(i64.wrap (a.d*b.d)))
@[go_sem] def GZ:List SV->Option Con:=(pD .ratio λa=>(pD .ratio λb=>(pE (.det True (.tup [.v (.int .i64 ((gW a b).1)),.v (.int .i64 ((gW a b).2))])))))
theorem EY:B1 Tryz.prog 312 GZ:=by
 have hG:=mG P0 P0;refine fN hG Tryz.f312 [.o,.o] (av λa=>(av λb=>(am (λE=>?_))));dsimp only[an]at E;refine⟨nbl rfl,L0,ag _,?_⟩;unfold ae Tryz.f312;try unfold gW
 exact zq2
def gI (a:G2)(b:G2):G2×Int:=(bif(((aR a) !=0) ||((aR b) !=0))then(({ n:=0,d:=0}:G2),120)else(((nM ((gW a b).1) ((gW a b).2)).1),(nM ((gW a b).1) ((gW a b).2)).2))
def lN (a:G2)(b:G2):Prop:=((((aR a) !=0) ||((aR b) !=0))=false->(rN ((gW a b).1) ((gW a b).2)))
@[go_sem] noncomputable def wU:List SV->Option Con:=(pQ (.agg [.fn 312 [] []]) (pD .ratio λa=>(pD .ratio λb=>(pE (.det (lN a b) (.tup [.agg (cellsOf .ratio ((gI a b).1)),.v (.int .i64 ((gI a b).2))]))))))
theorem v_:B1 Tryz.prog 313 wU:=by
 have hG:=mG (cp oB (cp EY (cp GY P0))) P0;refine fN hG Tryz.f313 [.st .ratio,.o] (ada (av λa=>(av λb=>(am (λE=>?_)))));dsimp only[an]at E;unfold lN at E;refine⟨nbl rfl,L0,ag _,?_⟩;unfold ae Tryz.f313;try unfold gI
 exact zq2
def ii (a:G2)(b:G2):G2×Int:=(((gI a b).1),(gI a b).2)
def tJ (a:G2)(b:G2):Prop:=(lN a b)
@[go_sem] def Mj:List SV->Option Con:=(pD .ratio λa=>(pD .ratio λb=>(pE (.det (tJ a b) (.tup [.agg (cellsOf .ratio ((ii a b).1)),.v (.int .i64 ((ii a b).2))])))))
theorem J0:B1 Tryz.prog 278 Mj:=by
 have hG:=mG (cp v_ P0) P0;refine fN hG Tryz.f278 [.st .ratio,.o] (av λa=>(av λb=>(am (λE=>?_))));dsimp only[an]at E;unfold tJ at E;refine⟨nbl rfl,L0,ag _,?_⟩;unfold ae Tryz.f278;try unfold ii
 exact zq2
end Go.Sx
end
