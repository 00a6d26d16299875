/- Part of the proof that the law RegisterDivided returns true and leaves its arguments as they were, for all arguments of bulk at most 1048576 (the Upto form). -/
import Derived.Test.YthcbieoehjhjfaaGreatC603
import Derived.TacticsIn
import Derived.OrdersIn
set_option linter.all false
set_option maxHeartbeats 4000000
section
namespace Go.Sx
open Go.RowKit
def Dfr (F:Nat→Prop)(B:Bs)(w:World)(ds:List Deferred):Prop:=
 ∃ (ms:List Deferred) (Ds:List Nat),ds=ms++B.ds∧ms.map (·.target)=Ds.map .collected∧Ds.Nodup∧∀ D∈Ds,B.w.heap.size≤D∧F D∧w.heap[D]? =some (.deferred (some []))
theorem Dfr.fr {F:Nat→Prop}{B:Bs}{own own':Own}{w w':World}{ds:List Deferred}(h:Dfr F B w ds)(g:Fr { w:=w,own:=own} own' w')(hap:∀ (id:Nat) (hd:Hd) (b:Nat),own id=some hd→b∈hd.bs→¬F b):Dfr F B w' ds:=by
 obtain⟨ms,Ds,h0,h1,h2,h3⟩:=h
 refine⟨ms,Ds,h0,h1,h2,fun D hD=>?_⟩
 obtain⟨q1,q2,q3⟩:=h3 D hD
 exact⟨q1,q2,by rw[g.block D ⟨jf q3,fun⟨id,hd,e,hb⟩ =>hap id hd D e hb q2⟩];exact q3⟩
theorem Dfr.nil {F:Nat→Prop}{B:Bs}{w:World}:Dfr F B w B.ds:=⟨[],[],rfl,rfl,List.nodup_nil,fun D h=>by cases h⟩
def iV (ops:List Oper)(j:Nat):Prop:= ∃ (i:Nat) (o:Oper) (b:Bool),ops[i]? =some o∧o.guard=some (j,b)
def SRel (F:Nat→Prop)(ops:List Oper)(E:Nat→Prop)(own:Own)(a:Act)(w:World):SV→Value→Prop
 | .gd j b s,v=>E j∧iV ops j∧(yielded ops.toArray a.tmps j=some b→Rel F own w s v)
 |s,v=>Rel F own w s v
def GOk (ops:List Oper)(a:Act):Option (Nat×Bool)→Prop
 |none=>True
 |some g=>yielded ops.toArray a.tmps g.1=some g.2
section
variable {P:Program}{F:Nat→Prop}{own:Own}{w:World}{ts:Tis}
theorem na {ops:List Oper}{E:Nat→Prop}{a:Act}{s:SV}{v:Value}(h:Rel F own w s v):SRel F ops E own a w s v:=by
 cases s <;>first|exact h|cases h
theorem SRel.mono {ops:List Oper}{E E':Nat→Prop}{a a':Act}{own':Own}{w':World}{s:SV}{v:Value}(h:SRel F ops E own a w s v)(hn:∀ j,E j→E' j)(g:Goes F own w own' w')
  (hy:∀ j b,E j→iV ops j→yielded ops.toArray a'.tmps j=some b→yielded ops.toArray a.tmps j=some b):SRel F ops E' own' a' w' s v:=by
 cases s with
 |gd j b s=>exact⟨hn j h.1,h.2.1,fun q=>(h.2.2 (hy j b h.1 h.2.1 q)).mono g⟩
 |_=>exact Rel.mono g h
theorem h_ (ops:List Oper)(tmps:Array Value)(j:Nat)(b:Bool):yielded ops.toArray tmps j=some b↔∃ o d,ops[j]? =some o∧o.dst=some d∧tmps[d]? =some (.bool b):=by
 unfold yielded
 simp only[List.getElem?_toArray]
 constructor
 ·intro h
  split at h
  ·rename_i x hx
   simp only[Option.some.injEq]at h
   subst h
   simp only[Option.bind_eq_some_iff]at hx
   obtain⟨d,⟨o,h1,h2⟩,h3⟩:=hx
   exact⟨o,d,h1,h2,h3⟩
  ·cases h
 ·rintro⟨o,d,h1,h2,h3⟩
  simp[h1,h2,h3]
structure ROk (N:Nat)(ops:List Oper):Prop where
 dst:∀ (i:Nat) (o:Oper) (d:Nat),ops[i]? =some o→o.dst=some d→d<N
 lt:∀ (i:Nat) (o:Oper) (j:Nat) (b:Bool),ops[i]? =some o→o.guard=some (j,b)→j<i
 uniq:∀ (j:Nat),iV ops j→∃ (o:Oper) (d:Nat),ops[j]? =some o∧o.dst=some d∧∀ (k:Nat) (q:Oper),k≠j→ops[k]? =some q→q.dst≠some d
theorem Dc {N:Nat}{ops:List Oper}(h:C2 N ops=true):ROk N ops:=by
 have h':∀ (i:Nat) (o:Oper),ops[i]? =some o→((match o.dst with|some d=>Nat.blt d N|none=>true)&&rW ops i o)=true:=by
  intro i o ho
  unfold C2 at h
  rw[List.all_eq_true]at h
  have:=h i (List.mem_range.2 (List.getElem?_eq_some_iff.1 ho).1)
  rw[dI,ho]at this
  exact this
 refine⟨fun i o d ho hd=>?_,fun i o j b ho hg=>?_,fun j ⟨i,o,b,ho,hg⟩ =>?_⟩
 ·have:=h' i o ho
  simp only[hd,Bool.and_eq_true]at this
  exact Nat.le_of_ble_eq_true this.1
 ·have:=h' i o ho
  simp only[rW,hg,Bool.and_eq_true]at this
  exact Nat.le_of_ble_eq_true this.2.1
 ·have:=h' i o ho
  simp only[rW,hg,Bool.and_eq_true]at this
  obtain⟨_,_,h3⟩:=this
  rw[dI]at h3
  cases hj:ops[j]? with
  |none=>rw[hj]at h3;simp at h3
  |some q=>
   cases hd:q.dst with
   |none=>rw[hj]at h3;simp[hd]at h3
   |some d=>
    rw[hj]at h3
    simp only[Option.bind_some,hd,List.all_eq_true,List.mem_range,Bool.or_eq_true]at h3
    refine⟨q,d,rfl,hd,fun k p hk hp hpd=>?_⟩
    have:=h3 k (List.getElem?_eq_some_iff.1 hp).1
    rw[dI,hp]at this
    simp only[Option.bind_some,hpd]at this
    rcases this with e|e
    ·exact hk (Nat.eq_of_beq_eq_true e)
    ·simp at e
theorem sW {E:Nat→Prop}{ops:List Oper}{a:Act}(hcl:∀ (k:Nat) (o:Oper) (j:Nat) (b:Bool),E k→ops[k]? =some o→o.guard=some (j,b)→E j)(hg:∀ (k:Nat) (o:Oper) (b:Bool),E k→iV ops k→ops[k]? =some o→yielded ops.toArray a.tmps k=some b→GOk ops a o.guard):
  ∀ (n:Nat) (g:Option (Nat×Bool)) (j:Nat) (b:Bool),(∀ k c,g=some (k,c)→E k∧iV ops k)→
  je ops n g j b=true→GOk ops a g→yielded ops.toArray a.tmps j=some b
 |0,_,_,_,_,h,_=>by simp[je]at h
 |n+1,none,_,_,_,h,_=>by simp[je]at h
 |n+1,some (j',b'),j,b,hm,h,hk=>by
  simp only[je]at h
  cases hc:Nat.beq j' j&&qt b' b with
  |true=>
   simp only[Bool.and_eq_true]at hc
   have e1:=Nat.eq_of_beq_eq_true hc.1
   have e2:b'=b:=by cases b' <;>cases b <;>simp[qt]at hc ⊢
   subst e1;subst e2
   exact hk
  |false=>
   simp only[hc,cond_false]at h
   have hk':yielded ops.toArray a.tmps j'=some b':=hk
   obtain⟨o,d,h1,h2,h3⟩:=(h_ _ _ _ _).1 hk'
   obtain⟨q1,q2⟩:=hm j' b' rfl
   rw[dI,h1]at h
   refine sW hcl hg n o.guard j b (fun k c hkc=>?_) h (hg j' o b' q1 q2 h1 hk')
   exact⟨hcl j' o k c q1 h1 hkc,j',o,c,h1,hkc⟩
structure SInv (F:Nat→Prop)(w0:Bs)(N:Nat)(ops:List Oper)(E:Nat→Prop)(own:Own)(st:St)(a:Act)(w:World):Prop where
 size:a.tmps.size=N
 defers:Dfr F w0 w a.defers
 hp:Hp F own w st.h
 fr:Fr w0 own w
 slots:∀ t,SRel F ops E own a w (lk t st.t) (a.tmps.getD t undef)
 tags:∀ (k:Nat) (o:Oper) (d j:Nat) (b:Bool) (s:SV),E k→iV ops k→ops[k]? =some o→o.dst=some d→lk d st.t=.gd j b s→o.guard=some (j,b)
 closed:∀ (k:Nat) (o:Oper) (j:Nat) (b:Bool),E k→ops[k]? =some o→o.guard=some (j,b)→E j
 chain:∀ (k:Nat) (o:Oper) (b:Bool),E k→iV ops k→ops[k]? =some o→yielded ops.toArray a.tmps k=some b→GOk ops a o.guard
theorem vX {w0:Bs}{N nx:Nat}{E:Nat→Prop}{ops:List Oper}{st:St}{a:Act}(hi:SInv F w0 N ops E own st a w){g:Option (Nat×Bool)}(hg:GOk ops a g)(hgn:∀ k c,g=some (k,c)→E k∧iV ops k)(x:Operand):
  Rel F own w (val ⟨ts,ops,g,st,nx⟩ x) (a.eval x):=by
 cases x with
 |tmp t=>
  have h:=hi.slots t
  show Rel F own w (aY ops g (lk t st.t)) (a.tmps.getD t undef)
  cases hs:lk t st.t with
  |gd j b s=>
   rw[hs]at h
   show Rel F own w (bif je ops ops.length g j b then s else .any) _
   cases hm:je ops ops.length g j b with
   |true=>exact h.2.2 (sW hi.closed hi.chain _ g j b hgn hm hg)
   |false=>exact .any _
  |_=>rw[hs]at h;exact h
 |const v=>exact .v v
 |func f=>exact .fn rfl rfl (fun j s h=>by simp at h) (fun j s h=>by simp at h)
 |global g=>exact .any _
theorem nI {w0:Bs}{N:Nat}{E:Nat→Prop}{ops:List Oper}{st:St}{a:Act}(hi:SInv F w0 N ops E own st a w){g:Option (Nat×Bool)}(hg:GOk ops a g)(hgn:∀ k c,g=some (k,c)→E k∧iV ops k)(c x:Operand)(want:Bool)
  (hc:a.eval c=.bool want):Rel F own w (fE ops g c want (raw st.t x)) (a.eval x):=by
 have hv:=vX (ts:=fun _=>none) (nx:=0) hi hg hgn x
 change Rel F own w (aY ops g (raw st.t x)) (a.eval x)at hv
 cases hs:raw st.t x with
 |gd j b s=>
  rw[hs]at hv
  show Rel F own w (bif qt b want&&uy ops j c then s else aY ops g (.gd j b s)) _
  cases hm:qt b want&&uy ops j c with
  |false=>exact hv
  |true=>
   simp only[Bool.and_eq_true]at hm
   have e2:b=want:=by cases b <;>cases want <;>simp[qt]at hm ⊢
   subst e2
   cases x with
   |tmp t=>
    have h:=hi.slots t
    have hs':lk t st.t=.gd j b s:=hs
    rw[hs']at h
    refine h.2.2 ((h_ _ _ _ _).2 ?_)
    have hd:=hm.2
    unfold uy at hd
    rw[dI]at hd
    split at hd
    ·rename_i d tc hb
     simp only[Option.bind_eq_some_iff]at hb
     obtain⟨o,h1,h2⟩:=hb
     have e:=Nat.eq_of_beq_eq_true hd
     subst e
     refine⟨o,d,h1,h2,?_⟩
     have:a.tmps.getD d undef=.bool b:=hc
     simp only[Array.getD_eq_getD_getElem?]at this
     cases hq:a.tmps[d]? with
     |none=>rw[hq]at this;simp[undef]at this
     |some v=>rw[hq]at this;simpa using this
    ·cases hd
   |const v=>simp[raw]at hs
   |func f=>simp[raw]at hs
   |global q=>simp[raw]at hs
 |_=>rw[hs]at hv;exact hv
theorem iZ (t:List (Nat×SV))(d:Nat)(s:SV)(n:Nat):lk n ((d,s)::t)=if d=n then s else lk n t:=by
 simp only[lk]
 by_cases h:d=n
 ·subst h;simp
 ·have:Nat.beq d n=false:=by cases hb:Nat.beq d n with
   |false=>rfl
   |true=>exact absurd (Nat.eq_of_beq_eq_true hb) h
  rw[this,if_neg h];rfl
theorem FH (a:Act)(d:Nat)(v:Value)(hd:d<a.tmps.size)(n:Nat):(a.put (some d) v).tmps.getD n undef=if d=n then v else a.tmps.getD n undef:=by
 simp only[Act.put,Array.getD_eq_getD_getElem?,Array.getElem?_setIfInBounds]
 by_cases h:d=n
 ·subst h;simp[hd]
 ·simp[h]
theorem uJ {ops:List Oper}{a:Act}{dst:Option Nat}{v:Value}{j:Nat}{q:Oper}{dj:Nat}(hq:ops[j]? =some q)(hd:q.dst=some dj)(hne:dst≠some dj)(b:Bool):
  yielded ops.toArray (a.put dst v).tmps j=some b↔yielded ops.toArray a.tmps j=some b:=by
 rw[h_,h_]
 have:(a.put dst v).tmps[dj]? =a.tmps[dj]?:=by
  cases dst with
  |none=>rfl
  |some d=>
   simp only[Act.put,Array.getElem?_setIfInBounds]
   rw[if_neg (fun e=>hne (by rw[e]))]
 constructor <;>rintro⟨o,d,h1,h2,h3⟩ <;>rw[hq]at h1 <;>cases h1 <;>rw[hd]at h2 <;>cases h2
 ·exact⟨q,dj,hq,hd,by rw[←this];exact h3⟩
 ·exact⟨q,dj,hq,hd,by rw[this];exact h3⟩
theorem SInv.step {w0:Bs}{N n:Nat}{E E':Nat→Prop}{ops:List Oper}{st:St}{a:Act}(hr:ROk N ops)(hE:∀ k,E' k↔E k∨k=n)(hnE:¬E n)(hi:SInv F w0 N ops E own st a w){o:Oper}(ho:ops[n]? =some o){own':Own}{w':World}{h':List Ob}{s:SV}{v:Value}
  (fr1:Fr { w:=w,own:=own} own' w') (hp:Hp F own' w' h')
  (hgE:∀ j b,o.guard=some (j,b)→E j) (hs:SRel F ops E' own' (a.put o.dst v) w' s v) (hch:∀ b:Bool,v=.bool b→GOk ops a o.guard) (htag:∀ j b s',s=.gd j b s'→o.guard=some (j,b)):
  SInv F w0 N ops E' own' (St.put ⟨st.t,h'⟩ o.dst s) (a.put o.dst v) w':=by
 have g:Goes F own w own' w':=fr1.goes
 have hfr:=hi.fr.trans fr1
 have hyk:∀ j b,E j→iV ops j→(yielded ops.toArray (a.put o.dst v).tmps j=some b↔yielded ops.toArray a.tmps j=some b):=by
  intro j b hj hrf
  obtain⟨q,dj,h1,h2,h3⟩:=hr.uniq j hrf
  exact uJ h1 h2 (h3 n o (fun e=>hnE (e▸hj)) ho) b
 have hcl:∀ (k:Nat) (q:Oper) (j:Nat) (b:Bool),E' k→ops[k]? =some q→q.guard=some (j,b)→E j:=by
  intro k q j b hk hq hqg
  rcases(hE k).1 hk with hk|rfl
  ·exact hi.closed k q j b hk hq hqg
  ·rw[ho]at hq;cases hq;exact hgE j b hqg
 have hgk:∀ (k:Nat) (q:Oper),E' k→ops[k]? =some q→GOk ops a q.guard→GOk ops (a.put o.dst v) q.guard:=by
  intro k q hk hq hgo
  cases hqg:q.guard with
  |none=>trivial
  |some g=>
   rw[hqg]at hgo
   exact(hyk g.1 g.2 (hcl k q g.1 g.2 hk hq hqg) ⟨k,q,g.2,hq,hqg⟩).2 hgo
 refine⟨?_,?_,?_,hfr,?_,?_,fun k q j b hk hq hqg=>(hE j).2 (.inl (hcl k q j b hk hq hqg)),?_⟩
 ·cases hd:o.dst <;>simp[Act.put,hi.size]
 ·have:(a.put o.dst v).defers=a.defers:=by cases hd:o.dst <;>rfl
  rw[this];exact hi.defers.fr fr1 hi.hp.apart
 ·cases hd:o.dst <;>exact hp
 ·intro t
  have hold:SRel F ops E' own' (a.put o.dst v) w' (lk t st.t) (a.tmps.getD t undef):=
   (hi.slots t).mono (fun j hj=>(hE j).2 (.inl hj)) g (fun j b hj hrf=>(hyk j b hj hrf).1)
  cases hd:o.dst with
  |none=>
   rw[hd]at hold
   exact hold
  |some d=>
   rw[hd]at hold hs
   show SRel F ops E' own' _ w' (lk t ((d,s)::st.t)) _
   rw[iZ,FH _ _ _ (by rw[hi.size];exact hr.dst n o d ho hd)]
   by_cases hdt:d=t
   ·rw[if_pos hdt,if_pos hdt];exact hs
   ·rw[if_neg hdt,if_neg hdt];exact hold
 ·intro k q d j b s' hk hrf hq hqd hl
  rcases(hE k).1 hk with hkn|hkn
  ·obtain⟨q',d',h1,h2,h3⟩:=hr.uniq k hrf
   rw[hq]at h1;cases h1
   rw[hqd]at h2;cases h2
   have hne:=h3 n o (fun e=>hnE (e▸hkn)) ho
   refine hi.tags k q d j b s' hkn hrf hq hqd ?_
   cases hd:o.dst with
   |none=>rw[hd]at hl;exact hl
   |some d2=>
    rw[hd]at hl
    change lk d ((d2,s)::st.t)=_ at hl
    rw[iZ,if_neg (fun e=>hne (by rw[hd,e]))]at hl
    exact hl
  ·subst hkn
   rw[ho]at hq;cases hq
   rw[hqd]at hl
   change lk d ((d,s)::st.t)=_ at hl
   rw[iZ,if_pos rfl]at hl
   exact htag j b s' hl
 ·intro k q b hk hrf hq hy
  rcases(hE k).1 hk with hkn|hkn
  ·exact hgk k q hk hq (hi.chain k q b hkn hrf hq ((hyk k b hkn hrf).1 hy))
  ·subst hkn
   rw[ho]at hq;cases hq
   refine hgk k o hk ho ?_
   obtain⟨q,d,h1,h2,h3⟩:=(h_ _ _ _ _).1 hy
   rw[ho]at h1;cases h1
   have hlt:d<a.tmps.size:=by rw[hi.size];exact hr.dst k o d ho h2
   rw[h2]at h3
   have:(a.put (some d) v).tmps[d]? =some v:=by simp[Act.put,hlt]
   rw[this]at h3
   simp only[Option.some.injEq]at h3
   exact hch b h3
theorem nJ {w0:Bs}{N:Nat}{E:Nat→Prop}{ops:List Oper}{st:St}{a:Act}(hi:SInv F w0 N ops E own st a w){t:List (Nat×SV)}(n:Nat)
  (ht:∀ (j:Nat) (o:Oper) (d:Nat),j<n→E j→iV ops j→ops[j]? =some o→o.dst=some d→lk d t=lk d st.t) (hlt:∀ (i:Nat) (o:Oper) (j:Nat) (b:Bool),ops[i]? =some o→o.guard=some (j,b)→j<i):
  ∀ (m:Nat) (g:Nat×Bool),g.1<n→E g.1→iV ops g.1→GOk ops a (some g)→dz ops t m g
 |0,_,_,_,_,_=>trivial
 |m+1,(j,want),hjn,hj,hrf,hg=>by
  have hg':yielded ops.toArray a.tmps j=some want:=hg
  obtain⟨o,d,h1,h2,h3⟩:=(h_ _ _ _ _).1 hg'
  have hs:=hi.slots d
  have hv:a.tmps.getD d undef=.bool want:=by simp[Array.getD_eq_getD_getElem?,h3]
  rw[hv]at hs
  simp only[dz,dI,h1,Option.bind_some,h2,ht j o d hjn hj hrf h1 h2]
  split
  ·rename_i x hx
   rw[hx]at hs
   have:=bV (F:=F) (own:=own) (w:=w) hs
   simp at this;exact this.symm
  ·rename_i j' b x hx
   rw[hx]at hs
   obtain⟨q1,q2,q3⟩:=hs
   have htg:=hi.tags j o d j' b _ hj hrf h1 h2 hx
   have hgo:=hi.chain j o want hj hrf h1 hg'
   rw[htg]at hgo
   have:=bV (q3 hgo)
   simp at this
   exact⟨nJ hi n ht hlt m (j',b) (Nat.lt_trans (hlt j o j' b h1 htg) hjn) q1 q2 hgo,this.symm⟩
  ·trivial
theorem uK {w0:Bs}{N:Nat}{E:Nat→Prop}{ops:List Oper}{st:St}{a:Act}(hi:SInv F w0 N ops E own st a w):
  ∀ (m:Nat) (g:Nat×Bool),E g.1→iV ops g.1→¬GOk ops a (some g)→gD ops st.t m g
 |0,_,_,_,_=>trivial
 |m+1,(j,want),hj,hrf,hg=>by
  have hg':¬yielded ops.toArray a.tmps j=some want:=hg
  simp only[gD,dI]
  cases ho:ops[j]? with
  |none=>simp
  |some o=>
   cases hd:o.dst with
   |none=>simp[hd]
   |some d=>
    simp only[Option.bind_some,hd]
    have hs:=hi.slots d
    have hy:∀ x,a.tmps.getD d undef=.bool x→yielded ops.toArray a.tmps j=some x:=fun x hx=>by
     refine(h_ _ _ _ _).2 ⟨o,d,ho,hd,?_⟩
     simp only[Array.getD_eq_getD_getElem?]at hx
     cases hq:a.tmps[d]? with
     |none=>rw[hq]at hx;simp[undef]at hx
     |some v=>rw[hq]at hx;simpa using hx
    split
    ·rename_i x hx
     rw[hx]at hs
     have:=bV (F:=F) (own:=own) (w:=w) hs
     intro e
     exact hg' (e▸hy x this)
    ·rename_i j' b x hx
     rw[hx]at hs
     obtain⟨q1,q2,q3⟩:=hs
     by_cases hgo:GOk ops a (some (j',b))
     ·right
      have:=bV (q3 hgo)
      intro e
      exact hg' (e▸hy x this)
     ·left
      exact uK hi m (j',b) q1 q2 hgo
    ·trivial
variable {w0:Bs}{N:Nat}
structure StRel (F:Nat→Prop)(w0:Bs)(N:Nat)(own:Own)(st:St)(a:Act)(w:World):Prop where
 size:a.tmps.size=N
 defers:Dfr F w0 w a.defers
 hp:Hp F own w st.h
 fr:Fr w0 own w
 slots:∀ t,Rel F own w (lk t st.t) (a.tmps.getD t undef)
theorem StRel.start {own:Own}{st:St}{a:Act}{w:World}(h:StRel F w0 N own st a w)(ops:List Oper){E:Nat→Prop}(hE:∀ k,¬E k):SInv F w0 N ops E own st a w:=
 ⟨h.size,h.defers,h.hp,h.fr,fun t=>na (h.slots t),fun k _ _ _ _ _ hk=>(hE k hk).elim,fun k _ _ _ hk=>(hE k hk).elim,fun k _ _ hk=>(hE k hk).elim⟩
theorem vY (t:Nat):∀ l:List (Nat×SV),lk t (ungd l)=match lk t l with| .gd .. =>.any|s=>s
 | [] =>rfl
 |(d,s)::r=>by
  have ih:=vY t r
  cases s <;>simp only[ungd,lk] <;>(cases Nat.beq d t <;>simp only[cond_true,cond_false] <;>first|exact ih|rfl)
theorem AE (h:List Ob)(t:Nat):∀ l:List (Nat×SV),lk t (yU h l)=CY h (lk t l)
 | [] =>rfl
 |(d,s)::r=>by
  have ih:=AE h t r
  simp only[yU,lk]
  cases Nat.beq d t <;>simp only[cond_true,cond_false]
  exact ih
theorem xC:∀ (h:List Ob) (id:Nat),ag (og h) id=Iz (ag h id)
 | [],_=>rfl
 |o::_,0=>rfl
 |_::r,n+1=>xC r n
theorem uL:∀ h:List Ob,(og h).length=h.length
 | [] =>rfl
 |_::r=>by simp only[og,List.length_cons,uL r]
theorem Dd {own:Own}{w:World}{h:List Ob}(hp:Hp F own w h){s:SV}{v:Value}(hr:Rel F own w s v):Rel F own w (CY h s) v:=by
 cases s with
 |os id=>
  simp only[CY]
  cases ho:ag h id with
  |fwd n=>
   cases n with
   |none=>exact hr
   |some n=>
    simp only[Iy]
    cases hr with
    |os h1 h2=>
     obtain⟨hd',e0,e⟩:=hp.at ho rfl
     rw[h1]at e0;cases e0
     obtain⟨hd2,k1,k2,k3⟩:=e n rfl
     rw[←k2]at h2 ⊢
     exact .os k1 h2
  |_=>exact hr
 |_=>exact hr
theorem StRel.cleanF {own:Own}{st:St}{a:Act}{w:World}(h:StRel F w0 N own st a w):StRel F w0 N own (Sx.cleanF st) a w:=by
 unfold Sx.cleanF
 cases gE st.h with
 |false=>exact h
 |true=>
  refine⟨h.size,h.defers,⟨fun id hd e=>?_,h.hp.foreign,h.hp.apart,h.hp.inj,h.hp.lt,fun id hd=>?_⟩,h.fr,fun t=>?_⟩
  ·show id< (og st.h).length
   rw[uL];exact h.hp.dom id hd e
  ·change b9 (ag (og st.h) id)=false at hd
   change ∃ hd,own id=some hd∧ObRel F own w hd (ag (og st.h) id)
   rw[xC]at hd ⊢
   cases ho:ag st.h id with
   |fwd n=>rw[ho]at hd;cases hd
   |dead=>rw[ho]at hd;cases hd
   |_=>exact h.hp.at ho rfl
  ·show Rel F own w (lk t (yU st.h st.t)) _
   rw[AE]
   exact Dd h.hp (h.slots t)
theorem StRel.finish {own:Own}{st:St}{a:Act}{w:World}{ops:List Oper}{E:Nat→Prop}(h:SInv F w0 N ops E own st a w):StRel F w0 N own (mU ops st) a w:=by
 unfold mU
 refine StRel.cleanF ?_
 cases hg:ops.any (·.guard.isSome)with
 |true=>
  refine⟨h.size,h.defers,h.hp,h.fr,fun t=>?_⟩
  have hs:=h.slots t
  show Rel F own w (lk t (ungd st.t)) _
  rw[vY]
  cases hl:lk t st.t with
  |gd j b s=>exact .any _
  |_=>rw[hl]at hs;exact hs
 |false=>
  refine⟨h.size,h.defers,h.hp,h.fr,fun t=>?_⟩
  have hs:=h.slots t
  show Rel F own w (lk t st.t) _
  cases hl:lk t st.t with
  |gd j b s=>
   rw[hl]at hs
   obtain⟨_,⟨i,o,b',h1,h2⟩,_⟩:=hs
   rw[List.any_eq_false]at hg
   have:=hg o (List.mem_of_getElem? h1)
   simp[h2]at this
  |_=>rw[hl]at hs;exact hs
theorem StRel.ungd {own:Own}{st:St}{a:Act}{w:World}{ops:List Oper}{E:Nat→Prop}(h:SInv F w0 N ops E own st a w):StRel F w0 N own ⟨Sx.ungd st.t,st.h⟩ a w:=by
 refine⟨h.size,h.defers,h.hp,h.fr,fun t=>?_⟩
 have hs:=h.slots t
 show Rel F own w (lk t (Sx.ungd st.t)) _
 rw[vY]
 cases hl:lk t st.t with
 |gd j b s=>exact .any _
 |_=>rw[hl]at hs;exact hs
end
end Go.Sx
end
section
namespace Go.Sx
open Go.RowKit
inductive PF:SV→Prop where
 |any:PF .any
 |v (x:Value):PF (.v x)
 |e0:PF .e0
 |rs {k:Tag} {l:List k.T}:PF (.rs k l)
 |rm {k k2:Tag} {l:List (k.T×k2.T)}:PF (.rm k k2 l)
 |ep {l:List SV} {off:Nat}:(∀ (j:Nat) (s:SV),l[j]? =some s→PF s)→PF (.ep l off)
 |ls {l:List SV}:(∀ (j:Nat) (s:SV),l[j]? =some s→PF s)→PF (.ls l)
 |agg {l:List SV}:(∀ (j:Nat) (s:SV),l[j]? =some s→PF s)→PF (.agg l)
 |tup {l:List SV}:(∀ (j:Nat) (s:SV),l[j]? =some s→PF s)→PF (.tup l)
 |fn {f:FuncId} {l m:List SV}:(∀ (j:Nat) (s:SV),l[j]? =some s→PF s)→(∀ (j:Nat) (s:SV),m[j]? =some s→PF s)→PF (.fn f l m)
theorem jx {k:Tag}{x:k.T}{j:Nat}{s:SV}(h:(cellsOf k x)[j]? =some s):PF s:=by
 rcases mW h with⟨y,rfl,_⟩ | ⟨k',l',rfl,_⟩ | ⟨k',k2,l',rfl,_⟩ | ⟨f,rfl,_⟩
 ·exact .v y
 ·exact .rs
 ·exact .rm
 ·exact .fn (fun j s hj=>by simp at hj) (fun j s hj=>by simp at hj)
theorem lg (k:Tag)(x:k.T):PF (svT k x):=by
 unfold svT
 cases ip k with
 |true=>exact .agg fun j s hj=>jx hj
 |false=>
  simp only[cond_false,dI]
  cases h:(cellsOf k x)[0]? with
  |none=>exact .any
  |some s=>exact jx h
theorem eb:∀ (n:Nat) (s:SV),bU n s=true→PF s
 |n,.v x,_=>.v x
 |n,.rs k l,_=>.rs
 |n,.rm _ _ _,_=>.rm
 |n,.e0,_=>.e0
 |n,.any,_=>.any
 |n+1,.ep l _,h=>.ep fun j s hj=>eb n s (by simp only[bU,List.all_eq_true]at h;exact h s (List.mem_of_getElem? hj))
 |n+1,.ls l,h=>.ls fun j s hj=>eb n s (by simp only[bU,List.all_eq_true]at h;exact h s (List.mem_of_getElem? hj))
 |n+1,.agg l,h=>.agg fun j s hj=>eb n s (by simp only[bU,List.all_eq_true]at h;exact h s (List.mem_of_getElem? hj))
 |n+1,.tup l,h=>.tup fun j s hj=>eb n s (by simp only[bU,List.all_eq_true]at h;exact h s (List.mem_of_getElem? hj))
 |n+1,.fn _ l m,h=>.fn (fun j s hj=>eb n s (by simp only[bU,Bool.and_eq_true,List.all_eq_true]at h;exact h.1 s (List.mem_of_getElem? hj))) (fun j s hj=>eb n s (by simp only[bU,Bool.and_eq_true,List.all_eq_true]at h;exact h.2 s (List.mem_of_getElem? hj)))
 |0,.ep _ _,h|0,.ls _,h|0,.agg _,h|0,.tup _,h|0,.fn _ _ _,h=>by simp[bU]at h
 |0,.ptr _ _,h|0,.os _,h|0,.rp _ _ _ _,h|0,.gr _ _,h|0,.gp _ _ _ _ _,h|0,.nw _ _,h|0,.nm _ _ _,h|0,.ng _ _,h|0,.gd _ _ _,h|0,.vw _ _ _ _,h=>by simp[bU]at h
 |_+1,.ptr _ _,h|_+1,.os _,h|_+1,.rp _ _ _ _,h|_+1,.gr _ _,h|_+1,.gp _ _ _ _ _,h|_+1,.nw _ _,h|_+1,.nm _ _ _,h|_+1,.ng _ _,h|_+1,.gd _ _ _,h|_+1,.vw _ _ _ _,h=>by simp[bU]at h
section
variable {P:Program}{F F':Nat→Prop}{own own':Own}{w w':World}{ts:Tis}
theorem Rel.over {s:SV}{v:Value}(hr:Rel F own w s v)(hp:PF s)(ho:∀ b,¬bS F own b→¬bS F' own' b):Rel F' own' w s v:=by
 induction hr with
 |any v=>exact .any v
 |v x=>exact .v x
 |ptr h1 h2=>cases hp
 |os h1 h2=>cases hp
 |e0=>exact .e0
 |rp h1 h2 h3=>cases hp
 |gr h1 h2 h3=>cases hp
 |gp h1 h2 h3=>cases hp
 |vw h1 h2 h3=>cases hp
 |ep c h1 _ ih=>cases hp with|ep hq=>exact .ep c (fun j s hj=>⟨ho _ (h1 j s hj).1,(h1 j s hj).2⟩) fun j s hj=>ih j s hj (hq j s hj)
 |rs c h0 h0' h1 _ ih=>exact .rs c h0 h0' (fun i x hi j s hj=>⟨ho _ (h1 i x hi j s hj).1,(h1 i x hi j s hj).2⟩) fun i x hi j s hj=>ih i x hi j s hj (jx hj)
 |rs0=>exact .rs0
 |ls c h0 h1 _ ih=>cases hp with|ls hq=>exact .ls c h0 (fun j s hj=>⟨ho _ (h1 j s hj).1,(h1 j s hj).2⟩) fun j s hj=>ih j s hj (hq j s hj)
 |rm ck cv es clock h0 h1 h2 h3 _ _ ih1 ih2=>exact .rm ck cv es clock (ho _ h0) h1 h2 h3 (fun i x hi=>ih1 i x hi (lg _ _)) (fun i x hi=>ih2 i x hi (lg _ _))
 |rm0=>exact .rm0
 |agg h0 _ ih=>cases hp with|agg hq=>exact .agg h0 fun j s hj=>ih j s hj (hq j s hj)
 |tup h0 _ ih=>cases hp with|tup hq=>exact .tup h0 fun j s hj=>ih j s hj (hq j s hj)
 |fn h0 h0' _ _ ih1 ih2=>cases hp with|fn hq hq'=>exact .fn h0 h0' (fun j s hj=>ih1 j s hj (hq j s hj)) fun j s hj=>ih2 j s hj (hq' j s hj)
theorem i0 {s:SV}{v:Value}(h:Rel F ce w s v):PF s:=by
 generalize ho:ce=o at h
 induction h with
 |any v=>exact .any
 |v x=>exact .v x
 |ptr h1 h2=>subst ho;cases h1
 |os h1 h2=>subst ho;cases h1
 |e0=>exact .e0
 |rp h1 h2 h3=>subst ho;cases h1
 |gr h1 h2 h3=>subst ho;cases h1
 |gp h1 h2 h3=>subst ho;cases h1
 |vw h1 h2 h3=>subst ho;cases h1
 |ep c h1 _ ih=>exact .ep fun j s hj=>ih j s hj
 |rs c h0 h0' h1 _ ih=>exact .rs
 |rs0=>exact .rs
 |ls c h0 h1 _ ih=>exact .ls fun j s hj=>ih j s hj
 |rm ck cv es clock h0 h1 h2 h3 _ _ ih1 ih2=>exact .rm
 |rm0=>exact .rm
 |agg h0 _ ih=>exact .agg fun j s hj=>ih j s hj
 |tup h0 _ ih=>exact .tup fun j s hj=>ih j s hj
 |fn h0 h0' _ _ ih1 ih2=>exact .fn (fun j s hj=>ih1 j s hj) fun j s hj=>ih2 j s hj
theorem cb {α β:Type}{f:α→β}{l:List α}{j:Nat}{s:β}(h:(l.map f)[j]? =some s):∃ x,l[j]? =some x∧f x=s:=by
 simpa using h
theorem iW {b:Nat}(h:¬F b):¬bS F ce b:=by
 rintro (hf| ⟨id,hd,e,_⟩)
 ·exact h hf
 ·cases e
theorem zf {b:Nat}(h:¬bS F own b):¬F b:=fun hf=>h (.inl hf)
theorem zg (hF:∀ b,F' b→F b){k:Tag}{l:List k.T}{v:Value}{bs:List Nat}(hr:RowRel F own w k l v bs)(hbs:∀ b∈bs,¬F b):Rel F' ce w (.rs k l) v:=by
 rcases hr with⟨a,rfl,rfl,_⟩ | ⟨b,o,cap,cs,ty,rfl,rfl,h3,h4,h5,h6,h7⟩
 ·exact .rs0
 ·refine .rs (fun i j=>cs.getD (o+i*aa k+j) undef) h5 h6 (fun i x hi j s hj=>?_) (fun i x hi j s hj=>?_)
  ·obtain⟨u,e1,e2⟩:=h7 i x hi j s hj
   refine⟨iW fun hf=>hbs b (by simp) (hF _ hf),?_⟩
   rw[cN h3,e1]
   simp[Array.getD_eq_getD_getElem?,e1]
  ·obtain⟨u,e1,e2⟩:=h7 i x hi j s hj
   have:cs.getD (o+i*aa k+j) undef=u:=by simp[Array.getD_eq_getD_getElem?,e1]
   rw[this]
   exact e2.over (jx hj) fun b hb=>iW fun hf=>hb (.inl (hF _ hf))
theorem De {h:List Ob}(hp:Hp F own w h){id sz cap:Nat}{lo hi:Int}{hd:Hd}{a:Option Addr}(h1:own id=some hd)(h2:IA hd.v sz lo hi a)(h3:hi.toNat - lo.toNat≤cap):Rel F ce w (Fq sz lo hi (ag h id)) (.slice a (hi.toNat - lo.toNat) cap):=by
 cases ho:ag h id with
 |row k l=>
  simp only[Fq]
  cases hb:Nat.beq sz (aa k)with
  |false=>exact .any _
  |true=>
   simp only[cond_true]
   have hsz:=Nat.eq_of_beq_eq_true hb
   subst hsz
   obtain⟨hd',e0,e⟩:=hp.at ho rfl
   rw[h1]at e0;cases e0
   have hnil:hi.toNat≤lo.toNat→Rel F ce w (.rs k ((l.take hi.toNat).drop lo.toNat)) (.slice a (hi.toNat - lo.toNat) cap):=fun hle=>by
    have e1:(l.take hi.toNat).drop lo.toNat=[]:=List.drop_eq_nil_of_le (by simp only[List.length_take];omega)
    have e2:hi.toNat - lo.toNat=0:=by omega
    rw[e1,e2]
    exact .rs0
   by_cases hle:hi.toNat≤lo.toNat
   ·exact hnil hle
   ·rcases h2 with h2| ⟨b',o',n',cap',q1,q2,rfl⟩
    ·exact absurd h2 hle
    ·rcases e with⟨a0,e1,rfl,_⟩ | ⟨b,o,cap0,cs,ty,e1,e2,e3,e4,e5,e6,e7⟩
     ·rw[q1]at e1
      simp only[Value.slice.injEq]at e1
      omega
     ·rw[q1]at e1
      simp only[Value.slice.injEq,Option.some.injEq,Addr.mk.injEq]at e1
      obtain⟨⟨rfl,rfl,_⟩,rfl,rfl⟩:=e1
      have hlen:((l.take hi.toNat).drop lo.toNat).length=hi.toNat - lo.toNat:=by simp only[List.length_drop,List.length_take];omega
      have hget:∀ i x,((l.take hi.toNat).drop lo.toNat)[i]? =some x→l[lo.toNat+i]? =some x:=fun i x hi'=>by
       rw[List.getElem?_drop,List.getElem?_take]at hi'
       split at hi'
       ·exact hi'
       ·cases hi'
      have hix:∀ i j,b'.succ=b'.succ→o'+lo.toNat*aa k+i*aa k+j=o'+(lo.toNat+i)*aa k+j:=fun i j _=>by rw[Nat.add_mul];omega
      rw[←hlen]
      refine .rs (fun i j=>cs.getD (o'+lo.toNat*aa k+i*aa k+j) undef) (by omega) (by omega) (fun i x hi' j s hj=>?_) (fun i x hi' j s hj=>?_)
      ·obtain⟨u,m1,m2⟩:=e7 _ x (hget i x hi') j s hj
       refine⟨iW fun hf=>hp.apart id hd b' h1 (by rw[e2];simp) hf,?_⟩
       rw[cN e3,hix i j rfl,m1]
       simp[Array.getD_eq_getD_getElem?,m1]
      ·obtain⟨u,m1,m2⟩:=e7 _ x (hget i x hi') j s hj
       have:cs.getD (o'+lo.toNat*aa k+i*aa k+j) undef=u:=by rw[hix i j rfl];simp[Array.getD_eq_getD_getElem?,m1]
       rw[this]
       exact m2.over (jx hj) fun b hb=>iW fun hf=>hb (.inl hf)
 |_=>exact .any _
theorem xD (k:Tag)(l:List (List k.T)):(∃ (k':Tag) (l':List k'.T),wT k l=.rs k' l'∧l'.length=l.length∧aa k'=1∧∀ (i:Nat) (x:k'.T),l'[i]? =some x→cellsOf k' x=[.rs k (l.getD i [])])∨wT k l=.any:=by
 cases k <;>first|exact .inr rfl|(left;exact⟨_,_,rfl,rfl,rfl,fun i x hx=>by simp[List.getD,hx,cellsOf]⟩)
theorem FI {h:List Ob}(hp:Hp F own w h){id:Nat}{v:Value}(hr:Rel F own w (.os id) v):Rel F ce w (frz (ag h id)) v:=by
 obtain⟨hd,h1,rfl,h2⟩:=eA hr
 cases ho:ag h id with
 |row k l=>
  obtain⟨hd',e0,e⟩:=hp.at ho rfl
  rw[h1]at e0;cases e0
  exact zg (fun _ h=>h) e fun b hb=>hp.apart id hd b h1 hb
 |mp kk vk l pend=>
  show Rel F ce w (bif noE pend then .rm kk vk l else .any) hd.v
  cases hq:noE pend with
  |false=>exact .any _
  |true=>
   obtain⟨hd',e0,b,es,clk,m1,m2,m3,m4,_⟩:=hp.at ho rfl
   rw[fw hq]at m4
   rw[h1]at e0;cases e0
   rw[m1]
   have hnb:¬bS F ce b:=iW (hp.apart id hd b h1 (by simp[m2]))
   have hg:∀ i,es[i]? =some ⟨(es.getD i default).key,(es.getD i default).val,(es.getD i default).born⟩∨es.size≤i:=fun i=>by
    rcases Nat.lt_or_ge i es.size with hlt|hge
    ·left;simp[Array.getD_eq_getD_getElem?,hlt]
    ·exact .inr hge
   refine .rm (fun i=>(es.getD i default).key) (fun i=>(es.getD i default).val) es clk hnb m3 m4.1 (fun i x hi=>?_) (fun i x hi=>?_) (fun i x hi=>?_)
   ·obtain⟨e,e1,e2,e3,e4⟩:=m4.2 i x hi
    exact⟨_,(hg i).resolve_right (by have:=(Array.getElem?_eq_some_iff.1 e1).1;omega)⟩
   ·obtain⟨e,e1,e2,e3,e4⟩:=m4.2 i x hi
    have:es.getD i default=e:=by simp[Array.getD_eq_getD_getElem?,e1]
    rw[this];exact e3.over (lg _ _) fun b hb=>iW (zf hb)
   ·obtain⟨e,e1,e2,e3,e4⟩:=m4.2 i x hi
    have:es.getD i default=e:=by simp[Array.getD_eq_getD_getElem?,e1]
    rw[this];exact e4.over (lg _ _) fun b hb=>iW (zf hb)
 |grid k l=>
  obtain⟨hd',e0,e⟩:=hp.at ho rfl
  rw[h1]at e0;cases e0
  show Rel F ce w (wT k l) hd.v
  rcases xD k l with⟨k',l',q1,q2,q3,q4⟩ |q
  ·rw[q1]
   rcases e with⟨e1,rfl,_⟩ | ⟨b,o,cap,cs,ty,bs,e1,e2,e3,e4,e5,e6,e7,e8,e9⟩
   ·have:l'=[]:=List.eq_nil_of_length_eq_zero (by simpa using q2)
    rw[this,e1];exact .rs0
   ·rw[e1,←q2]
    have hvl:=e9.len
    refine .rs (fun i j=>hd.vs.getD i undef) (by omega) (by omega) (fun i x hi j s hj=>?_) (fun i x hi j s hj=>?_)
    ·have hil:i<hd.vs.length:=by rw[hvl,←q2];exact(List.getElem?_eq_some_iff.1 hi).1
     rw[q4 i x hi]at hj
     cases j with
     |succ j=>simp at hj
     |zero=>
      refine⟨iW (hp.apart id hd b h1 (by simp[e2])),?_⟩
      rw[q3,Nat.mul_one,Nat.add_zero,cN e4]
      exact e8 i _ (ju hil)
    ·have hil:i<hd.vs.length:=by rw[hvl,←q2];exact(List.getElem?_eq_some_iff.1 hi).1
     rw[q4 i x hi]at hj
     cases j with
     |succ j=>simp at hj
     |zero=>
      simp at hj;subst hj
      obtain⟨b1,k1,k2,k3,k4⟩:=e9.get (ju (d:=undef) hil)
      exact zg (fun _ h=>h) k3 fun c hc=>hp.apart id hd c h1 (by rw[e2];exact List.mem_cons_of_mem _ (k4 c hc))
  ·rw[q];exact .any _
 |_=>exact .any _
theorem RowAt.ep {k:Tag}{l:List k.T}{o b:Nat}{cs:Array Value}{ty:TypeId}(h3:w.heap[b]? =some (.cells cs ty (0,0)))(h7:RowAt F own w k l o cs)(hb:¬F b){i:Nat}(hi:i<l.length)(off:Nat):Rel F ce w (.ep (cellsOf k (l.getD i (dq k))) off) (.pointer (some ⟨b,o+i*aa k+off,none⟩)):=by
 refine .ep (fun j=>cs.getD (o+i*aa k+j) undef) (fun j s hj=>?_) (fun j s hj=>?_)
 ·obtain⟨e1,e2⟩:=h7.get hi hj
  exact⟨iW hb,by rw[cN h3];exact e1⟩
 ·obtain⟨e1,e2⟩:=h7.get hi hj
  exact e2.over (jx hj) fun b hb=>iW (zf hb)
theorem nK {h:List Ob}(hp:Hp F own w h):∀ (n:Nat) (s:SV) (v:Value),Rel F own w s v→Rel F ce w (du h n s) v:=by
 have iQ:∀ (n:Nat) (s:SV) (v:Value),Rel F own w s v→(∀ l o,s≠ .ep l o)→(∀ l,s≠ .ls l)→(∀ l,s≠ .agg l)→(∀ l,s≠ .tup l)→(∀ f l m,s≠ .fn f l m)→(∀ i o,s≠ .ptr i o)→Rel F ce w (du h n s) v:=by
  intro n s v hr n1 n2 n3 n4 n5 n6
  cases hr with
  |any=>cases n <;>exact .any _
  |v x=>cases n <;>exact .v _
  |ptr=>exact absurd rfl (n6 _ _)
  |os h1 h2=>cases n <;>exact FI hp (.os h1 h2)
  |vw h1 h2 h3=>cases n <;>exact De hp h1 h2 h3
  |e0=>cases n <;>exact .e0
  |rp h1 h2 h3=>
   rename_i szt id off nn cap b o i hd
   have key:Rel F ce w (bif Nat.beq szt 0 then .any else Fo szt off i (ag h id)) (.pointer (some ⟨b,o+i.toNat*szt+off,none⟩)):=by
    cases hz:Nat.beq szt 0 with
    |true=>exact .any _
    |false=>
     simp only[cond_false]
     cases ho:ag h id with
     |row k l=>
      simp only[Fo]
      cases hb:Nat.beq szt (aa k)with
      |false=>exact .any _
      |true=>
       have hsz:=Nat.eq_of_beq_eq_true hb
       obtain⟨hd',e0,e⟩:=hp.at ho rfl
       rw[h1]at e0;cases e0
       rcases e with⟨a,e1,_⟩ | ⟨b',o',cap',cs,ty,e1,e2,e3,e4,e5,e6,e7⟩
       ·rw[h2]at e1;cases e1;omega
       ·rw[h2]at e1
        simp only[Value.slice.injEq,Option.some.injEq,Addr.mk.injEq]at e1
        obtain⟨⟨rfl,rfl,_⟩,rfl,rfl⟩:=e1
        rw[hsz]
        exact RowAt.ep e3 e7 (hp.apart id hd b h1 (by simp[e2])) h3 off
     |_=>exact .any _
   cases n <;>exact key
  |gr h1 h2 h3=>
   rename_i id i hd
   have key:Rel F ce w (CV i (ag h id)) v:=by
    cases ho:ag h id with
    |grid k l=>
     obtain⟨hd',e0,e⟩:=hp.at ho rfl
     rw[h1]at e0;cases e0
     rcases e with⟨_,_,e1,_⟩ | ⟨b,o,cap,cs,ty,bs,e1,e2,e3,e4,e5,e6,e7,e8,e9⟩
     ·rw[e1]at h2;simp at h2
     ·obtain⟨b1,k1,k2,k3,k4⟩:=e9.get h2
      exact zg (fun _ h=>h) k3 fun c hc=>hp.apart id hd c h1 (by rw[e2];exact List.mem_cons_of_mem _ (k4 c hc))
    |_=>exact .any _
   cases n <;>exact key
  |gp h1 h2 h3=>
   rename_i szt id off nn cap b o i j hd
   have key:Rel F ce w (bif Nat.beq szt 0 then .any else At szt off i j (ag h id)) (.pointer (some ⟨b,o+j.toNat*szt+off,none⟩)):=by
    cases hz:Nat.beq szt 0 with
    |true=>exact .any _
    |false=>
     simp only[cond_false]
     cases ho:ag h id with
     |grid k l=>
      simp only[At]
      cases hb:Nat.beq szt (aa k)with
      |false=>exact .any _
      |true=>
       have hsz:=Nat.eq_of_beq_eq_true hb
       obtain⟨hd',e0,e⟩:=hp.at ho rfl
       rw[h1]at e0;cases e0
       rcases e with⟨_,_,e1,_⟩ | ⟨b',o',cap',cs,ty,bs,e1,e2,e3,e4,e5,e6,e7,e8,e9⟩
       ·rw[e1]at h2;simp at h2
       ·obtain⟨b1,k1,k2,k3,k4⟩:=e9.get h2
        rcases k3 with⟨a,m1,_⟩ | ⟨b2,o2,cap2,cs2,ty2,m1,m2,m3,m4,m5,m6,m7⟩
        ·cases m1;omega
        ·simp only[Value.slice.injEq,Option.some.injEq,Addr.mk.injEq]at m1
         obtain⟨⟨rfl,rfl,_⟩,rfl,rfl⟩:=m1
         rw[hsz]
         exact RowAt.ep m3 m7 (hp.apart id hd b h1 (by rw[e2];exact List.mem_cons_of_mem _ (k4 b (by simp[m2])))) h3 off
     |_=>exact .any _
   cases n <;>exact key
  |ep=>exact absurd rfl (n1 _ _)
  |rs c h0 h0' h1 h2=>cases n <;>exact Rel.over (.rs c h0 h0' h1 h2) .rs fun b hb=>iW (zf hb)
  |rs0=>cases n <;>exact .rs0
  |ls=>exact absurd rfl (n2 _)
  |rm ck cv es clock h0 h1 h2 h3 h4 h5=>cases n <;>exact Rel.over (.rm ck cv es clock h0 h1 h2 h3 h4 h5) .rm fun b hb=>iW (zf hb)
  |rm0=>cases n <;>exact .rm0
  |agg=>exact absurd rfl (n3 _)
  |tup=>exact absurd rfl (n4 _)
  |fn=>exact absurd rfl (n5 _ _ _)
 intro n
 induction n with
 |zero=>
  intro s v hr
  cases s <;>first|exact .any _|(refine iQ 0 _ _ hr ?_ ?_ ?_ ?_ ?_ ?_ <;>intros <;>(intro e;cases e)) |cases hr
 |succ n ih=>
  intro s v hr
  cases s with
  |ptr id off=>
   cases hr with
   |ptr h1 h2=>
    rename_i b hd
    simp only[du]
    cases ho:ag h id with
    |cells l=>
     simp only[Bp]
     obtain⟨hd',e0,b',cs,ty,e1,e2,e3,e4,e5⟩:=hp.at ho rfl
     rw[h1]at e0;cases e0
     rw[h2]at e1;cases e1
     have:=Rel.ep (F:=F) (own:=ce) (w:=w) (cells:=l.map (du h n)) (off:=off) (b:=b) (o:=0) (fun j=>cs.getD j undef)
      (fun j s hj=>by
       obtain⟨x,hx,rfl⟩:=cb hj
       refine⟨iW (hp.apart _ _ b h1 (by simp[e2])),?_⟩
       have hjl:j<cs.size:=by rw[e4];exact(List.getElem?_eq_some_iff.1 hx).1
       rw[Nat.zero_add,cN e3];simp[hjl])
      (fun j s hj=>by
       obtain⟨x,hx,rfl⟩:=cb hj
       exact ih x _ (e5 j x hx))
     simpa using this
    |_=>exact .any _
  |ep l o=>
   cases hr with
   |ep c h1 h2=>
    simp only[du]
    exact .ep c (fun j s hj=>by obtain⟨x,hx,rfl⟩:=cb hj;exact⟨iW (zf (h1 j x hx).1),(h1 j x hx).2⟩) (fun j s hj=>by obtain⟨x,hx,rfl⟩:=cb hj;exact ih x _ (h2 j x hx))
  |ls l=>
   cases hr with
   |ls c h0 h1 h2=>
    simp only[du]
    have:=Rel.ls (F:=F) (own:=ce) (w:=w) (l:=l.map (du h n)) c (by simpa using h0) (fun j s hj=>by obtain⟨x,hx,rfl⟩:=cb hj;exact⟨iW (zf (h1 j x hx).1),(h1 j x hx).2⟩) (fun j s hj=>by obtain⟨x,hx,rfl⟩:=cb hj;exact ih x _ (h2 j x hx))
    simpa using this
  |agg l=>cases hr with|agg h0 h1=>simp only[du];exact .agg (by simpa using h0) fun j s hj=>by obtain⟨x,hx,rfl⟩:=cb hj;exact ih x _ (h1 j x hx)
  |tup l=>cases hr with|tup h0 h1=>simp only[du];exact .tup (by simpa using h0) fun j s hj=>by obtain⟨x,hx,rfl⟩:=cb hj;exact ih x _ (h1 j x hx)
  |fn f l m=>cases hr with|fn h0 h0' h1 h2=>simp only[du];exact .fn (by simpa using h0) (by simpa using h0') (fun j s hj=>by obtain⟨x,hx,rfl⟩:=cb hj;exact ih x _ (h1 j x hx)) fun j s hj=>by obtain⟨x,hx,rfl⟩:=cb hj;exact ih x _ (h2 j x hx)
  |_=>first|(refine iQ (n+1) _ _ hr ?_ ?_ ?_ ?_ ?_ ?_ <;>intros <;>(intro e;cases e)) |cases hr
theorem Df {h:List Ob}:∀ (n:Nat) (s:SV) (v:Value),PF s→Rel F own w s v→Rel (bS F own) ce w (du h n s) v:=by
 have hown:∀ b,¬bS F own b→¬bS (bS F own) ce b:=fun b hb=>iW hb
 intro n
 induction n with
 |zero=>
  intro s v hpf hr
  cases hpf with
  |any=>exact .any _
  |v x=>exact hr.over (.v x) hown
  |e0=>exact hr.over .e0 hown
  |rs=>exact hr.over .rs hown
  |rm=>exact hr.over .rm hown
  |_=>exact .any _
 |succ n ih=>
  intro s v hpf hr
  cases hpf with
  |any=>exact .any _
  |v x=>exact hr.over (.v x) hown
  |e0=>exact hr.over .e0 hown
  |rs=>exact hr.over .rs hown
  |rm=>exact hr.over .rm hown
  |ep hq=>
   cases hr with
   |ep c h1 h2=>
    simp only[du]
    exact .ep c (fun j s hj=>by obtain⟨x,hx,rfl⟩:=cb hj;exact⟨hown _ (h1 j x hx).1,(h1 j x hx).2⟩) (fun j s hj=>by obtain⟨x,hx,rfl⟩:=cb hj;exact ih x _ (hq j x hx) (h2 j x hx))
  |ls hq=>
   cases hr with
   |ls c h0 h1 h2=>
    simp only[du]
    rename_i l b o cap
    have:=Rel.ls (F:=bS F own) (own:=ce) (w:=w) (l:=l.map (du h n)) c (by simpa using h0) (fun j s hj=>by obtain⟨x,hx,rfl⟩:=cb hj;exact⟨hown _ (h1 j x hx).1,(h1 j x hx).2⟩) (fun j s hj=>by obtain⟨x,hx,rfl⟩:=cb hj;exact ih x _ (hq j x hx) (h2 j x hx))
    simpa using this
  |agg hq=>cases hr with|agg h0 h1=>simp only[du];exact .agg (by simpa using h0) fun j s hj=>by obtain⟨x,hx,rfl⟩:=cb hj;exact ih x _ (hq j x hx) (h1 j x hx)
  |tup hq=>cases hr with|tup h0 h1=>simp only[du];exact .tup (by simpa using h0) fun j s hj=>by obtain⟨x,hx,rfl⟩:=cb hj;exact ih x _ (hq j x hx) (h1 j x hx)
  |fn hq hq'=>cases hr with|fn h0 h0' h1 h2=>simp only[du];exact .fn (by simpa using h0) (by simpa using h0') (fun j s hj=>by obtain⟨x,hx,rfl⟩:=cb hj;exact ih x _ (hq j x hx) (h1 j x hx)) fun j s hj=>by obtain⟨x,hx,rfl⟩:=cb hj;exact ih x _ (hq' j x hx) (h2 j x hx)
def cnt (n:Nat):List SV→Nat
 | [] =>0
 |x::r=>(aB n x).length+cnt n r
def nb (F:Nat→Prop)(own:Own)(w:World):Nat→Nat→SV→Value→Prop
 |_,b,.nw _ _,v=>∃ hd,own b=some hd∧v=hd.v∧jq v=true
 |_,b,.nm _ _ _,v=>∃ hd,own b=some hd∧v=hd.v∧jq v=true
 |_,b,.ng _ _,v=>∃ hd,own b=some hd∧v=hd.v∧jq v=true
 |n+1,b,.agg l,v=>∃ vs,v=.agg vs∧vs.size=l.length∧∀ (j:Nat) (s:SV),l[j]? =some s→nb F own w n (b+cnt n (l.take j)) s (vs.getD j undef)
 |n+1,b,.tup l,v=>∃ vs,v=.tuple vs∧vs.size=l.length∧∀ (j:Nat) (s:SV),l[j]? =some s→nb F own w n (b+cnt n (l.take j)) s (vs.getD j undef)
 |_,_,s,v=>Rel (bS F own) ce w s v
theorem oI (f:Nat→SV→SV)(n:Nat):∀ (l:List SV) (b j:Nat) (s:SV),(jM f (fun s=>(aB n s).length) b l)[j]? =some s→∃ x,l[j]? =some x∧s=f (b+cnt n (l.take j)) x
 | [],b,j,s,h=>by simp[jM]at h
 |x::r,b,0,s,h=>by simp[jM]at h;exact⟨x,rfl,by simp[cnt,h]⟩
 |x::r,b,j+1,s,h=>by
  simp[jM]at h
  obtain⟨y,h1,h2⟩:=oI f n r _ j s h
  exact⟨y,by simpa using h1,by rw[h2];simp[cnt,Nat.add_assoc]⟩
theorem oJ (f:Nat→SV→SV)(c:SV→Nat):∀ (l:List SV) (b:Nat),(jM f c b l).length=l.length
 | [],b=>rfl
 |x::r,b=>by simp[jM,oJ f c r]
theorem uM:∀ (n:Nat) (s:SV) (v:Value),dV n s=true→(∀ k l,s≠ .nw k l)→(∀ k k2 l,s≠ .nm k k2 l)→(∀ k l,s≠ .ng k l)→(∀ l,s≠ .agg l)→(∀ l,s≠ .tup l)→Rel F own w s v→Rel F' own' w' s v:=by
 intro n s v h n1 n2 n3 n4 n5 hr
 cases s with
 |v x=>cases hr;exact .v _
 |nw k l=>exact absurd rfl (n1 _ _)
 |nm k k2 l=>exact absurd rfl (n2 _ _ _)
 |ng k l=>exact absurd rfl (n3 _ _)
 |agg l=>exact absurd rfl (n4 _)
 |tup l=>exact absurd rfl (n5 _)
 |_=>cases n <;>simp[dV]at h
theorem sX {own2:Own}{m:Nat}(ho:∀ id hd,own' id=some hd→own2 (id+m)=some hd):∀ (n b:Nat) (s:SV) (v:Value),nb F own' w n b s v→
  ((∀ c,¬bS (bS F own') ce c→¬bS F' own2 c)∨dV n s=true)→Rel F' own2 w (ej n (b+m) s) v:=by
 intro n
 induction n with
 |zero=>
  intro b s v h hc
  cases s with
  |nw k l=>obtain⟨hd,h1,rfl,h3⟩:=h;exact .os (ho _ _ h1) h3
  |nm k k2 l=>obtain⟨hd,h1,rfl,h3⟩:=h;exact .os (ho _ _ h1) h3
  |ng k l=>obtain⟨hd,h1,rfl,h3⟩:=h;exact .os (ho _ _ h1) h3
  |agg l=>
   have hr:Rel (bS F own') ce w (.agg l) v:=h
   rcases hc with hc|hc
   ·exact hr.over (i0 hr) hc
   ·simp[dV]at hc
  |tup l=>
   have hr:Rel (bS F own') ce w (.tup l) v:=h
   rcases hc with hc|hc
   ·exact hr.over (i0 hr) hc
   ·simp[dV]at hc
  |_=>
   have hr:Rel (bS F own') ce w _ v:=h
   rcases hc with hc|hc
   ·exact hr.over (i0 hr) hc
   ·exact uM _ _ _ hc (by intros;intro e;cases e) (by intros;intro e;cases e) (by intros;intro e;cases e) (by intros;intro e;cases e) (by intros;intro e;cases e) hr
 |succ n ih=>
  intro b s v h hc
  cases s with
  |nw k l=>obtain⟨hd,h1,rfl,h3⟩:=h;exact .os (ho _ _ h1) h3
  |nm k k2 l=>obtain⟨hd,h1,rfl,h3⟩:=h;exact .os (ho _ _ h1) h3
  |ng k l=>obtain⟨hd,h1,rfl,h3⟩:=h;exact .os (ho _ _ h1) h3
  |agg l=>
   obtain⟨vs,rfl,h1,h2⟩:=h
   refine .agg (by rw[oJ];exact h1) fun j s hj=>?_
   obtain⟨x,e1,rfl⟩:=oI _ n l _ j s hj
   have:=ih _ x _ (h2 j x e1) (hc.imp id fun hs=>by simp only[dV,List.all_eq_true]at hs;exact hs x (List.mem_of_getElem? e1))
   rwa[show b+cnt n (l.take j)+m=b+m+cnt n (l.take j) by omega]at this
  |tup l=>
   obtain⟨vs,rfl,h1,h2⟩:=h
   refine .tup (by rw[oJ];exact h1) fun j s hj=>?_
   obtain⟨x,e1,rfl⟩:=oI _ n l _ j s hj
   have:=ih _ x _ (h2 j x e1) (hc.imp id fun hs=>by simp only[dV,List.all_eq_true]at hs;exact hs x (List.mem_of_getElem? e1))
   rwa[show b+cnt n (l.take j)+m=b+m+cnt n (l.take j) by omega]at this
  |_=>
   have hr:Rel (bS F own') ce w _ v:=h
   rcases hc with hc|hc
   ·exact hr.over (i0 hr) hc
   ·exact uM _ _ _ hc (by intros;intro e;cases e) (by intros;intro e;cases e) (by intros;intro e;cases e) (by intros;intro e;cases e) (by intros;intro e;cases e) hr
theorem sY:∀ (n:Nat) {s:SV} {v:Value},Rel F own w s v→aB n s=[]
 |0,s,v,h=>by cases h <;>rfl
 |n+1,s,v,h=>by
  cases h <;>first|rfl|skip
  ·rename_i l vs h0 h1
   simp only[aB,List.flatMap_eq_nil_iff]
   intro x hx
   obtain⟨j,hj⟩:=List.getElem?_of_mem hx
   exact sY n (h1 j x hj)
  ·rename_i l vs h0 h1
   simp only[aB,List.flatMap_eq_nil_iff]
   intro x hx
   obtain⟨j,hj⟩:=List.getElem?_of_mem hx
   exact sY n (h1 j x hj)
theorem Dg:∀ (n b:Nat) {s:SV} {v:Value},Rel F ce w s v→nb F ce w n b s v:=by
 have hF:∀ c,¬bS F ce c→¬bS (bS F ce) ce c:=fun c hc=>iW hc
 intro n
 induction n with
 |zero=>intro b s v h;have:=h.over (i0 h) hF;cases s <;>first|exact this|cases h
 |succ n ih=>
  intro b s v h
  have:=h.over (i0 h) hF
  cases s with
  |agg l=>cases h with|agg h0 h1=>exact⟨_,rfl,h0,fun j s hj=>ih _ (h1 j s hj)⟩
  |tup l=>cases h with|tup h0 h1=>exact⟨_,rfl,h0,fun j s hj=>ih _ (h1 j s hj)⟩
  |nw=>cases h
  |nm=>cases h
  |ng=>cases h
  |gd=>cases h
  |_=>exact this
end
end Go.Sx
end
section
namespace Go.Sx
open Go.RowKit
def bp:Con→Prop
 | .det p _=>p
 | .rel _ p _ _=>p
 | .may _ _ _=>True
def cO:Con→SV→Prop
 | .det _ s,s'=>s'=s
 | .rel _ _ post out,s'=>∃ r,post r∧s'=out r
 | .may ok s _,s'=>ok=true∧s'=s
def ia:Con→Value→Prop
 | .may ok _ x,x'=>ok=false∧x'=x
 |_,_=>False
section
variable {P:Program}{F F':Nat→Prop}{own own':Own}{w w':World}{ts:Tis}
structure Handed (F:Nat→Prop)(w:World)(own':Own)(w':World)(s:SV)(u:Value):Prop where
 hp:Hp F own' w' (aB 3 s)
 val:nb F own' w' 3 0 s u
 fresh:∀ (id:Nat) (hd:Hd) (b:Nat),own' id=some hd→b∈hd.bs→w.heap.size≤b
structure FnOk (P:Program)(f:FuncId)(C:List SV→Option Con):Prop where
 enter:∀ l c,C l=some c→∀ (args:Array Value) (w:World),(callFunc f args).run P w=.ok (.enter f args) w
 calls:∀ l c,C l=some c→bp c→∀ (F:Nat→Prop) (w:World) (vs:Array Value),(∀ b,F b→b<w.heap.size)→RelL F ce w l vs→
  Calls P f vs w (fun e w'=>(∃ s u own',cO c s∧e=.returned u∧Handed F w own' w' s u∧Below w.heap.size w w')∨(∃ x,ia c x∧e=.panicked [{ v:=x,recovered:=false}]∧Below w.heap.size w w'))
def zh (F:Nat→Prop)(w:World)(own:Own)(n:Nat)(e:Ending)(own':Own)(w':World):Rs→Prop
 | .ret s h=>(∃ u,e=.returned u∧Rel F own' w' s u)∧Hp F own' w' h∧Fr { w:=w,own:=own} own' w'∧n≤h.length
 | .pan x h=>e=.panicked [{ v:=x,recovered:=false}]∧Hp F own' w' h∧Fr { w:=w,own:=own} own' w'∧n≤h.length
structure FnOkO (P:Program)(f:FuncId)(C:List SV→List Ob→Option HCon):Prop where
 enter:∀ l h c,C l h=some c→∀ (args:Array Value) (w:World),(callFunc f args).run P w=.ok (.enter f args) w
 calls:∀ l h c,C l h=some c→c.pre→∀ (F:Nat→Prop) (own:Own) (w:World) (vs:Array Value),Hp F own w h→RelL F own w l vs→
  Calls P f vs w (fun e w'=>∃ r own',c.post r∧zh F w own h.length e own' w' (c.res r))
abbrev rd (r:Option Nat):Fence:= { fn:=fun _=>True,depth:=none,alive:=false,round:=r}
def HH (P:Program)(v:Value)(vs:Array Value)(w:World)(R:Ending→World→Prop):Prop:=
 (∃ f args,(BQ v vs).run P w=.ok (.enter f args) w∧Calls P f args w R)∨(∃ l f tmps as bd,(BQ v vs).run P w=.ok (.round l f tmps as bd) w∧RoundIn (rd none) 0 P l f tmps as bd w R)
structure YFr (bs bs':List Nat)(w w':World):Prop where
 os:w'.os=w.os
 tape:w'.tape=w.tape
 output:w'.output=w.output
 size:w.heap.size≤w'.heap.size
 block:∀ b,b<w.heap.size→b ∉ bs→w'.heap[b]? =w.heap[b]?
 bs:∀ b∈bs',b<w'.heap.size∧(b∈bs∨w.heap.size≤b)
def YOk (P:Program)(C:List SV→Res→Option YCon):Prop:=
 ∀ l r c,C l r=some c→c.pre→∀ (F:Nat→Prop) (bs:List Nat) (w:World) (vs:Array Value),r.R F bs w→(∀ b,F b→b<w.heap.size)→(∀ b∈bs,b<w.heap.size∧¬F b)→RelL (fun b=>F b∨b∈bs) ce w l vs→
  HH P r.yv vs w (fun e w'=>∃ a bs',c.post a∧e=.returned (.bool (c.res a).1)∧(c.res a).2.R F bs' w'∧(c.res a).2.yv=r.yv∧YFr bs bs' w w')
structure ConsOk (P:Program)(G:Cons):Prop where
 p:∀ f,FnOk P f (G.p f)
 o:∀ f,FnOkO P f (G.o f)
 y:YOk P G.y
theorem iy {P:Program}{r:Option Nat}{n:Nat}{f:FuncId}{vs:Array Value}{w:World}{R:Ending→World→Prop}(h:Calls P f vs w R):CallsIn (rd r) n P f vs w R:=(callsIn_wide (n:=n)).2 h
theorem kv {P:Program}{n:Nat}{f:FuncId}{vs:Array Value}{w:World}{R:Ending→World→Prop}(h:CallsIn (rd none) n P f vs w R):Calls P f vs w R:=(callsIn_wide (n:=n)).1 h
theorem xE {P:Program}{r:Option Nat}{n l:Nat}{f:FuncId}{tmps:Array Value}{as bd:Code}{w:World}{R:Ending→World→Prop}(h:RoundIn (rd none) 0 P l f tmps as bd w R):RoundIn (rd r) n P l f tmps as bd w R:=
 ⟨trivial,fun c cs hr=>h.2 c cs (by simp[Fence.room])⟩
theorem vZ {k:Tag}(hk:rank k=0){x:k.T}{j:Nat}{s:SV}(h:(cellsOf k x)[j]? =some s):∃ y,s=.v y:=by
 rcases mW h with⟨y,rfl,_⟩ | ⟨k',l,rfl,hr⟩ | ⟨k',k2,l,rfl,hr,_⟩ | ⟨f,rfl,hr⟩
 ·exact⟨y,rfl⟩
 ·omega
 ·omega
 ·exact absurd hk hr
theorem uN {k:Tag}(hk:rank k=0){x:k.T}{v:Value}(h:Rel F own w (svT k x) v):Rel F' own' w' (svT k x) v:=by
 unfold svT at h ⊢
 cases ha:ip k with
 |true=>
  rw[ha]at h
  simp only[cond_true]at h ⊢
  obtain⟨vs,rfl,h1⟩:=kW h
  exact .agg h1.1 fun j s hj=>by
   obtain⟨y,rfl⟩:=vZ hk hj
   have:=bV (h1.2 j _ hj)
   rw[this];exact .v y
 |false=>
  rw[ha]at h
  simp only[cond_false,dI]at h ⊢
  cases hc:(cellsOf k x)[0]? with
  |none=>exact .any _
  |some s=>
   rw[hc]at h
   obtain⟨y,rfl⟩:=vZ hk hc
   have:=bV h
   rw[this];exact .v y
theorem RowAt.over {k:Tag}{l:List k.T}{o:Nat}{cs:Array Value}(h:RowAt F own w k l o cs)(hc:(∀ b,¬bS F own b→¬bS F' own' b)∨rank k=0):RowAt F' own' w k l o cs:=fun i x hi j s hj=>by
 obtain⟨u,h1,h2⟩:=h i x hi j s hj
 refine⟨u,h1,?_⟩
 rcases hc with hc|hk
 ·exact h2.over (jx hj) hc
 ·obtain⟨y,rfl⟩:=vZ hk hj
  have:=bV h2
  rw[this];exact .v y
theorem RowRel.over {k:Tag}{l:List k.T}{v:Value}{bs:List Nat}(h:RowRel F own w k l v bs)(hc:(∀ b,¬bS F own b→¬bS F' own' b)∨rank k=0):RowRel F' own' w k l v bs:=by
 rcases h with h| ⟨b,o,cap,cs,ty,h1,h2,h3,h4,h5,h6,h7⟩
 ·exact .inl h
 ·exact .inr ⟨b,o,cap,cs,ty,h1,h2,h3,h4,h5,h6,h7.over hc⟩
theorem GridIn.over {k:Tag}(hc:(∀ b,¬bS F own b→¬bS F' own' b)∨rank k=0):∀ {l:List (List k.T)} {vs:List Value} {bs:List Nat},GridIn F own w k l vs bs→GridIn F' own' w k l vs bs
 | [],[],bs,h=>h
 |l::ls,v::vs,bs,⟨b1,b2,h1,h0,h2,h3⟩ =>⟨b1,b2,h1,h0,h2.over hc,h3.over hc⟩
 | [],_::_,_,h=>h.elim
 |_::_,[],_,h=>h.elim
def Plain (o:Ob):Prop:=(∃ (k:Tag) (l:List k.T),o=.row k l)∨(∃ (k k2:Tag) (l:List (k.T×k2.T)),o=.mp k k2 l none)∨∃ (k:Tag) (l:List (List k.T)),o=.grid k l
def HI (o:Ob):Prop:=match o with
 | .row k _=>rank k=0
 | .mp k k2 _ _=>rank k=0∧rank k2=0
 | .grid k _=>rank k=0
 |_=>False
theorem ObRel.over {hd:Hd}{o:Ob}(ho:Plain o)(h:ObRel F own w hd o)(hc:(∀ b,¬bS F own b→¬bS F' own' b)∨HI o):ObRel F' own' w hd o:=by
 rcases ho with⟨k,l,rfl⟩ | ⟨k,k2,l,rfl⟩ | ⟨k,l,rfl⟩
 ·exact RowRel.over h hc
 ·obtain⟨b,es,clk,h1,h2,h3,h4,h5,h6⟩:=h
  refine⟨b,es,clk,h1,h2,h3,⟨h4.1,fun i x hi=>?_⟩,h5,trivial⟩
  obtain⟨e,e1,e2,e3,e4⟩:=h4.2 i x hi
  refine⟨e,e1,e2,?_,?_⟩
  ·rcases hc with hc|hk
   ·exact e3.over (lg _ _) hc
   ·exact uN hk.1 e3
  ·rcases hc with hc|hk
   ·exact e4.over (lg _ _) hc
   ·exact uN hk.2 e4
 ·rcases h with h| ⟨b,o,cap,cs,ty,bs,h1,h2,h3,h4,h5,h6,h7,h8,h9⟩
  ·exact .inl h
  ·exact .inr ⟨b,o,cap,cs,ty,bs,h1,h2,h3,h4,h5,h6,h7,h8,h9.over hc⟩
theorem oK:∀ (n:Nat) (s:SV) (o:Ob),o∈aB n s→Plain o∧(dV n s=true→HI o):=by
 intro n
 induction n with
 |zero=>
  intro s o h
  cases s <;>simp[aB]at h <;>subst h
  ·exact⟨.inl ⟨_,_,rfl⟩,fun hs=>Nat.eq_of_beq_eq_true hs⟩
  ·exact⟨.inr (.inl ⟨_,_,_,rfl⟩),fun hs=>by simp only[dV,Bool.and_eq_true]at hs;exact⟨Nat.eq_of_beq_eq_true hs.1,Nat.eq_of_beq_eq_true hs.2⟩⟩
  ·exact⟨.inr (.inr ⟨_,_,rfl⟩),fun hs=>Nat.eq_of_beq_eq_true hs⟩
 |succ n ih=>
  intro s o h
  cases s with
  |nw k l=>simp[aB]at h;subst h;exact⟨.inl ⟨_,_,rfl⟩,fun hs=>Nat.eq_of_beq_eq_true hs⟩
  |nm k k2 l=>simp[aB]at h;subst h;exact⟨.inr (.inl ⟨_,_,_,rfl⟩),fun hs=>by simp only[dV,Bool.and_eq_true]at hs;exact⟨Nat.eq_of_beq_eq_true hs.1,Nat.eq_of_beq_eq_true hs.2⟩⟩
  |ng k l=>simp[aB]at h;subst h;exact⟨.inr (.inr ⟨_,_,rfl⟩),fun hs=>Nat.eq_of_beq_eq_true hs⟩
  |agg l=>
   simp only[aB,List.mem_flatMap]at h
   obtain⟨x,hx,h⟩:=h
   exact⟨(ih x o h).1,fun hs=>(ih x o h).2 (by simp only[dV,List.all_eq_true]at hs;exact hs x hx)⟩
  |tup l=>
   simp only[aB,List.mem_flatMap]at h
   obtain⟨x,hx,h⟩:=h
   exact⟨(ih x o h).1,fun hs=>(ih x o h).2 (by simp only[dV,List.all_eq_true]at hs;exact hs x hx)⟩
  |_=>simp[aB]at h
theorem xF {h:List Ob}{id:Nat}(hd:b9 (ag h id)=false):ag h id∈h:=by
 rw[jg]at hd ⊢
 cases hg:h[id]? with
 |none=>rw[hg]at hd;simp[b9]at hd
 |some o=>exact List.mem_of_getElem? hg
theorem ka {α:Type}:∀ {l:List α} {i j:Nat} {x:α},l.Nodup→l[i]? =some x→l[j]? =some x→i=j
 | [],i,j,x,_,h,_=>by simp at h
 |a::r,0,0,x,_,_,_=>rfl
 |a::r,0,j+1,x,hn,h1,h2=>by
  simp at h1 h2;subst h1
  rw[List.nodup_cons]at hn
  exact absurd (List.mem_of_getElem? h2) hn.1
 |a::r,i+1,0,x,hn,h1,h2=>by
  simp at h1 h2;subst h2
  rw[List.nodup_cons]at hn
  exact absurd (List.mem_of_getElem? h1) hn.1
 |a::r,i+1,j+1,x,hn,h1,h2=>by
  simp at h1 h2
  rw[List.nodup_cons]at hn
  rw[ka hn.2 h1 h2]
theorem qI {h:List Ob}(hp:Hp F own w h){s:SV}{u:Value}{F1:Nat→Prop}(hF1:(∀ b,F1 b↔bS F own b)∨((∀ b,F1 b↔F b)∧dV 3 s=true))(hb:Below w.heap.size w w')(hh:Handed F1 w own' w' s u):
  ∃ own2,Hp F own2 w' (h++aB 3 s)∧Fr { w:=w,own:=own} own2 w'∧Rel F own2 w' (ej 3 h.length s) u∧∀ id,id<h.length→own2 id=own id:=by
 have hFF:∀ b,F b→F1 b:=fun b hf=>by
  rcases hF1 with h1| ⟨h1,_⟩
  ·exact(h1 b).2 (.inl hf)
  ·exact(h1 b).2 hf
 let own2:Own:=fun id=>if id<h.length then own id else own' (id - h.length)
 have o1:∀ id hd,own2 id=some hd→(id<h.length∧own id=some hd)∨(h.length≤id∧own' (id - h.length)=some hd):=fun id hd e=>by
  simp only[own2]at e
  split at e
  ·rename_i hlt;exact .inl ⟨hlt,e⟩
  ·rename_i hlt;exact .inr ⟨by omega,e⟩
 have o2:∀ id hd,own id=some hd→own2 id=some hd:=fun id hd e=>by
  simp only[own2];rw[if_pos (hp.dom id hd e)];exact e
 have o3:∀ id hd,own' id=some hd→own2 (id+h.length)=some hd:=fun id hd e=>by
  simp only[own2];rw[if_neg (by omega),Nat.add_sub_cancel];exact e
 have fr:Fr { w:=w,own:=own} own2 w':=Fr.of_step (fun id hd e=>⟨hd,o2 id hd e,.refl _⟩) (fun id hd b e hbb=>by
   rcases o1 id hd e with⟨_,e⟩ | ⟨_,e⟩
   ·exact .inl ⟨id,hd,e,hbb⟩
   ·exact .inr (hh.fresh _ hd b e hbb)) (fun b hbl _=>hb.block b hbl) hb.size hb.os hb.tape hb.output
 have g:Goes F own w own2 w':=fr.goes
 have hkeep:(∀ b,¬bS F1 own' b→¬bS F own2 b)∨dV 3 s=true:=by
  rcases hF1 with h1| ⟨_,h2⟩
  ·left
   rintro b hn (hf| ⟨id,hd,e,hbb⟩)
   ·exact hn (.inl (hFF b hf))
   ·rcases o1 id hd e with⟨_,e⟩ | ⟨_,e⟩
    ·exact hn (.inl ((h1 b).2 (.inr ⟨id,hd,e,hbb⟩)))
    ·exact hn (.inr ⟨_,hd,e,hbb⟩)
  ·exact .inr h2
 refine⟨own2,⟨fun id hd e=>?_,fun b hf=>Nat.lt_of_lt_of_le (hp.foreign b hf) hb.size,fun id hd b e hbb=>?_,fun i j hi hj b e1 e2 hb1 hb2=>?_,fun id hd b e hbb=>?_,fun id hdd=>?_⟩,fr,?_,fun id hlt=>by simp only[own2];rw[if_pos hlt]⟩
 ·rcases o1 id hd e with⟨hlt,_⟩ | ⟨hge,e⟩
  ·rw[List.length_append];omega
  ·have:=hh.hp.dom _ hd e;rw[List.length_append];omega
 ·rcases o1 id hd e with⟨_,e⟩ | ⟨_,e⟩
  ·exact hp.apart id hd b e hbb
  ·exact fun hf=>hh.hp.apart _ hd b e hbb (hFF b hf)
 ·rcases o1 i hi e1 with⟨l1,e1⟩ | ⟨l1,e1⟩ <;>rcases o1 j hj e2 with⟨l2,e2⟩ | ⟨l2,e2⟩
  ·exact hp.inj i j hi hj b e1 e2 hb1 hb2
  ·have:=hp.lt i hi b e1 hb1;have:=hh.fresh _ hj b e2 hb2;omega
  ·have:=hp.lt j hj b e2 hb2;have:=hh.fresh _ hi b e1 hb1;omega
  ·have:=hh.hp.inj _ _ hi hj b e1 e2 hb1 hb2;omega
 ·rcases o1 id hd e with⟨_,e⟩ | ⟨_,e⟩
  ·exact Nat.lt_of_lt_of_le (hp.lt id hd b e hbb) hb.size
  ·exact hh.hp.lt _ hd b e hbb
 ·rw[jt]at hdd ⊢
  by_cases hlt:id<h.length
  ·rw[if_pos hlt]at hdd ⊢
   obtain⟨hd,e1,e2⟩:=hp.obs id hdd
   exact⟨hd,o2 id hd e1,e2.carry g.carries hb.size fun b hbb=>hb.block b (hp.lt id hd b e1 hbb)⟩
  ·rw[if_neg hlt]at hdd ⊢
   obtain⟨hd,e1,e2⟩:=hh.hp.obs _ hdd
   obtain⟨q1,q2⟩:=oK 3 s _ (xF hdd)
   have e3:=o3 _ hd e1
   rw[Nat.sub_add_cancel (by omega)]at e3
   exact⟨hd,e3,e2.over q1 (hkeep.imp (fun h=>h) q2)⟩
 ·have:=sX (F':=F) (own2:=own2) (m:=h.length) o3 3 0 s u hh.val (hkeep.imp (fun hk c hc=>hk c fun ho=>hc (.inl ho)) id)
  rwa[Nat.zero_add]at this
theorem v6 {G:Cons}(hG:ConsOk P G){h:List Ob}(hp:Hp F own w h){f:FuncId}{args:List SV}{vs:Array Value}(hr:RelL F own w args vs){c:Con}(hc:G.p f (args.map (du h 6))=some c)(hpre:bp c)
  (hres:args.all (bU 3)=true∨∀ s,cO c s→dV 3 s=true):
  (callFunc f vs).run P w=.ok (.enter f vs) w∧Calls P f vs w (fun e w'=>(∃ s u own2,cO c s∧e=.returned u∧Hp F own2 w' (h++aB 3 s)∧Fr { w:=w,own:=own} own2 w'∧Rel F own2 w' (ej 3 h.length s) u∧Below w.heap.size w w'∧∀ id,id<h.length→own2 id=own id)∨(∃ x,ia c x∧e=.panicked [{ v:=x,recovered:=false}]∧Below w.heap.size w w')):=by
 refine⟨(hG.p f).enter _ c hc vs w,?_⟩
 rcases hres with hnp|hsc
 ·have hpf:∀ (j:Nat) (s:SV),args[j]? =some s→PF s:=fun j s hj=>by
   rw[List.all_eq_true]at hnp
   exact eb 3 s (hnp s (List.mem_of_getElem? hj))
  refine((hG.p f).calls _ c hc hpre (bS F own) w vs (fun b hb=>?_) ⟨by simpa using hr.1,fun j s hj=>?_⟩).mono ?_
  ·rcases hb with hf| ⟨id,hd,e,hbb⟩
   ·exact hp.foreign b hf
   ·exact hp.lt id hd b e hbb
  ·obtain⟨x,hx,rfl⟩:=cb hj
   exact Df 6 x _ (hpf j x hx) (hr.2 j x hx)
  ·rintro e w' (⟨s,u,own',h1,h2,h3,h4⟩ |hp')
   ·obtain⟨own2,q1,q2,q3,q4⟩:=qI hp (.inl fun b=>Iff.rfl) h4 h3
    exact .inl ⟨s,u,own2,h1,h2,q1,q2,q3,h4,q4⟩
   ·exact .inr hp'
 ·refine((hG.p f).calls _ c hc hpre F w vs hp.foreign ⟨by simpa using hr.1,fun j s hj=>?_⟩).mono ?_
  ·obtain⟨x,hx,rfl⟩:=cb hj
   exact nK hp 6 x _ (hr.2 j x hx)
  ·rintro e w' (⟨s,u,own',h1,h2,h3,h4⟩ |hp')
   ·obtain⟨own2,q1,q2,q3,q4⟩:=qI hp (.inr ⟨fun b=>Iff.rfl,hsc s h1⟩) h4 h3
    exact .inl ⟨s,u,own2,h1,h2,q1,q2,q3,h4,q4⟩
   ·exact .inr hp'
theorem i6:∀ (ids:List Nat) (id k:Nat),nY id ids=some k→ids[k]? =some id
 | [],id,k,h=>by simp[nY]at h
 |a::r,id,k,h=>by
  simp only[nY]at h
  cases hb:Nat.beq a id with
  |true=>rw[hb]at h;simp at h;subst h;rw[Nat.eq_of_beq_eq_true hb];rfl
  |false=>
   rw[hb]at h
   simp only[cond_false]at h
   cases hp:nY id r with
   |none=>rw[hp]at h;cases h
   |some j=>rw[hp]at h;simp at h;subst h;simpa using i6 r id j hp
theorem nc (n:Nat):∀ l:List Nat,rP n l=true↔n∈l
 | [] =>by simp[rP]
 |m::r=>by
  simp only[rP]
  cases hb:Nat.beq m n with
  |true=>have:=Nat.eq_of_beq_eq_true hb;simp[this]
  |false=>
   have:m≠n:=fun e=>by rw[e]at hb;simp at hb
   simp only[cond_false,nc n r,List.mem_cons]
   constructor
   ·exact .inr
   ·rintro (e|e)
    ·exact absurd e.symm this
    ·exact e
theorem jy (h:List Ob):∀ (n:Nat) (todo acc:List Nat),acc.Nodup→(reach h n todo acc).Nodup
 |0,_,acc,hn=>hn
 |n+1,[],acc,hn=>hn
 |n+1,id::todo,acc,hn=>by
  simp only[reach]
  cases hm:rP id acc with
  |true=>exact jy h n _ _ hn
  |false=>
   refine jy h n _ _ ?_
   rw[List.nodup_append]
   refine⟨hn,by simp,fun a ha b hb=>?_⟩
   simp at hb;subst hb
   rintro rfl
   have:=(nc a acc).2 ha
   rw[this]at hm;cases hm
structure Rn (m:Nat→Option Nat)(own own':Own):Prop where
 ids:∀ i j hd,m i=some j→own i=some hd→∃ hd',own' j=some hd'∧hd.like hd'
theorem rZ {m:Nat→Option Nat}(hm:Rn m own own')(ho:∀ b,¬bS F own b→¬bS F' own' b):∀ (n:Nat) (s:SV) (v:Value),Rel F own w s v→Rel F' own' w (ren m n s) v:=by
 have base:∀ (n:Nat) (s:SV) (v:Value),Rel F own w s v→(∀ l o,s≠ .ep l o)→(∀ l,s≠ .ls l)→(∀ l,s≠ .agg l)→(∀ l,s≠ .tup l)→(∀ f l m,s≠ .fn f l m)→Rel F' own' w (ren m n s) v:=by
  intro n s v hr n1 n2 n3 n4 n5
  have hid:∀ {id:Nat} {hd:Hd} {f:Nat→SV} {v:Value},own id=some hd→(∀ j hd',own' j=some hd'→hd.like hd'→Rel F' own' w (f j) v)→Rel F' own' w (o9 f (m id)) v:=by
   intro id hd f v h1 h2
   cases hm':m id with
   |none=>exact .any _
   |some j=>
    obtain⟨hd',e1,e2⟩:=hm.ids id j hd hm' h1
    exact h2 j hd' e1 e2
  cases hr with
  |any=>cases n <;>exact .any _
  |v x=>cases n <;>exact .v _
  |ptr h1 h2=>cases n <;>exact hid h1 fun j hd' e1 e2=>.ptr e1 (e2.1.trans h2)
  |os h1 h2=>cases n <;>exact hid h1 fun j hd' e1 e2=>by rw[←e2.2.1]at h2 ⊢;exact .os e1 h2
  |e0=>cases n <;>exact .e0
  |rp h1 h2 h3=>cases n <;>exact hid h1 fun j hd' e1 e2=>.rp e1 (e2.2.1.trans h2) h3
  |gr h1 h2 h3=>cases n <;>exact hid h1 fun j hd' e1 e2=>.gr e1 (by rw[e2.2.2];exact h2) h3
  |vw h1 h2 h3=>cases n <;>exact hid h1 fun j hd' e1 e2=>.vw e1 (by rw[e2.2.1];exact h2) h3
  |gp h1 h2 h3=>cases n <;>exact hid h1 fun j hd' e1 e2=>.gp e1 (by rw[e2.2.2];exact h2) h3
  |ep=>exact absurd rfl (n1 _ _)
  |rs c h0 h0' h1 h2=>cases n <;>exact Rel.over (.rs c h0 h0' h1 h2) .rs ho
  |rs0=>cases n <;>exact .rs0
  |ls=>exact absurd rfl (n2 _)
  |rm ck cv es clock h0 h1 h2 h3 h4 h5=>cases n <;>exact Rel.over (.rm ck cv es clock h0 h1 h2 h3 h4 h5) .rm ho
  |rm0=>cases n <;>exact .rm0
  |agg=>exact absurd rfl (n3 _)
  |tup=>exact absurd rfl (n4 _)
  |fn=>exact absurd rfl (n5 _ _ _)
 intro n
 induction n with
 |zero=>
  intro s v hr
  cases s <;>first|exact .any _|(refine base 0 _ _ hr ?_ ?_ ?_ ?_ ?_ <;>intros <;>(intro e;cases e)) |cases hr
 |succ n ih=>
  intro s v hr
  cases s with
  |ep l o=>
   cases hr with
   |ep c h1 h2=>
    simp only[ren]
    exact .ep c (fun j s hj=>by obtain⟨x,hx,rfl⟩:=cb hj;exact⟨ho _ (h1 j x hx).1,(h1 j x hx).2⟩) (fun j s hj=>by obtain⟨x,hx,rfl⟩:=cb hj;exact ih x _ (h2 j x hx))
  |ls l=>
   cases hr with
   |ls c h0 h1 h2=>
    simp only[ren]
    have:=Rel.ls (F:=F') (own:=own') (w:=w) (l:=l.map (ren m n)) c (by simpa using h0) (fun j s hj=>by obtain⟨x,hx,rfl⟩:=cb hj;exact⟨ho _ (h1 j x hx).1,(h1 j x hx).2⟩) (fun j s hj=>by obtain⟨x,hx,rfl⟩:=cb hj;exact ih x _ (h2 j x hx))
    simpa using this
  |agg l=>cases hr with|agg h0 h1=>simp only[ren];exact .agg (by simpa using h0) fun j s hj=>by obtain⟨x,hx,rfl⟩:=cb hj;exact ih x _ (h1 j x hx)
  |tup l=>cases hr with|tup h0 h1=>simp only[ren];exact .tup (by simpa using h0) fun j s hj=>by obtain⟨x,hx,rfl⟩:=cb hj;exact ih x _ (h1 j x hx)
  |fn f l l2=>cases hr with|fn h0 h0' h1 h2=>simp only[ren];exact .fn (by simpa using h0) (by simpa using h0') (fun j s hj=>by obtain⟨x,hx,rfl⟩:=cb hj;exact ih x _ (h1 j x hx)) fun j s hj=>by obtain⟨x,hx,rfl⟩:=cb hj;exact ih x _ (h2 j x hx)
  |_=>first|(refine base (n+1) _ _ hr ?_ ?_ ?_ ?_ ?_ <;>intros <;>(intro e;cases e)) |cases hr
theorem sZ {m:Nat→Option Nat}(hm:Rn m own own')(ho:∀ b,¬bS F own b→¬bS F' own' b)(ho2:∀ b,b<w.heap.size→bS F' own' b→bS F own b){hd:Hd}{o:Ob}(h:ObRel F own w hd o):ObRel F' own' w hd (mb m o):=by
 cases o with
 |cells l=>obtain⟨b,cs,ty,h1,h2,h3,h4,h5⟩:=h;exact⟨b,cs,ty,h1,h2,h3,by simpa using h4,fun j s hj=>by obtain⟨x,hx,rfl⟩:=cb hj;exact rZ hm ho 3 x _ (h5 j x hx)⟩
 |dead=>trivial
 |row k l=>exact RowRel.over h (.inl ho)
 |mp kk vk l pend=>
  obtain⟨b,es,clk,h1,h2,h3,h4,h5,h6⟩:=h
  have h4':MpAt F' own' w kk vk (cC kk vk l pend) es:=⟨h4.1,fun i x hi=>by
   obtain⟨e,e1,e2,e3,e4⟩:=h4.2 i x hi
   exact⟨e,e1,e2,e3.over (lg _ _) ho,e4.over (lg _ _) ho⟩⟩
  match pend,h4',h6 with
  |none,h4',_=>exact⟨b,es,clk,h1,h2,h3,h4',h5,trivial⟩
  |some (i,none),h4',h6=>
   show ObRel F' own' w hd (yR kk vk l none (m i))
   cases hmi:m i with
   |none=>exact⟨b,es,clk,h1,h2,h3,h4',h5,trivial⟩
   |some k=>
    obtain⟨hd2,t1,t2⟩:=h6
    obtain⟨hd3,e1,e2⟩:=hm.ids i k hd2 hmi t1
    exact⟨b,es,clk,h1,h2,h3,h4',h5,hd3,e1,e2.2.2.trans t2⟩
  |some (i,some x),h4',h6=>
   show ObRel F' own' w hd (yR kk vk l (some x) (m i))
   cases hmi:m i with
   |none=>exact fun j hj=>by cases hj
   |some k=>
    obtain⟨hd2,e,t1,t2,t3⟩:=h6
    obtain⟨hd3,e1,e2⟩:=hm.ids i k hd2 hmi t1
    exact⟨b,es,clk,h1,h2,h3,h4',h5,hd3,e,e1,t2,e2.2.1.trans t3⟩
 |grid k l=>
  rcases h with h| ⟨b,o,cap,cs,ty,bs,h1,h2,h3,h4,h5,h6,h7,h8,h9⟩
  ·exact .inl h
  ·exact .inr ⟨b,o,cap,cs,ty,bs,h1,h2,h3,h4,h5,h6,h7,h8,h9.over (.inl ho)⟩
 |ab r=>
  refine⟨h.1,r.loc _ _ _ w w h.2 (Nat.le_refl _) (fun b hbl hn=>rfl) (fun b hbl hn=>⟨ho2 b hbl hn.1,hn.2⟩)⟩
 |raw o=>exact h
 |mi mid n left cur=>
  obtain⟨b,h1,h2,h3⟩:=h
  refine⟨b,h1,h2,fun j hj=>?_⟩
  cases mid with
  |none=>cases hj
  |some i=>
   obtain⟨hdm,bm,seen,c0,ss,k1,k2,k3,k4⟩:=h3 i rfl
   obtain⟨hd',e1,e2⟩:=hm.ids i j hdm hj k1
   exact⟨hd',bm,seen,c0,ss,e1,e2.2.1.trans k2,k3,k4⟩
 |fwd n=>
  cases n with
  |none=>intro j hj;cases hj
  |some i=>
   intro j hj
   obtain⟨hd2,k1,k2,k3⟩:=h i rfl
   obtain⟨hd',e1,e2⟩:=hm.ids i j hd2 hj k1
   exact⟨hd',e1,e2.2.1.trans k2,k3⟩
theorem ml (m:Nat→Option Nat)(o:Ob):b9 (mb m o)=b9 o:=by
 cases o with
 |mp kk vk l p=>
  match p with
  |none=>rfl
  |some (i,q) =>
   show b9 (yR kk vk l q (m i))=false
   cases q <;>cases m i <;>rfl
 |_=>rfl
theorem FJ {h:List Ob}(hp:Hp F own w h)(ids:List Nat)(hn:ids.Nodup):
  ∃ (Fm:Nat→Prop) (om:Own),Hp Fm om w (jW h ids)∧(∀ b,bS Fm om b↔bS F own b)∧Rn (inN ids) own om∧(∀ b,Fm b↔(F b∨∃ id hd,id ∉ ids∧own id=some hd∧b∈hd.bs))∧(∀ k id,ids[k]? =some id→om k=own id)∧(∀ k,ids.length≤k→om k=none):=by
 let om:Own:=fun k=>match ids[k]? with|some id=>own id|none=>none
 let Fm:Nat→Prop:=fun b=>F b∨∃ id hd,id ∉ ids∧own id=some hd∧b∈hd.bs
 have o1:∀ k id,ids[k]? =some id→om k=own id:=fun k id e=>by simp only[om,e]
 have o2:∀ k,ids.length≤k→om k=none:=fun k e=>by simp only[om,List.getElem?_eq_none e]
 have o3:∀ k hd,om k=some hd→∃ id,ids[k]? =some id∧own id=some hd:=fun k hd e=>by
  simp only[om]at e
  split at e
  ·rename_i id hid;exact⟨id,hid,e⟩
  ·cases e
 have inj:∀ i j id,ids[i]? =some id→ids[j]? =some id→i=j:=fun i j id e1 e2=>ka hn e1 e2
 have hB:∀ b,bS Fm om b↔bS F own b:=fun b=>by
  constructor
  ·rintro ((hf| ⟨id,hd,_,e,hbb⟩) | ⟨k,hd,e,hbb⟩)
   ·exact .inl hf
   ·exact .inr ⟨id,hd,e,hbb⟩
   ·obtain⟨id,_,e2⟩:=o3 k hd e;exact .inr ⟨id,hd,e2,hbb⟩
  ·rintro (hf| ⟨id,hd,e,hbb⟩)
   ·exact .inl (.inl hf)
   ·by_cases hm:id∈ids
    ·obtain⟨k,hk⟩:=List.getElem?_of_mem hm
     exact .inr ⟨k,hd,by rw[o1 k id hk];exact e,hbb⟩
    ·exact .inl (.inr ⟨id,hd,hm,e,hbb⟩)
 have rn:Rn (inN ids) own om:=⟨fun i j hd hm e=>⟨hd,by rw[o1 j i (i6 ids i j hm)];exact e,.refl _⟩⟩
 refine⟨Fm,om,⟨fun k hd e=>?_,fun b hf=>?_,fun k hd b e hbb=>?_,fun i j hi hj b e1 e2 hb1 hb2=>?_,fun k hd b e hbb=>?_,fun k hdd=>?_⟩,hB,rn,fun b=>Iff.rfl,o1,o2⟩
 ·obtain⟨id,e1,_⟩:=o3 k hd e
  simp only[jW,List.length_map]
  exact(List.getElem?_eq_some_iff.1 e1).1
 ·rcases hf with hf| ⟨id,hd,_,e,hbb⟩
  ·exact hp.foreign b hf
  ·exact hp.lt id hd b e hbb
 ·obtain⟨id,e1,e2⟩:=o3 k hd e
  rintro (hf| ⟨id',hd',hn',e',hbb'⟩)
  ·exact hp.apart id hd b e2 hbb hf
  ·exact hn' (hp.inj id' id hd' hd b e' e2 hbb' hbb▸List.mem_of_getElem? e1)
 ·obtain⟨id1,q1,q2⟩:=o3 i hi e1
  obtain⟨id2,q3,q4⟩:=o3 j hj e2
  have:=hp.inj id1 id2 hi hj b q2 q4 hb1 hb2
  subst this
  exact inj i j id1 q1 q3
 ·obtain⟨id,e1,e2⟩:=o3 k hd e
  exact hp.lt id hd b e2 hbb
 ·have hk:∃ id,ids[k]? =some id∧ag (jW h ids) k=mb (inN ids) (ag h id):=by
   rw[jg]at hdd ⊢
   simp only[jW,List.getElem?_map]at hdd ⊢
   cases hid:ids[k]? with
   |none=>rw[hid]at hdd;simp[b9]at hdd
   |some id=>exact⟨id,rfl,rfl⟩
  obtain⟨id,hid,ho⟩:=hk
  rw[ho]at hdd ⊢
  rw[ml]at hdd
  obtain⟨hd,e1,e2⟩:=hp.obs id hdd
  exact⟨hd,by rw[o1 k id hid];exact e1,sZ rn (fun b hb hb2=>hb ((hB b).1 hb2)) (fun b _ hb2=>(hB b).1 hb2) e2⟩
theorem jz {ids:List Nat}{b k:Nat}(hk:k<ids.length):ids[k]? =some (fq ids b k):=by
 unfold fq;rw[dI,List.getElem?_eq_getElem hk]
theorem kw {ids:List Nat}{b k:Nat}(hk:ids.length≤k):fq ids b k=b+(k - ids.length):=by
 unfold fq;rw[dI,List.getElem?_eq_none hk]
theorem Dh (ids:List Nat)(b k:Nat):jV ids b k=some (fq ids b k):=by
 unfold jV fq;rw[dI];cases ids[k]? <;>rfl
theorem BR {ids:List Nat}(hn:ids.Nodup){b:Nat}(hb:∀ id∈ids,id<b){i j:Nat}(h:fq ids b i=fq ids b j):i=j:=by
 rcases Nat.lt_or_ge i ids.length with hi|hi <;>rcases Nat.lt_or_ge j ids.length with hj|hj
 ·have e1:=jz (b:=b) hi;have e2:=jz (b:=b) hj
  rw[h]at e1
  exact ka hn e1 e2
 ·have e1:=hb _ (List.mem_of_getElem? (jz (b:=b) hi));rw[h,kw hj]at e1;omega
 ·have e1:=hb _ (List.mem_of_getElem? (jz (b:=b) hj));rw[←h,kw hi]at e1;omega
 ·rw[kw hi,kw hj]at h;omega
theorem s3 {ids:List Nat}(hn:ids.Nodup){b:Nat}(hb:∀ id∈ids,id<b):∀ (os:List Ob) (h:List Ob) (k:Nat),b≤h.length→(ids.length≤k→h.length=b+(k - ids.length))→(k<ids.length→h.length=b)→
  (∀ i,k≤i→i<k+os.length→ag (gA ids b h k os) (fq ids b i)=mb (jV ids b) (ag os (i - k)))∧
  (∀ id,(∀ i,k≤i→i<k+os.length→fq ids b i≠id)→ag (gA ids b h k os) id=ag h id)∧h.length≤(gA ids b h k os).length∧(∀ i,k≤i→i<k+os.length→fq ids b i< (gA ids b h k os).length)
 | [],h,k,_,_,_=>⟨fun i h1 h2=>by simp at h2;omega,fun id _=>rfl,Nat.le_refl _,fun i h1 h2=>by simp at h2;omega⟩
 |o::r,h,k,hlen,hge,hlt=>by
  simp only[gA]
  have hstep:(bu h (fq ids b k) (mb (jV ids b) o)).length=(if k<ids.length then h.length else h.length+1)∧fq ids b k< (bu h (fq ids b k) (mb (jV ids b) o)).length:=by
   rcases Nat.lt_or_ge k ids.length with hk|hk
   ·have:=hb _ (List.mem_of_getElem? (jz (b:=b) hk))
    rw[bN,if_pos (by omega),if_pos hk];omega
   ·rw[bN,kw hk,if_neg (by have:=hge hk;omega),if_neg (by omega)];have:=hge hk;omega
  have hlen':b≤(bu h (fq ids b k) (mb (jV ids b) o)).length:=by rw[hstep.1];split <;>omega
  obtain⟨q1,q2,q3,q4⟩:=s3 hn hb r (bu h (fq ids b k) (mb (jV ids b) o)) (k+1) hlen' (fun hk=>by
    rw[hstep.1]
    split
    ·rename_i hk';rw[hlt hk'];omega
    ·rename_i hk';rw[hge (by omega)];omega) (fun hk=>by rw[hstep.1,if_pos (by omega)];exact hlt (by omega))
  have hne:∀ i,k+1≤i→fq ids b i≠fq ids b k:=fun i hi e=>by have:=BR hn hb e;omega
  refine⟨fun i h1 h2=>?_,fun id hid=>?_,Nat.le_trans (by rw[hstep.1];split <;>omega) q3,fun i h1 h2=>?_⟩
  ·by_cases hik:i=k
   ·subst hik
    rw[q2 _ (fun j hj _=>hne j hj),ci,if_pos rfl,Nat.sub_self];rfl
   ·rw[q1 i (by omega) (by simp at h2;omega),show i - k=(i - (k+1))+1 by omega];rfl
  ·rw[q2 id (fun i h1 h2=>hid i (by omega) (by simp;omega)),ci,if_neg (hid k (Nat.le_refl _) (by simp))]
  ·by_cases hik:i=k
   ·subst hik;exact Nat.lt_of_lt_of_le hstep.2 q3
   ·exact q4 i (by omega) (by simp at h2;omega)
theorem uO {h:List Ob}(hp:Hp F own w h){ids:List Nat}(hn:ids.Nodup)(hids:∀ id∈ids,id<h.length){Fm:Nat→Prop}{om om':Own}(hpm:Hp Fm om w (jW h ids))(hB:∀ b,bS Fm om b↔bS F own b)(hFm:∀ b,Fm b↔(F b∨∃ id hd,id ∉ ids∧own id=some hd∧b∈hd.bs))(ho1:∀ k id,ids[k]? =some id→om k=own id)
  {h':List Ob} (hp':Hp Fm om' w' h') (fr:Fr { w:=w,own:=om} om' w') (hlen:ids.length≤h'.length):
  ∃ own2,Hp F own2 w' (gA ids h.length h 0 h')∧Fr { w:=w,own:=own} own2 w'∧∀ s v,Rel Fm om' w' s v→Rel F own2 w' (ren (jV ids h.length) 3 s) v:=by
 let L:=h.length
 let own2:Own:=fun id=>match nY id ids with|some k=>om' k|none=>if L≤id then om' (ids.length+(id - L))else own id
 have posN_of:∀ k id,ids[k]? =some id→nY id ids=some k:=by
  intro k id e
  cases hpn:nY id ids with
  |none=>
   exfalso
   have:∀ (l:List Nat),id∈l→nY id l≠none:=by
    intro l
    induction l with
    |nil=>intro h;cases h
    |cons a r ih=>
     intro hm
     simp only[nY]
     cases hb:Nat.beq a id with
     |true=>simp
     |false=>
      simp only[cond_false]
      have:id∈r:=by
       rcases List.mem_cons.1 hm with e|e
       ·rw[e]at hb;simp at hb
       ·exact e
      cases hr:nY id r with
      |none=>exact absurd hr (ih this)
      |some j=>simp
   exact this ids (List.mem_of_getElem? e) hpn
  |some j=>
   have e2:=i6 ids id j hpn
   rw[ka hn e e2]
 have b1:∀ k,own2 (fq ids L k)=om' k:=by
  intro k
  rcases Nat.lt_or_ge k ids.length with hk|hk
  ·have:=posN_of k _ (jz (b:=L) hk)
   simp only[own2,this]
  ·have hge:=kw (b:=L) hk
   have hnone:nY (fq ids L k) ids=none:=by
    cases hpn:nY (fq ids L k) ids with
    |none=>rfl
    |some j=>
     have:=hids _ (List.mem_of_getElem? (i6 ids _ j hpn))
     rw[hge]at this
     simp only[L]at this;omega
   simp only[own2,hnone]
   rw[hge,if_pos (by omega)]
   congr 1;omega
 have b2:∀ id hd,own2 id=some hd→(∃ k,id=fq ids L k∧om' k=some hd)∨(id ∉ ids∧id<L∧own id=some hd):=by
  intro id hd e
  simp only[own2]at e
  split at e
  ·rename_i k hk
   refine .inl ⟨k,?_,e⟩
   have h1:=i6 ids id k hk
   have h2:=jz (b:=L) (List.getElem?_eq_some_iff.1 h1).1
   rw[h1]at h2;simpa using h2
  ·rename_i hk
   split at e
   ·rename_i hge
    refine .inl ⟨ids.length+(id - L),?_,e⟩
    rw[kw (by omega)];omega
   ·rename_i hge
    refine .inr ⟨fun hm=>?_,by omega,e⟩
    obtain⟨k,hk'⟩:=List.getElem?_of_mem hm
    rw[posN_of k id hk']at hk;cases hk
 have b3:∀ id hd,id ∉ ids→own id=some hd→own2 id=some hd:=by
  intro id hd hm e
  have hlt:=hp.dom id hd e
  simp only[own2]
  split
  ·rename_i k hk
   exact absurd (List.mem_of_getElem? (i6 ids id k hk)) hm
  ·rw[if_neg (by simp only[L];omega)];exact e
 have hold:∀ b,b<w.heap.size→(¬ ∃ k hd,om k=some hd∧b∈hd.bs)→w'.heap[b]? =w.heap[b]?:=fun b hb hn=>fr.block b ⟨hb,hn⟩
 have omB:∀ k hd b,om k=some hd→b∈hd.bs→∃ id hd',own id=some hd'∧b∈hd'.bs:=fun k hd b e hbb=>by
  rcases(hB b).1 (.inr ⟨k,hd,e,hbb⟩)with hf|ho
  ·exact absurd ((hFm b).2 (.inl hf)) (hpm.apart k hd b e hbb)
  ·exact ho
 have fr2:Fr { w:=w,own:=own} own2 w':=by
  refine Fr.of_step (fun id hd e=>?_) (fun id hd b e hbb=>?_) (fun b hb hno=>hold b hb fun⟨k,hd,e,hbb⟩ =>hno (omB k hd b e hbb)) fr.size fr.os fr.tape fr.output
  ·by_cases hm:id∈ids
   ·obtain⟨k,hk⟩:=List.getElem?_of_mem hm
    obtain⟨hd',e1,e2⟩:=fr.ids k hd (by show om k=some hd;rw[ho1 k id hk];exact e)
    refine⟨hd',?_,e2⟩
    simp only[own2,posN_of k id hk];exact e1
   ·exact⟨hd,b3 id hd hm e,.refl _⟩
  ·rcases b2 id hd e with⟨k,hk,e⟩ | ⟨_,_,e⟩
   ·rcases Nat.lt_or_ge b w.heap.size with hlt|hge
    ·left
     have hno:=fr.base k hd b e hbb
     have:∃ k2 hd2,om k2=some hd2∧b∈hd2.bs:=Classical.byContradiction fun hc=>hno ⟨hlt,hc⟩
     obtain⟨k2,hd2,e2,hb2⟩:=this
     exact omB k2 hd2 b e2 hb2
    ·exact .inr hge
   ·exact .inl ⟨id,hd,e,hbb⟩
 have rn:Rn (jV ids L) om' own2:=⟨fun i j hd hm e=>⟨hd,by
  rw[Dh]at hm
  simp only[Option.some.injEq]at hm
  rw[←hm,b1];exact e,.refl _⟩⟩
 have k1:∀ b,¬bS Fm om' b→¬bS F own2 b:=by
  rintro b hno (hf| ⟨id,hd,e,hbb⟩)
  ·exact hno (.inl ((hFm b).2 (.inl hf)))
  ·rcases b2 id hd e with⟨k,_,e⟩ | ⟨hm,_,e⟩
   ·exact hno (.inr ⟨k,hd,e,hbb⟩)
   ·exact hno (.inl ((hFm b).2 (.inr ⟨id,hd,hm,e,hbb⟩)))
 have k2:∀ b,bS F own2 b→bS Fm om' b:=by
  rintro b (hf| ⟨id,hd,e,hbb⟩)
  ·exact .inl ((hFm b).2 (.inl hf))
  ·rcases b2 id hd e with⟨k,_,e⟩ | ⟨hm,_,e⟩
   ·exact .inr ⟨k,hd,e,hbb⟩
   ·exact .inl ((hFm b).2 (.inr ⟨id,hd,hm,e,hbb⟩))
 obtain⟨q1,q2,q3,q4⟩:=s3 hn hids h' h 0 (Nat.le_refl _) (fun hk=>by
   have:ids.length=0:=by omega
   omega) (fun _=>rfl)
 refine⟨own2,⟨fun id hd e=>?_,fun b hf=>Nat.lt_of_lt_of_le (hp.foreign b hf) fr.size,fun id hd b e hbb=>?_,fun i j hi hj b e1 e2 hb1 hb2=>?_,fun id hd b e hbb=>?_,fun id hdd=>?_⟩,fr2,fun s v hr=>rZ rn k1 3 s v hr⟩
 ·rcases b2 id hd e with⟨k,hk,e⟩ | ⟨_,hlt,_⟩
  ·rw[hk]
   exact q4 k (Nat.zero_le _) (by have:=hp'.dom k hd e;omega)
  ·exact Nat.lt_of_lt_of_le hlt q3
 ·rcases b2 id hd e with⟨k,_,e⟩ | ⟨_,_,e⟩
  ·exact fun hf=>hp'.apart k hd b e hbb ((hFm b).2 (.inl hf))
  ·exact hp.apart id hd b e hbb
 ·rcases b2 i hi e1 with⟨ki,hki,e1⟩ | ⟨m1,_,e1⟩ <;>rcases b2 j hj e2 with⟨kj,hkj,e2⟩ | ⟨m2,_,e2⟩
  ·rw[hki,hkj,hp'.inj ki kj hi hj b e1 e2 hb1 hb2]
  ·exact absurd ((hFm b).2 (.inr ⟨j,hj,m2,e2,hb2⟩)) (hp'.apart ki hi b e1 hb1)
  ·exact absurd ((hFm b).2 (.inr ⟨i,hi,m1,e1,hb1⟩)) (hp'.apart kj hj b e2 hb2)
  ·exact hp.inj i j hi hj b e1 e2 hb1 hb2
 ·rcases b2 id hd e with⟨k,_,e⟩ | ⟨_,_,e⟩
  ·exact hp'.lt k hd b e hbb
  ·exact Nat.lt_of_lt_of_le (hp.lt id hd b e hbb) fr.size
 ·by_cases hk:∃ k,k<h'.length∧fq ids L k=id
  ·obtain⟨k,hkl,rfl⟩:=hk
   rw[q1 k (Nat.zero_le _) (by omega),Nat.sub_zero]at hdd ⊢
   rw[ml]at hdd
   obtain⟨hd,e1,e2⟩:=hp'.obs k hdd
   exact⟨hd,by rw[b1];exact e1,sZ rn k1 (fun b _=>k2 b) e2⟩
  ·have hno:∀ i,0≤i→i<0+h'.length→fq ids L i≠id:=fun i _ hi e=>hk ⟨i,by omega,e⟩
   rw[q2 id hno]at hdd ⊢
   obtain⟨hd,e1,e2⟩:=hp.obs id hdd
   have hm:id ∉ ids:=fun hm=>by
    obtain⟨k,hk'⟩:=List.getElem?_of_mem hm
    have hkl:=(List.getElem?_eq_some_iff.1 hk').1
    have:=jz (b:=L) hkl
    rw[hk']at this
    exact hk ⟨k,by omega,by simpa using this.symm⟩
   refine⟨hd,b3 id hd hm e1,e2.carry (fr2.goes (F:=F)).carries fr.size fun b hbb=>hold b (hp.lt id hd b e1 hbb) ?_⟩
   rintro⟨k,hd',e',hb'⟩
   exact hpm.apart k hd' b e' hb' ((hFm b).2 (.inr ⟨id,hd,hm,e1,hbb⟩))
theorem xG {G:Cons}(hG:ConsOk P G){h:List Ob}(hp:Hp F own w h){f:FuncId}{args:List SV}{vs:Array Value}(hr:RelL F own w args vs){ids:List Nat}(hn:ids.Nodup){c:HCon}(hc:G.o f (args.map (ren (inN ids) 6)) (jW h ids)=some c)(hpre:c.pre)(hids:∀ id∈ids,id<h.length):
  (callFunc f vs).run P w=.ok (.enter f vs) w∧Calls P f vs w (fun e w'=>∃ r own2,c.post r∧match c.res r with
   | .ret s h'=>(∃ u,e=.returned u∧Rel F own2 w' (ren (jV ids h.length) 3 s) u)∧Hp F own2 w' (gA ids h.length h 0 h')∧Fr { w:=w,own:=own} own2 w'
   | .pan x h'=>e=.panicked [{ v:=x,recovered:=false}]∧Hp F own2 w' (gA ids h.length h 0 h')∧Fr { w:=w,own:=own} own2 w'):=by
 refine⟨(hG.o f).enter _ _ c hc vs w,?_⟩
 obtain⟨Fm,om,hpm,hB,rn,hFm,o1,o2⟩:=FJ hp ids hn
 refine((hG.o f).calls _ _ c hc hpre Fm om w vs hpm ⟨by simpa using hr.1,fun j s hj=>?_⟩).mono ?_
 ·obtain⟨x,hx,rfl⟩:=cb hj
  exact rZ rn (fun b hb hb2=>hb ((hB b).1 hb2)) 6 x _ (hr.2 j x hx)
 ·rintro e w' ⟨r,own',h1,h2⟩
  have hml:(jW h ids).length=ids.length:=by simp[jW]
  cases hres:c.res r with
  |ret s h'=>
   rw[hres]at h2
   obtain⟨⟨u,q1,q2⟩,q3,q4,q5⟩:=h2
   obtain⟨own2,k1,k2,k3⟩:=uO hp hn hids hpm hB hFm o1 q3 q4 (by rw[←hml];exact q5)
   exact⟨r,own2,h1,by rw[hres];exact⟨⟨u,q1,k3 s u q2⟩,k1,k2⟩⟩
  |pan x h'=>
   rw[hres]at h2
   obtain⟨q1,q3,q4,q5⟩:=h2
   obtain⟨own2,k1,k2,k3⟩:=uO hp hn hids hpm hB hFm o1 q3 q4 (by rw[←hml];exact q5)
   exact⟨r,own2,h1,by rw[hres];exact⟨q1,k1,k2⟩⟩
theorem xH {G:Cons}(hG:ConsOk P G){h:List Ob}(hp:Hp F own w h){id:Nat}{hd:Hd}(hid:own id=some hd){args:List SV}{vs:Array Value}(hr:RelL F own w args vs)(hnp:args.all (bU 3)=true){r:Res}(ho:ag h id=.ab r){c:YCon}(hc:G.y args r=some c)(hpre:c.pre):
  HH P hd.v vs w (fun e w'=>∃ a own2,c.post a∧e=.returned (.bool (c.res a).1)∧Hp F own2 w' (bu h id (.ab (c.res a).2))∧Fr { w:=w,own:=own} own2 w'):=by
 obtain⟨hd',e0,hv,hR⟩:=hp.at ho rfl
 rw[hid]at e0;cases e0
 have hlt:=hp.dom id hd hid
 let F1:Nat→Prop:=fun b=>bS F own b∧b ∉ hd.bs
 have hF1:∀ b,F1 b→b<w.heap.size:=by
  rintro b ⟨hf| ⟨id',hd',e,hbb⟩,_⟩
  ·exact hp.foreign b hf
  ·exact hp.lt id' hd' b e hbb
 have hy:=hG.y args r c hc hpre F1 hd.bs w vs hR hF1 (fun b hb=>⟨hp.lt id hd b hid hb,fun hf=>hf.2 hb⟩) ⟨hr.1,fun j s hj=>by
  rw[List.all_eq_true]at hnp
  refine(hr.2 j s hj).over (eb 3 s (hnp s (List.mem_of_getElem? hj))) fun b hb=>iW ?_
  rintro (hf|hbb)
  ·exact hb hf.1
  ·exact hb (.inr ⟨id,hd,hid,hbb⟩)⟩
 rw[hv]
 have mono:∀ (e:Ending) (w':World),(∃ a bs',c.post a∧e=.returned (.bool (c.res a).1)∧(c.res a).2.R F1 bs' w'∧(c.res a).2.yv=r.yv∧YFr hd.bs bs' w w')→∃ a own2,c.post a∧e=.returned (.bool (c.res a).1)∧Hp F own2 w' (bu h id (.ab (c.res a).2))∧Fr { w:=w,own:=own} own2 w':=by
  rintro e w' ⟨a,bs',h1,h2,h3,h4,h5⟩
  let hd2:Hd:= { hd with bs:=bs'}
  have fr:Fr { w:=w,own:=own} (own.set id hd2) w':=Fr.of_step (fun i hi e=>by
    by_cases hii:i=id
    ·subst hii;rw[hid]at e;cases e;exact⟨hd2,Own.set_same _ _ _,rfl,rfl,rfl⟩
    ·exact⟨hi,by rw[Own.set_other _ _ hii];exact e,.refl _⟩) (fun i hi b e hbb=>by
    by_cases hii:i=id
    ·subst hii;rw[Own.set_same]at e;cases e
     rcases(h5.bs b hbb).2 with hb|hb
     ·exact .inl ⟨_,hd,hid,hb⟩
     ·exact .inr hb
    ·rw[Own.set_other _ _ hii]at e;exact .inl ⟨i,hi,e,hbb⟩) (fun b hb hn=>h5.block b hb fun hm=>hn ⟨id,hd,hid,hm⟩) h5.size h5.os h5.tape h5.output
  refine⟨a,own.set id hd2,h1,h2,hp.upd fr.goes (· =id) (by rw[bN,if_pos hlt];omega) (fun i hi=>⟨Own.set_other _ _ hi,by rw[ci,if_neg (fun e=>hi e.symm)],fun hd' b e hbb=>h5.block b (hp.lt i hd' b e hbb) fun hm=>hi (hp.inj i id hd' hd b e hid hbb hm)⟩) (fun i hd' hi e=>?_) (fun i hi _=>?_),fr⟩
  ·subst hi
   rw[Own.set_same]at e;cases e
   refine⟨by rw[bN,if_pos hlt];exact hlt,fun b hb=>⟨(h5.bs b hb).1,fun hf=>?_,fun j hj hne e hbj=>?_⟩⟩
   ·rcases(h5.bs b hb).2 with hm|hge
    ·exact hp.apart _ hd b hid hm hf
    ·have:=hp.foreign b hf;omega
   ·rw[Own.set_other _ _ hne]at e
    rcases(h5.bs b hb).2 with hm|hge
    ·exact hne (hp.inj j _ hj hd b e hid hbj hm)
    ·have:=hp.lt j hj b e hbj;omega
  ·subst hi
   refine⟨hd2,Own.set_same _ _ _,?_⟩
   rw[ci,if_pos rfl]
   refine⟨hv.trans h4.symm,(c.res a).2.loc _ _ _ w' w' h3 (Nat.le_refl _) (fun _ _ _=>rfl) ?_⟩
   rintro b _ ⟨hf| ⟨j,hj,e,hbj⟩,hnb⟩
   ·exact⟨.inl hf,fun hm=>hp.apart _ hd b hid hm hf⟩
   ·by_cases hji:j=i
    ·subst hji;rw[Own.set_same]at e;cases e;exact absurd hbj hnb
    ·rw[Own.set_other _ _ hji]at e
     exact⟨.inr ⟨j,hj,e,hbj⟩,fun hm=>hji (hp.inj j _ hj hd b e hid hbj hm)⟩
 rcases hy with⟨f,as,q1,q2⟩ | ⟨l,f,tmps,as,bd,q1,q2,q3⟩
 ·exact .inl ⟨f,as,q1,q2.mono mono⟩
 ·exact .inr ⟨l,f,tmps,as,bd,q1,q2,fun cc cs hro=>by
   obtain⟨e,w',hR',rest⟩:=q3 cc cs hro
   exact⟨e,w',mono e w' hR',rest⟩⟩
end
end Go.Sx
end
section
namespace Go.Sx
open Go.RowKit
theorem s4 {α:Type}{l r:List α}{x:α}{n:Nat}(h:l.drop n=x::r):l[n]? =some x∧l.drop (n+1)=r:=by
 have h1:(l.drop n)[0]? =some x:=by rw[h];rfl
 have h2:(l.drop n).drop 1=r:=by rw[h];rfl
 rw[List.getElem?_drop]at h1
 rw[List.drop_drop]at h2
 exact⟨by simpa using h1,h2⟩
theorem gm {ops:List Oper}{a:Act}{o:Oper}:(Region.wanted o (yielded ops.toArray a.tmps)=true)↔GOk ops a o.guard:=by
 unfold Region.wanted GOk
 cases hg:o.guard with
 |none=>simp
 |some g=>simp
theorem mm (n:Nat)(ih:∀ b s,aB n s=[]→ej n b s=s):∀ (l:List SV) (b:Nat),l.flatMap (aB n)=[]→jM (ej n) (fun s=>(aB n s).length) b l=l
 | [],_,_=>rfl
 |x::r,b,h=>by
  simp only[List.flatMap_cons,List.append_eq_nil_iff]at h
  simp only[jM]
  rw[ih b x h.1,mm n ih r _ h.2]
theorem rA:∀ (n b:Nat) (s:SV),aB n s=[]→ej n b s=s:=by
 intro n
 induction n with
 |zero=>intro b s h;cases s <;>simp[aB]at h <;>rfl
 |succ n ih=>
  intro b s h
  cases s with
  |agg l=>simp only[aB]at h;simp only[ej];rw[mm n ih l b h]
  |tup l=>simp only[aB]at h;simp only[ej];rw[mm n ih l b h]
  |_=>first|rfl|simp[aB]at h
section
variable {P:Program}{F:Nat→Prop}{own own':Own}{w w':World}{ts:Tis}
theorem v7:∀ (n:Nat) (s:SV) (v:Value),Rel F own w s v→∀ id∈dv n s,∃ hd,own id=some hd:=by
 intro n
 induction n with
 |zero=>
  intro s v hr id hm
  cases hr with
  |ptr h1 h2=>simp[dv]at hm;subst hm;exact⟨_,h1⟩
  |os h1 h2=>simp[dv]at hm;subst hm;exact⟨_,h1⟩
  |rp h1 h2 h3=>simp[dv]at hm;subst hm;exact⟨_,h1⟩
  |gr h1 h2 h3=>simp[dv]at hm;subst hm;exact⟨_,h1⟩
  |gp h1 h2 h3=>simp[dv]at hm;subst hm;exact⟨_,h1⟩
  |vw h1 h2=>simp[dv]at hm;subst hm;exact⟨_,h1⟩
  |_=>simp[dv]at hm
 |succ n ih=>
  intro s v hr id hm
  have hlist:∀ (l:List SV) (c:Nat→Value),(∀ (j:Nat) (s:SV),l[j]? =some s→Rel F own w s (c j))→id∈l.flatMap (dv n)→∃ hd,own id=some hd:=by
   intro l c hl hm
   obtain⟨x,hx,hi⟩:=List.mem_flatMap.1 hm
   obtain⟨j,hj⟩:=List.getElem?_of_mem hx
   exact ih x _ (hl j x hj) id hi
  cases hr with
  |ptr h1 h2=>simp[dv]at hm;subst hm;exact⟨_,h1⟩
  |os h1 h2=>simp[dv]at hm;subst hm;exact⟨_,h1⟩
  |rp h1 h2 h3=>simp[dv]at hm;subst hm;exact⟨_,h1⟩
  |gr h1 h2 h3=>simp[dv]at hm;subst hm;exact⟨_,h1⟩
  |gp h1 h2 h3=>simp[dv]at hm;subst hm;exact⟨_,h1⟩
  |vw h1 h2=>simp[dv]at hm;subst hm;exact⟨_,h1⟩
  |ep c h1 h2=>exact hlist _ c h2 (by simpa[dv]using hm)
  |ls c h0 h1 h2=>exact hlist _ c h2 (by simpa[dv]using hm)
  |agg h0 h1=>exact hlist _ _ h1 (by simpa[dv]using hm)
  |tup h0 h1=>exact hlist _ _ h1 (by simpa[dv]using hm)
  |fn h0 h0' h1 h2=>
   simp only[dv,List.mem_append]at hm
   rcases hm with hm|hm
   ·exact hlist _ _ h1 hm
   ·exact hlist _ _ h2 hm
  |_=>simp[dv]at hm
theorem nL {h:List Ob}(hp:Hp F own w h):∀ (n:Nat) (todo acc:List Nat),(∀ id∈todo,∃ hd,own id=some hd)→(∀ id∈acc,∃ hd,own id=some hd)→∀ id∈reach h n todo acc,∃ hd,own id=some hd
 |0,_,acc,_,h2=>h2
 |n+1,[],acc,_,h2=>h2
 |n+1,id::todo,acc,h1,h2=>by
  simp only[reach]
  cases hm:rP id acc with
  |true=>exact nL hp n _ _ (fun i hi=>h1 i (by simp[hi])) h2
  |false=>
   refine nL hp n _ _ (fun i hi=>?_) (fun i hi=>?_)
   ·rcases List.mem_append.1 hi with hi|hi
    ·cases ho:ag h id with
     |cells l=>
      rw[ho]at hi
      obtain⟨hd,e1,e2⟩:=hp.at ho rfl
      obtain⟨b,cs,ty,q1,q2,q3,q4,q5⟩:=e2
      obtain⟨x,hx,hxi⟩:=List.mem_flatMap.1 hi
      obtain⟨j,hj⟩:=List.getElem?_of_mem hx
      exact v7 3 x _ (q5 j x hj) i hxi
     |_=>rw[ho]at hi;simp[CW]at hi
    ·exact h1 i (by simp[hi])
   ·rcases List.mem_append.1 hi with hi|hi
    ·exact h2 i hi
    ·simp at hi;subst hi;exact h1 _ (by simp)
theorem s5 {h:List Ob}(hp:Hp F own w h){args:List SV}{vs:Array Value}(hr:RelL F own w args vs):∀ id∈reach h 64 (args.flatMap (dv 3)) [],id<h.length:=fun id hm=>by
 obtain⟨hd,e⟩:=nL hp 64 _ [] (fun i hi=>by
  obtain⟨x,hx,hxi⟩:=List.mem_flatMap.1 hi
  obtain⟨j,hj⟩:=List.getElem?_of_mem hx
  exact v7 3 x _ (hr.2 j x hj) i hxi) (fun i hi=>by cases hi) id hm
 exact hp.dom _ _ e
variable {w0:Bs}{ro:Option Nat}{nd:Nat}{N n:Nat}{ops:List Oper}{st:St}{a:Act}{G:Cons}
theorem s6 (own:Own)(hb:Below w.heap.size w w'):Fr { w:=w,own:=own} own w':=(Fr.refl { w:=w,own:=own}).below hb
theorem nf (n k:Nat):k<n+1↔k<n∨k=n:=by omega
theorem SInv.stepv {E E':Nat→Prop}(hr:ROk N ops)(hE:∀ k,E' k↔E k∨k=n)(hnE:¬E n)(hi:SInv F w0 N ops E own st a w){o:Oper}(ho:ops[n]? =some o)(hgE:∀ j b,o.guard=some (j,b)→E j)(hgo:GOk ops a o.guard){s:SV}{u:Value}(hb:Below w.heap.size w w')(hs:Rel F own w' s u):
  SInv F w0 N ops E' own (st.put o.dst s) (a.put o.dst u) w'∧(∀ g,o.guard=some g→SInv F w0 N ops E' own (st.put o.dst (.gd g.1 g.2 s)) (a.put o.dst u) w'):=by
 have g:Fr { w:=w,own:=own} own w':=s6 own hb
 have hp':=hi.hp.below hb
 refine⟨hi.step hr hE hnE ho g hp' hgE (na hs) (fun _ _=>hgo) (fun j b s' e=>?_),fun gg hgg=>hi.step hr hE hnE ho g hp' hgE ⟨(hE _).2 (.inl (hgE _ _ hgg)),⟨n,o,gg.2,ho,hgg⟩,fun _=>hs⟩ (fun _ _=>hgo) (fun j b s' e=>?_)⟩
 ·subst e;cases hs
 ·cases e;exact hgg
theorem SInv.stepe {E E':Nat→Prop}(hr:ROk N ops)(hE:∀ k,E' k↔E k∨k=n)(hnE:¬E n)(hi:SInv F w0 N ops E own st a w){o:Oper}(ho:ops[n]? =some o)(hgE:∀ j b,o.guard=some (j,b)→E j)(hgo:GOk ops a o.guard){h':List Ob}{s:SV}{u:Value}(hp:Hp F own' w' h')(hfr:Fr { w:=w,own:=own} own' w')(hs:Rel F own' w' s u):
  SInv F w0 N ops E' own' (St.put ⟨st.t,h'⟩ o.dst s) (a.put o.dst u) w'∧(∀ g,o.guard=some g→SInv F w0 N ops E' own' (St.put ⟨st.t,h'⟩ o.dst (.gd g.1 g.2 s)) (a.put o.dst u) w'):=by
 refine⟨hi.step hr hE hnE ho hfr hp hgE (na hs) (fun _ _=>hgo) (fun j b s' e=>?_),fun gg hgg=>hi.step hr hE hnE ho hfr hp hgE ⟨(hE _).2 (.inl (hgE _ _ hgg)),⟨n,o,gg.2,ho,hgg⟩,fun _=>hs⟩ (fun _ _=>hgo) (fun j b s' e=>?_)⟩
 ·subst e;cases hs
 ·cases e;exact hgg
theorem SInv.skip {E E':Nat→Prop}(hr:ROk N ops)(hE:∀ k,E' k↔E k∨k=n)(hnE:¬E n)(hi:SInv F w0 N ops E own st a w){o:Oper}(ho:ops[n]? =some o)(hgE:∀ j b,o.guard=some (j,b)→E j)(hgo:¬GOk ops a o.guard){g:Nat×Bool}(hg:o.guard=some g){s:SV}:
  SInv F w0 N ops E' own (st.put o.dst (.gd g.1 g.2 s)) (a.put o.dst undef) w:=by
 have hrf:iV ops g.1:=⟨n,o,g.2,ho,hg⟩
 refine hi.step hr hE hnE ho (Fr.refl { w:=w,own:=own}) hi.hp hgE ⟨(hE _).2 (.inl (hgE _ _ hg)),hrf,fun hy=>?_⟩ (fun b hb=>by simp[undef]at hb) (fun j b s' e=>by cases e;exact hg)
 exfalso
 apply hgo
 rw[hg]
 obtain⟨q,d,h1,h2,h3⟩:=hr.uniq g.1 hrf
 exact(uJ h1 h2 (h3 n o (fun e=>hnE (e▸hgE _ _ hg)) ho) g.2).1 hy
theorem qJ {cx:Cx}{op:Op}(h:opS cx op≠ .bad):∀ c,op≠ .defer c:=by
 rintro c rfl;exact h rfl
theorem SInv.out {E:Nat→Prop}(hi:SInv F w0 N ops E own st a w):StRel F w0 N own ⟨ungd st.t,st.h⟩ a w:=StRel.ungd hi
theorem StRel.moved {h':List Ob}(hs:StRel F w0 N own st a w)(hp:Hp F own' w' h')(hfr:Fr { w:=w,own:=own} own' w'):StRel F w0 N own' ⟨st.t,h'⟩ a w':=
 ⟨hs.size,hs.defers.fr hfr hs.hp.apart,hp,hs.fr.trans hfr,fun t=>(hs.slots t).mono hfr.goes⟩
theorem uP (own:Own)(w:World):Goes F own w own { w with drawn:=w.drawn+1}:=⟨fun _ hd h=>⟨hd,h,.refl _⟩,fun _ _ h=>⟨h,rfl⟩,Nat.le_refl _⟩
theorem StRel.drew {own:Own}{st:St}{a:Act}{w:World}(h:StRel F w0 N own st a w):StRel F w0 N own st a { w with drawn:=w.drawn+1}:=
 ⟨h.size,h.defers,h.hp.goes (uP own w) fun _ _ _ _ _=>rfl,h.fr.drew,fun t=>(h.slots t).mono (uP own w)⟩
def AF (G:Cons)(ops:List Oper)(d:Option Nat)(st:St)(next:St→Prop)(Z:Value→St→Prop):Option (Nat×Bool)→OR→Prop
 |none,r=>fU G d st next Z r
 |some g,r=>stepG G ops g d st next Z r
theorem di {o:Oper}{K:Act→World→Prop}{Q:Exit→Act→World→Prop}{u:Value}{run:Result Next}(hrun:run=.ok (.value u) w'∨(run=.ok .skip w'∧u=undef))(h:K (a.put o.dst u) w'):
  o.uponIn (rd ro) nd P a K Q run:=by
 rcases hrun with rfl| ⟨rfl,rfl⟩ <;>exact h
theorem v8 {ops:List Oper}{t:List (Nat×SV)}:∀ (n:Nat) (g:Nat×Bool),dz ops t n g→oC ops t n g→False
 |0,_,_,h=>h
 |n+1,(j,want),h1,h2=>by
  simp only[dz]at h1
  simp only[oC]at h2
  split at h1
  ·rename_i d hd
   rw[hd]at h2
   simp only at h2
   split at h1
   ·rename_i x hx
    rw[hx]at h2
    exact h2 h1
   ·rename_i j' b x hx
    rw[hx]at h2
    rcases h2 with h2|h2
    ·exact v8 n (j',b) h1.1 h2
    ·exact h2 h1.2
   ·rename_i hx hx2
    split at h2
    ·rename_i x e;exact hx x e
    ·rename_i j' b x e;exact hx2 j' b x e
    ·exact h2
  ·rename_i hd
   rw[hd]at h2
   exact h2
theorem BS {α:Type}{l:List α}(h:l.Nodup){i j:Nat}{x:α}(hi:l[i]? =some x)(hj:l[j]? =some x):i=j:=by
 obtain⟨a,ha⟩:=List.getElem?_eq_some_iff.1 hi
 obtain⟨b,hb⟩:=List.getElem?_eq_some_iff.1 hj
 rcases Nat.lt_trichotomy i j with hl|hl|hl
 ·exact absurd (ha.trans hb.symm) (List.pairwise_iff_getElem.1 h i j a b hl)
 ·exact hl
 ·exact absurd (hb.trans ha.symm) (List.pairwise_iff_getElem.1 h j i b a hl)
theorem ID {h:List Ob}(hp:Hp F own w h){id:Nat}{hd:Hd}{b:Nat}(e1:own id=some hd)(e2:hd.p=some b){mid n:Nat}{left:List Nat}{cur:Option Nat}(ho:ag h id=.mi (some mid) n left cur)
  {kk vk:Tag} {l:List (kk.T×vk.T)} (hm:ag h mid=.mp kk vk l (some (id,none))) (hn:n=l.length) (ty:TypeId):
  (left=[]∧(Instr.next (.pointer (some ⟨b,0,none⟩)) false ty).run P w=.ok (.tuple #[.bool false]) w)∨
  ∃ j∈left,∃ u w',(Instr.next (.pointer (some ⟨b,0,none⟩)) false ty).run P w=.ok u w'∧Step F own w (bu h id (.mi (some mid) n (left.erase j) (some j))) own w'∧
   Rel F own w' (.tup [.v (.bool true),svT kk (l.getD j (dq kk,dq vk)).1,svT vk (l.getD j (dq kk,dq vk)).2]) u:=by
 obtain⟨hd',e1',b',p1,p2,p3⟩:=hp.at ho rfl
 rw[e1]at e1';cases e1'
 rw[e2]at p1;cases p1
 obtain⟨hdm,bm,seen,c0,ss,k1,k2,k3,k4,k5,k6,k7,k8⟩:=p3 _ rfl
 obtain⟨hdm',k1',bm',es,clk,m1,m2,m3,m4,m5,hd2,t1,t2⟩:=hp.at hm rfl
 rw[k1]at k1';cases k1'
 rw[k2]at m1;cases m1
 rw[e1]at t1;cases t1
 obtain⟨hc0,hss⟩:=Av (k4.symm.trans t2)
 subst hc0;subst hss
 have hes:es.size=l.length:=by simpa[cC]using m4.1
 have hget:∀ i (hi:i<es.size),(d6 es)[i]? =some es[i].born:=fun i hi=>by simp[d6,hi]
 have hborn:∀ x∈es.toList,x.born<c0:=fun x hx=>m5.2 _ (List.mem_map_of_mem hx)
 rcases vV (P:=P) (ty:=ty) k3 m3 hborn (Nat.le_refl _)with⟨h1,h2⟩ | ⟨e,h1,w1,h2,h3⟩
 ·refine .inl ⟨?_,h2⟩
  cases hl:left with
  |nil=>rfl
  |cons k r=>
   exfalso
   obtain⟨s9,hs9,hn9⟩:=(k7 k).1 (by rw[hl];simp)
   have hke:k<es.size:=by have:=(List.getElem?_eq_some_iff.1 hs9).1;simpa[d6]using this
   rw[hget k hke,Option.some.injEq]at hs9
   have hmem:es[k]∈leftOf es seen:=by
    unfold leftOf
    rw[Array.mem_filter]
    refine⟨Array.getElem_mem _,?_⟩
    rw[hs9]
    simpa using hn9
   have:=Array.size_pos_of_mem hmem
   omega
 ·have hmem:e∈es∧¬e.born∈seen.toList:=by
   rw[Array.mem_toList_iff]at h1
   unfold leftOf at h1
   rw[Array.mem_filter]at h1
   refine⟨h1.1,?_⟩
   have:=h1.2
   simpa using this
  obtain⟨j,hj,hje⟩:=Array.getElem_of_mem hmem.1
  have hb:(d6 es)[j]? =some e.born:=by rw[←hje];exact hget j hj
  have hjl:j∈left:=(k7 j).2 ⟨_,hb,hmem.2⟩
  have hh:w1.heap=w.heap:=by rcases h2 with rfl|rfl <;>rfl
  have hbl:b<w.heap.size:=hp.lt id hd b e1 (by rw[p2];simp)
  have st:Step F own w (bu h id (.mi (some mid) n (left.erase j) (some j))) own { w1 with heap:=w1.heap.setIfInBounds b (.mapIter (some bm) c0 (seen.push e.born) c0)}:=by
   refine iX hp e1 (b:=b) (by rw[p2];simp) ?_ (fun k hk=>?_) ?_ ?_ ?_ _ fun g=>⟨b,e2,p2,fun i hi=>?_⟩
   ·show(w1.heap.setIfInBounds b _).size=_
    rw[hh];exact Array.size_setIfInBounds
   ·show(w1.heap.setIfInBounds b _)[k]? =_
    rw[hh,Array.getElem?_setIfInBounds,if_neg (fun e=>hk e.symm)]
   ·rcases h2 with rfl|rfl <;>rfl
   ·rcases h2 with rfl|rfl <;>rfl
   ·rcases h2 with rfl|rfl <;>rfl
   ·cases hi
    refine⟨hdm,bm,seen.push e.born,c0,d6 es,k1,k2,?_,k4,k5,k6.erase j,fun k=>?_,fun j' hj'=>?_⟩
    ·show(w1.heap.setIfInBounds b _)[b]? =_
     rw[hh,Array.getElem?_setIfInBounds,if_pos rfl,if_pos hbl]
    ·rw[k6.mem_erase_iff,k7 k,Array.toList_push]
     constructor
     ·rintro⟨a,s,b,c⟩
      refine⟨s,b,fun h=>?_⟩
      rcases List.mem_append.1 h with h|h
      ·exact c h
      ·simp at h
       subst h
       exact a (BS m5.1 b hb)
     ·rintro⟨s,a,b⟩
      refine⟨fun h=>?_,s,a,fun h=>b (List.mem_append_left _ h)⟩
      subst h
      rw[hb]at a;cases a
      exact b (by simp)
    ·cases hj'
     exact⟨_,hb,by simp⟩
  refine .inr ⟨j,hjl,_,_,h3,st,.tup rfl fun k s hk=>?_⟩
  have hlt:j<l.length:=by omega
  have hgd:l.getD j (dq kk,dq vk)=l[j]:=by rw[List.getD_eq_getElem?_getD,List.getElem?_eq_getElem hlt];rfl
  rw[hgd]at hk
  obtain⟨e3,g1,_,g3,g4⟩:=m4.2 j l[j] (by simp[cC,hlt])
  rw[Array.getElem?_eq_getElem hj,hje]at g1
  cases g1
  match k,hk with
  |0,hk=>cases hk;exact .v _
  |1,hk=>cases hk;exact g3.mono st.fr.goes
  |2,hk=>cases hk;exact g4.mono st.fr.goes
theorem AG (hts:ts.ok P)(hG:ConsOk P G)(hr:ROk N ops){E E':Nat→Prop}(hE:∀ k,E' k↔E k∨k=n)(hnE:¬E n){o:Oper}(ho:ops[n]? =some o)(hgE:∀ j b,o.guard=some (j,b)→E j)
  (hi:SInv F w0 N ops E own st a w) {Q:Exit→Act→World→Prop} {K:Act→World→Prop} {next:St→Prop} {Z:Value→St→Prop} (hZ:∀ x own st a w,StRel F w0 N own st a w→Z x st→Q (.panic [{ v:=x,recovered:=false}]) a w)
  (hx:AF G ops o.dst st next Z o.guard (opS ⟨ts,ops,o.guard,st,st.h.length⟩ o.op)) (hK:∀ own st a w,SInv F w0 N ops E' own st a w→next st→K a w):
  (GOk ops a o.guard→(∀ c,o.op≠ .defer c)∧o.uponIn (rd ro) nd P a K Q ((execOp a.eval o).run P w))∧(¬GOk ops a o.guard→K (a.put o.dst undef) w):=by
 cases hg:o.guard with
 |none=>
  have hnd:∀ c,o.op≠ .defer c:=qJ (cx:=⟨ts,ops,o.guard,st,st.h.length⟩) (fun e=>by rw[e,hg]at hx;exact hx)
  refine⟨fun _=>⟨hnd,?_⟩,fun h=>absurd trivial h⟩
  rw[hg]at hx
  have hgo:GOk ops a o.guard:=by rw[hg];trivial
  have h:=zd (P:=P) (ts:=ts) (ops:=ops) (g:=none) (t:=st.t) (h:=st.h) (nx:=st.h.length) hts hi.hp hi.hp.nx (a:=a) (o:=o) (vX hi trivial (fun k c e=>by cases e)) (fun c x y _=>⟨fun hc=>nI (g:=none) hi trivial (fun k c e=>by cases e) c x true hc,fun hc=>nI (g:=none) hi trivial (fun k c e=>by cases e) c y false hc⟩)
  change fU G o.dst st next Z (opS ⟨ts,ops,none,⟨st.t,st.h⟩,st.h.length⟩ o.op)at hx
  generalize opS ⟨ts,ops,none,⟨st.t,st.h⟩,st.h.length⟩ o.op=r at h hx
  cases r with
  |bad=>exact hx.elim
  |val s=>
   obtain⟨u,e1,e2⟩:=h
   exact di (.inl e1) (hK _ _ _ _ (hi.stepv hr hE hnE ho hgE hgo (Below.refl _ _) e2).1 hx)
  |chk c s=>
   obtain⟨u,e1,e2⟩:=h hx.1
   exact di (.inl e1) (hK _ _ _ _ (hi.stepv hr hE hnE ho hgE hgo (Below.refl _ _) e2).1 hx.2)
  |asm c s=>
   obtain⟨hc,u,e1,e2⟩:=h
   exact di (.inl e1) (hK _ _ _ _ (hi.stepv hr hE hnE ho hgE hgo (Below.refl _ _) e2).1 (hx hc))
  |newr s=>
   obtain⟨u,cs,ty,e1,e2⟩:=h
   exact di (.inl e1) (hK _ _ _ _ (hi.stepv hr hE hnE ho hgE hgo (jr _ _) e2).1 hx)
  |amb p=>
   obtain⟨b,h1,h2⟩:=h
   exact di (.inl h2) (hK _ _ _ _ (hi.stepv hr hE hnE ho hgE hgo (Below.refl _ _) (.v _)).1 (hx b h1))
  |nxt id=>
   obtain⟨hd,b,e1,e2,ty,hrun⟩:=h
   change Ft id o.dst st next (ag st.h id)at hx
   cases hob:ag st.h id with
   |mi mid n' left cur=>
    rw[hob]at hx
    cases mid with
    |none=>exact hx.elim
    |some mid=>
     change CX id mid n' left o.dst st next (ag st.h mid)at hx
     cases hm:ag st.h mid with
     |mp kk vk l pend=>
      rw[hm]at hx
      cases pend with
      |none=>exact hx.elim
      |some q=>
      obtain⟨it,q⟩:=q
      cases q with
      |some _=>exact hx.elim
      |none=>
       obtain⟨⟨x0,x1⟩,x2,x3⟩:=hx
       subst x0
       rcases ID (P:=P) hi.hp e1 e2 hob hm x1 ty with⟨q1,q2⟩ | ⟨j,q1,u,w',q2,q3,q4⟩
       ·exact di (.inl (hrun _ _ q2)) (hK _ _ _ _ (hi.stepv hr hE hnE ho hgE hgo (Below.refl _ _) (.tup rfl fun k s hk=>by
         match k,hk with
         |0,hk=>cases hk;exact .v _)).1 (x2 q1))
       ·exact di (.inl (hrun _ _ q2)) (hK _ _ _ _ (hi.stepe hr hE hnE ho hgE hgo q3.hp q3.fr q4).1 (x3 j q1))
     |_=>rw[hm]at hx;exact hx.elim
   |_=>rw[hob]at hx;exact hx.elim
  |eff c ac ups s=>
   obtain⟨hc,hx⟩:=hx
   obtain⟨ha,u,own',w',e1,e2,e3⟩:=h hc
   exact di e1 (hK _ _ _ _ (hi.stepe hr hE hnE ho hgE hgo e3.hp e3.fr e2).1 (hx ha))
  |call f args=>
   obtain⟨vs,e1,e2⟩:=h
   change mS (args.all (bU 3)) (reach st.h 64 (args.flatMap (dv 3)) []) o.dst st next Z (G.o f (args.map (ren (inN (reach st.h 64 (args.flatMap (dv 3)) [])) 6)) (jW st.h (reach st.h 64 (args.flatMap (dv 3)) []))) (G.p f (args.map (du st.h 6)))at hx
   have hx2:o_ (reach st.h 64 (args.flatMap (dv 3)) []) o.dst st next Z (G.o f (args.map (ren (inN (reach st.h 64 (args.flatMap (dv 3)) [])) 6)) (jW st.h (reach st.h 64 (args.flatMap (dv 3)) [])))∨∃ c,G.p f (args.map (du st.h 6))=some c∧mS (args.all (bU 3)) (reach st.h 64 (args.flatMap (dv 3)) []) o.dst st next Z (G.o f (args.map (ren (inN (reach st.h 64 (args.flatMap (dv 3)) [])) 6)) (jW st.h (reach st.h 64 (args.flatMap (dv 3)) []))) (some c)∧¬ (∃ p s,c=.det p s∧(args.all (bU 3) ||dV 3 s)=false):=by
    cases hc:G.p f (args.map (du st.h 6))with
    |none=>rw[hc]at hx;exact .inl hx
    |some c=>
     rw[hc]at hx
     by_cases hdet:∃ p s,c=.det p s∧(args.all (bU 3) ||dV 3 s)=false
     ·obtain⟨p,s,rfl,hb⟩:=hdet
      left
      change (bif args.all (bU 3) ||dV 3 s then _ else _)at hx
      rw[hb]at hx
      exact hx
     ·exact .inr ⟨c,rfl,hx,hdet⟩
   clear hx
   rcases hx2 with hx| ⟨c,hc,hx,hdet⟩
   ·have hids:=s5 hi.hp e1
    have hn:=jy st.h 64 (args.flatMap (dv 3)) [] List.nodup_nil
    generalize reach st.h 64 (args.flatMap (dv 3)) []=ids at hx hids hn
    change o_ ids o.dst st next Z (G.o f (args.map (ren (inN ids) 6)) (jW st.h ids))at hx
    cases ho2:G.o f (args.map (ren (inN ids) 6)) (jW st.h ids)with
    |none=>rw[ho2]at hx;exact hx.elim
    |some c=>
     rw[ho2]at hx
     obtain⟨hpre,hx⟩:=hx
     obtain⟨k1,k2⟩:=xG hG hi.hp e1 hn ho2 hpre hids
     rw[e2,k1]
     refine⟨fun h=>(by cases h),?_⟩
     refine CallsIn.mono (iy k2) ?_
     rintro e w' ⟨r,own',hr1,hr2⟩
     have hx:=hx r hr1
     cases hres:c.res r with
     |ret s h'=>
      rw[hres]at hr2 hx
      obtain⟨⟨u,rfl,hrel⟩,hp',hfr⟩:=hr2
      exact hK _ _ _ _ (hi.stepe hr hE hnE ho hgE hgo hp' hfr hrel).1 hx
     |pan x h'=>
      rw[hres]at hr2 hx
      obtain⟨rfl,hp',hfr⟩:=hr2
      exact hZ x own' ⟨ungd st.t,gA ids st.h.length st.h 0 h'⟩ a w' (hi.out.moved hp' hfr) hx
   ·have hcall:bp c∧(args.all (bU 3)=true∨∀ s,cO c s→dV 3 s=true)∧(∀ s,cO c s→next (St.put ⟨st.t,st.h++aB 3 s⟩ o.dst (ej 3 st.h.length s)))∧∀ x,ia c x→Z x ⟨ungd st.t,st.h⟩:=by
     cases c with
     |det p s=>
      change (bif args.all (bU 3) ||dV 3 s then _ else _)at hx
      cases hb:args.all (bU 3) ||dV 3 s with
      |false=>exact absurd ⟨p,s,rfl,hb⟩ hdet
      |true=>
       rw[hb]at hx
       obtain⟨hp,hx⟩:=hx
       refine⟨hp,?_,fun s' hs'=>by cases hs';exact hx,fun x h=>h.elim⟩
       rw[Bool.or_eq_true]at hb
       exact hb.imp id (fun h s' hs'=>by cases hs';exact h)
     |rel α pre post out=>
      obtain⟨hp,hx⟩:=hx
      cases hb:args.all (bU 3)with
      |false=>rw[hb]at hx;exact hx.elim
      |true=>
       rw[hb]at hx
       refine⟨hp,.inl rfl,fun s' hs'=>?_,fun x h=>h.elim⟩
       obtain⟨r,h1,rfl⟩:=hs'
       exact hx r h1
     |may ok s x=>
      change (bif args.all (bU 3) ||dV 3 s then(ok=true→next (St.put ⟨st.t,st.h++aB 3 s⟩ o.dst (ej 3 st.h.length s)))∧(ok=false→Z x ⟨ungd st.t,st.h⟩)else False)at hx
      cases hb:args.all (bU 3) ||dV 3 s with
      |false=>rw[hb]at hx;exact hx.elim
      |true=>
       rw[hb]at hx
       refine⟨trivial,?_,fun s' hs'=>by obtain⟨h1,rfl⟩:=hs';exact hx.1 h1,fun x' hs'=>by obtain⟨h1,rfl⟩:=hs';exact hx.2 h1⟩
       rw[Bool.or_eq_true]at hb
       exact hb.imp id (fun h s' hs'=>by obtain⟨_,rfl⟩:=hs';exact h)
    obtain⟨q1,q2,q3,q4⟩:=hcall
    obtain⟨k1,k2⟩:=v6 (P:=P) hG hi.hp e1 hc q1 q2
    rw[e2,k1]
    refine⟨fun h=>(by cases h),?_⟩
    refine CallsIn.mono (iy k2) ?_
    rintro e w' (⟨s,u,own2,m1,rfl,m2,m3,m4,m5⟩ | ⟨x,m1,rfl,m4⟩)
    ·exact hK _ _ _ _ (hi.stepe hr hE hnE ho hgE hgo m2 m3 m4).1 (q3 s m1)
    ·exact hZ x own ⟨ungd st.t,st.h⟩ a w' (hi.out.moved (hi.hp.below m4) (s6 own m4)) (q4 x m1)
  |yld id args=>
   obtain⟨hd,e0,vs,e1,e2⟩:=h
   change (bif args.all (bU 3)then yT id o.dst st next (vL G args (ag st.h id))else False)at hx
   cases hb:args.all (bU 3)with
   |false=>rw[hb]at hx;exact hx.elim
   |true=>
    rw[hb]at hx
    cases hob:ag st.h id with
    |ab r=>
     rw[hob]at hx
     change yT id o.dst st next (G.y args r)at hx
     cases hc:G.y args r with
     |none=>rw[hc]at hx;exact hx.elim
     |some c=>
      rw[hc]at hx
      obtain⟨hpre,hx⟩:=hx
      have mono:∀ (w':World) a' own2,c.post a'→Hp F own2 w' (bu st.h id (.ab (c.res a').2))→Fr { w:=w,own:=own} own2 w'→K (a.put o.dst (.bool (c.res a').1)) w':=by
       intro w' a' own2 m1 m2 m3
       exact hK _ _ _ _ (hi.stepe hr hE hnE ho hgE hgo m2 m3 (.v _)).1 (hx a' m1)
      rcases xH hG hi.hp e0 e1 hb hob hc hpre with⟨f,as,k1,k2⟩ | ⟨l,f,tmps,as,bd,k1,k2⟩
      ·rw[e2,k1]
       exact⟨fun h=>(by cases h),CallsIn.mono (iy k2) (by rintro e w' ⟨a',own2,m1,rfl,m2,m3⟩;exact mono w' a' own2 m1 m2 m3)⟩
      ·rw[e2,k1]
       exact⟨fun h=>(by cases h),RoundIn.mono (xE k2) (by rintro e w' ⟨a',own2,m1,rfl,m2,m3⟩;exact mono w' a' own2 m1 m2 m3)⟩
    |_=>rw[hob]at hx;exact hx.elim
  |pan x=>
   rw[show(execOp a.eval o).run P w=.halt (.panic x) w from h]
   exact hZ x own ⟨ungd st.t,st.h⟩ a w hi.out hx
 |some g=>
  rw[hg]at hx
  have hlt:=hr.lt n o g.1 g.2 ho hg
  have hrf:iV ops g.1:=⟨n,o,g.2,ho,hg⟩
  have hjE:E g.1:=hgE g.1 g.2 hg
  change stepG G ops g o.dst st next Z (opS ⟨ts,ops,some g,⟨st.t,st.h⟩,st.h.length⟩ o.op)at hx
  refine⟨fun hgo'=>?_,fun hgo'=>?_⟩
  ·have hgo:GOk ops a o.guard:=by rw[hg];exact hgo'
   have hgp:dz ops st.t ops.length g:=nJ hi n (fun _ _ _ _ _ _ _ _=>rfl) hr.lt _ g hlt hjE hrf hgo'
   have hnd:∀ c,o.op≠ .defer c:=qJ (cx:=⟨ts,ops,o.guard,st,st.h.length⟩) (fun e=>by rw[hg]at e;rw[show(opS ⟨ts,ops,some g,⟨st.t,st.h⟩,st.h.length⟩ o.op)=.bad from e]at hx;exact v8 _ _ hgp hx.1)
   refine⟨hnd,?_⟩
   have hgn:∀ k c,some g=some (k,c)→E k∧iV ops k:=fun k c e=>by cases e;exact⟨hjE,hrf⟩
   have h:=zd (P:=P) (ts:=ts) (ops:=ops) (g:=some g) (t:=st.t) (h:=st.h) (nx:=st.h.length) hts hi.hp hi.hp.nx (a:=a) (o:=o) (vX hi hgo' hgn) (fun c x y _=>⟨fun hc=>nI hi hgo' hgn c x true hc,fun hc=>nI hi hgo' hgn c y false hc⟩)
   generalize opS ⟨ts,ops,some g,⟨st.t,st.h⟩,st.h.length⟩ o.op=r at h hx
   cases r with
   |bad=>exact(v8 _ _ hgp hx.1).elim
   |pan x=>exact hx.elim
   |nxt id=>exact hx.elim
   |amb p=>exact hx.elim
   |val s=>
    obtain⟨u,e1,e2⟩:=h
    exact di (.inl e1) (hK _ _ _ _ ((hi.stepv hr hE hnE ho hgE hgo (Below.refl _ _) e2).2 g hg) hx)
   |chk c s=>
    obtain⟨u,e1,e2⟩:=h (hx.1 hgp)
    exact di (.inl e1) (hK _ _ _ _ ((hi.stepv hr hE hnE ho hgE hgo (Below.refl _ _) e2).2 g hg) hx.2)
   |asm c s=>
    obtain⟨_,u,e1,e2⟩:=h
    exact di (.inl e1) (hK _ _ _ _ ((hi.stepv hr hE hnE ho hgE hgo (Below.refl _ _) e2).2 g hg) hx)
   |newr s=>
    obtain⟨u,cs,ty,e1,e2⟩:=h
    exact di (.inl e1) (hK _ _ _ _ ((hi.stepv hr hE hnE ho hgE hgo (jr _ _) e2).2 g hg) hx)
   |eff c ac ups s=>
    obtain⟨hc,hx⟩:=hx.1 hgp
    obtain⟨ha,u,own',w',e1,e2,e3⟩:=h hc
    exact di e1 (hK _ _ _ _ ((hi.stepe hr hE hnE ho hgE hgo e3.hp e3.fr e2).2 g hg) (hx ha))
   |call f args=>
    obtain⟨vs,e1,e2⟩:=h
    change sD (args.all (bU 3)) (reach st.h 64 (args.flatMap (dv 3)) []) ops g o.dst st next Z (G.o f (args.map (ren (inN (reach st.h 64 (args.flatMap (dv 3)) [])) 6)) (jW st.h (reach st.h 64 (args.flatMap (dv 3)) []))) (G.p f (args.map (du st.h 6)))at hx
    cases hc:G.p f (args.map (du st.h 6))with
    |none=>
     rw[hc]at hx
     have hids:=s5 hi.hp e1
     have hn:=jy st.h 64 (args.flatMap (dv 3)) [] List.nodup_nil
     generalize reach st.h 64 (args.flatMap (dv 3)) []=ids at hx hids hn
     change qA ids ops g o.dst st next Z (G.o f (args.map (ren (inN ids) 6)) (jW st.h ids))at hx
     cases ho2:G.o f (args.map (ren (inN ids) 6)) (jW st.h ids)with
     |none=>rw[ho2]at hx;exact hx.elim
     |some c=>
      rw[ho2]at hx
      obtain⟨hpre,hx⟩:=hx.1 hgp
      obtain⟨k1,k2⟩:=xG hG hi.hp e1 hn ho2 hpre hids
      rw[e2,k1]
      refine⟨fun h=>(by cases h),?_⟩
      refine CallsIn.mono (iy k2) ?_
      rintro e w' ⟨r,own',hr1,hr2⟩
      have hx:=hx r hr1
      cases hres:c.res r with
      |ret s h'=>
       rw[hres]at hr2 hx
       obtain⟨⟨u,rfl,hrel⟩,hp',hfr⟩:=hr2
       exact hK _ _ _ _ ((hi.stepe hr hE hnE ho hgE hgo hp' hfr hrel).2 g hg) hx
      |pan x h'=>
       rw[hres]at hr2 hx
       obtain⟨rfl,hp',hfr⟩:=hr2
       exact hZ x own' ⟨ungd st.t,gA ids st.h.length st.h 0 h'⟩ a w' (hi.out.moved hp' hfr) hx
    |some c=>
     rw[hc]at hx
     cases c with
     |rel=>exact hx.elim
     |may=>exact hx.elim
     |det p s=>
      obtain⟨hp,hx⟩:=hx
      cases hb:(args.all (bU 3) ||dV 3 s)&&(aB 3 s).isEmpty with
      |false=>rw[hb]at hx;exact hx.elim
      |true=>
       rw[hb]at hx
       rw[Bool.and_eq_true,Bool.or_eq_true]at hb
       obtain⟨k1,k2⟩:=v6 (P:=P) hG hi.hp e1 hc (hp hgp) (hb.1.imp id (fun h s' hs'=>by cases hs';exact h))
       rw[e2,k1]
       refine⟨fun h=>(by cases h),?_⟩
       refine CallsIn.mono (iy k2) ?_
       rintro e w' (⟨s',u,own2,rfl,rfl,m2,m3,m4,m5⟩ | ⟨x,m1,_⟩)
       ·have hz:aB 3 s'=[]:=List.isEmpty_iff.1 hb.2
        rw[hz,List.append_nil]at m2
        rw[rA 3 _ s' hz]at m4
        exact hK _ _ _ _ ((hi.stepe hr hE hnE ho hgE hgo m2 m3 m4).2 g hg) hx
       ·exact m1.elim
   |yld id args=>
    obtain⟨hd,e0,vs,e1,e2⟩:=h
    change (bif args.all (bU 3)then xd id ops g o.dst st next (vL G args (ag st.h id))else False)at hx
    cases hb:args.all (bU 3)with
    |false=>rw[hb]at hx;exact hx.elim
    |true=>
     rw[hb]at hx
     cases hob:ag st.h id with
     |ab r=>
      rw[hob]at hx
      change xd id ops g o.dst st next (G.y args r)at hx
      cases hc:G.y args r with
      |none=>rw[hc]at hx;exact hx.elim
      |some c=>
       rw[hc]at hx
       obtain⟨hpre,hx⟩:=hx.1 hgp
       have mono:∀ (w':World) a' own2,c.post a'→Hp F own2 w' (bu st.h id (.ab (c.res a').2))→Fr { w:=w,own:=own} own2 w'→K (a.put o.dst (.bool (c.res a').1)) w':=by
        intro w' a' own2 m1 m2 m3
        exact hK _ _ _ _ ((hi.stepe hr hE hnE ho hgE hgo m2 m3 (.v _)).2 g hg) (hx a' m1)
       rcases xH hG hi.hp e0 e1 hb hob hc hpre with⟨f,as,k1,k2⟩ | ⟨l,f,tmps,as,bd,k1,k2⟩
       ·rw[e2,k1]
        exact⟨fun h=>(by cases h),CallsIn.mono (iy k2) (by rintro e w' ⟨a',own2,m1,rfl,m2,m3⟩;exact mono w' a' own2 m1 m2 m3)⟩
       ·rw[e2,k1]
        exact⟨fun h=>(by cases h),RoundIn.mono (xE k2) (by rintro e w' ⟨a',own2,m1,rfl,m2,m3⟩;exact mono w' a' own2 m1 m2 m3)⟩
     |_=>rw[hob]at hx;exact hx.elim
  ·have hgo:¬GOk ops a o.guard:=by rw[hg];exact hgo'
   have hgN:gD ops st.t ops.length g:=uK hi _ g hjE hrf hgo'
   have hskip:=fun s=>hi.skip hr hE hnE ho hgE hgo hg (s:=s)
   generalize opS ⟨ts,ops,some g,⟨st.t,st.h⟩,st.h.length⟩ o.op=r at hx
   cases r with
   |bad=>exact hK _ _ _ _ (hskip .any) hx.2
   |pan x=>exact hx.elim
   |nxt id=>exact hx.elim
   |amb p=>exact hx.elim
   |val s=>exact hK _ _ _ _ (hskip _) hx
   |chk c s=>exact hK _ _ _ _ (hskip _) hx.2
   |asm c s=>exact hK _ _ _ _ (hskip _) hx
   |newr s=>exact hK _ _ _ _ (hskip _) hx
   |eff c ac ups s=>exact hK _ _ _ _ (hskip _) (hx.2 hgN)
   |call f args=>
    change sD (args.all (bU 3)) (reach st.h 64 (args.flatMap (dv 3)) []) ops g o.dst st next Z (G.o f (args.map (ren (inN (reach st.h 64 (args.flatMap (dv 3)) [])) 6)) (jW st.h (reach st.h 64 (args.flatMap (dv 3)) []))) (G.p f (args.map (du st.h 6)))at hx
    cases hc:G.p f (args.map (du st.h 6))with
    |none=>
     rw[hc]at hx
     generalize reach st.h 64 (args.flatMap (dv 3)) []=ids at hx
     change qA ids ops g o.dst st next Z (G.o f (args.map (ren (inN ids) 6)) (jW st.h ids))at hx
     cases ho2:G.o f (args.map (ren (inN ids) 6)) (jW st.h ids)with
     |none=>rw[ho2]at hx;exact hx.elim
     |some c=>
      rw[ho2]at hx
      exact hK _ _ _ _ (hskip .any) (hx.2 hgN)
    |some c=>
     rw[hc]at hx
     cases c with
     |rel=>exact hx.elim
     |may=>exact hx.elim
     |det p s=>
      obtain⟨hp,hx⟩:=hx
      cases hb:(args.all (bU 3) ||dV 3 s)&&(aB 3 s).isEmpty with
      |false=>rw[hb]at hx;exact hx.elim
      |true=>rw[hb]at hx;exact hK _ _ _ _ (hskip _) hx
   |yld id args=>
    change (bif args.all (bU 3)then xd id ops g o.dst st next (vL G args (ag st.h id))else False)at hx
    cases hb:args.all (bU 3)with
    |false=>rw[hb]at hx;exact hx.elim
    |true=>
     rw[hb]at hx
     cases hc:vL G args (ag st.h id)with
     |none=>rw[hc]at hx;exact hx.elim
     |some c=>rw[hc]at hx;exact hK _ _ _ _ (hskip .any) (hx.2 hgN)
theorem SInv.congr {E E':Nat→Prop}(h:∀ k,E k↔E' k){st:St}(hi:SInv F w0 N ops E own st a w):SInv F w0 N ops E' own st a w:=by
 have:E=E':=funext fun k=>propext (h k)
 subst this;exact hi
theorem SInv.all {st:St}(hr:ROk N ops){n:Nat}(hn:ops.length≤n)(hi:SInv F w0 N ops (· <n) own st a w):SInv F w0 N ops (· <ops.length) own st a w:=by
 refine⟨hi.size,hi.defers,hi.hp,hi.fr,fun t=>?_,fun k o d j b s hk=>hi.tags k o d j b s (by omega),fun k o j b hk hq hg=>by have:=hr.lt k o j b hq hg;omega,fun k o b hk hrf hq hy=>hi.chain k o b (by omega) hrf hq hy⟩
 have:=hi.slots t
 cases hs:lk t st.t with
 |gd j b s=>
  rw[hs]at this
  obtain⟨_,⟨i,o,b',h1,h2⟩,h3⟩:=this
  exact⟨by have:=hr.lt i o j b' h1 h2;have:=(List.getElem?_eq_some_iff.1 h1).1;omega,⟨i,o,b',h1,h2⟩,h3⟩
 |_=>rw[hs]at this;exact this
theorem wa {ts:Tis}{G:Cons}{ops:List Oper}{o:Oper}{rest:List Oper}{st:St}{K:St→Prop}{Z:Value→St→Prop}(h:eF ts G ops (o::rest) st K Z):
  AF G ops o.dst st (fun st'=>eF ts G ops rest st' K Z) Z o.guard (opS ⟨ts,ops,o.guard,st,st.h.length⟩ o.op):=by
 simp only[eF]at h
 cases hg:o.guard <;>rw[hg]at h <;>exact h
theorem zi (hts:ts.ok P)(hG:ConsOk P G)(hr:ROk N ops){Q:Exit→Act→World→Prop}{K:St→Prop}{Z:Value→St→Prop}(hZ:∀ x own st a w,StRel F w0 N own st a w→Z x st→Q (.panic [{ v:=x,recovered:=false}]) a w):
  ∀ (rest:List Oper) (n:Nat) (own:Own) (st:St) (a:Act) (w:World),ops.drop n=rest→SInv F w0 N ops (· <n) own st a w→eF ts G ops rest st K Z→
  (∀ own st a w,SInv F w0 N ops (· <ops.length) own st a w→K st→Q .normal a w)→wpListIn (rd ro) nd P ops.toArray Q rest a w
 | [],n,own,st,a,w,hd,hi,hx,hK=>by
  have hn:ops.length≤n:=by
   have:=congrArg List.length hd;simp at this;omega
  exact hK own st a w (hi.all hr hn) hx
 |o::rest,n,own,st,a,w,hd,hi,hx,hK=>by
  obtain⟨ho,hd'⟩:=s4 hd
  have ih:=fun own' st' a' w' (hi':SInv F w0 N ops (· <n+1) own' st' a' w') hx'=>zi hts hG hr hZ rest (n+1) own' st' a' w' hd' hi' hx' hK
  obtain⟨h1,h2⟩:=AG (ro:=ro) (nd:=nd) hts hG hr (nf n) (Nat.lt_irrefl n) ho (fun j b e=>hr.lt n o j b ho e) hi hZ (wa hx) ih
  by_cases hgo:GOk ops a o.guard
  ·obtain⟨hnd,h1⟩:=h1 hgo
   unfold wpListIn;rw[if_pos (gm.2 hgo)];refine⟨fun _ _=>trivial,?_⟩;rw[Oper.semAt_eq _ _ _ hnd];exact h1
  ·have hw:Region.wanted o (yielded ops.toArray a.tmps)=false:=by
    cases hb:Region.wanted o (yielded ops.toArray a.tmps)with
    |false=>rfl
    |true=>exact absurd (gm.1 hb) hgo
   unfold wpListIn;rw[if_neg (by simp[hw])];exact⟨fun _ _=>trivial,h2 hgo⟩
end
end Go.Sx
end
