/- Part of the proof that the law RefuseHolds returns true and leaves its arguments as they were, for all arguments of bulk at most 1048576 (the Upto form). -/
import Derived.Test.YtaikmgjfkejlkaaGreatH103
import Derived.TacticsIn
import Derived.OrdersIn
set_option linter.all false
set_option maxHeartbeats 4000000
set_option maxRecDepth 100000
section
namespace Go.Sx
open Go.RowKit
def Dfr (F:Nat->Prop)(B:Bs)(w:World)(ds:List Deferred):Prop:=
 ∃ (ms:List Deferred) (Ds:List Nat),ds=ms++B.ds/\ms.map (·.target)=Ds.map .collected/\Ds.Nodup/\∀ D∈Ds,B.w.heap.size<=D/\F D/\w.heap[D]? =some (.deferred (some []))
variable {F:Nat->Prop}{B:Bs}{w:World}
theorem Dfr.fr{own ee:Own}{w':World}{ds:List Deferred}(h:Dfr F B w ds)(g:Fr { w:=w,own:=own} ee w')(E:∀ (id:Nat) (hd:Hd) (b:Nat),own id=some hd->b∈hd.bs->¬F b):Dfr F B w' ds:=by
 have⟨ms,Ds,h0,h1,h2,h3⟩:=h;refine⟨ms,Ds,h0,h1,h2,λD V=>?_⟩;have⟨q1,q2,q3⟩:=h3 D V;exact⟨q1,q2,by rw[g.block D ⟨vj q3,λ⟨id,hd,e,O⟩ =>E id hd D e O q2⟩];exact q3⟩
theorem Dfr.nil:Dfr F B w B.ds:=⟨[],[],rfl,rfl,apL,λD h=>by cases h⟩
def oB (a:List Oper)(j:Nat):Prop:= ∃ (i:Nat) (o:Oper) (b:Bool),a[i]? =some o/\o.guard=some (j,b)
def atn (F:Nat->Prop)(ops:List Oper)(E:Nat->Prop)(own:Own)(a:Act)(w:World):SV->Value->Prop
 | .gd j b s,v=>E j/\oB ops j/\(yielded ops.toArray a.tmps j=some b->Rel F own w s v)|s,v=>Rel F own w s v
def GOk (ops:List Oper)(a:Act):Option (Nat×Bool)->Prop
 |none=>True|some g=>yielded ops.toArray a.tmps g.1=some g.2
section
variable {P:Program}{F:Nat->Prop}{own:Own}{w:World}{ts:Tis}
variable {ops:List Oper}{E:Nat->Prop}{a:Act}{v:Value}
theorem yE{s:SV}(h:Rel F own w s v):atn F ops E own a w s v:=by
 cases s <;>first|exact h|cases h
variable {ee:Own}{w':World}
theorem atn.mono{O:Nat->Prop}{V:Act}{s:SV}(h:atn F ops E own a w s v)(hn:∀ j,E j->O j)(g:aso F own w ee w')
  (hy:∀ j b,E j->oB ops j->yielded ops.toArray V.tmps j=some b->yielded ops.toArray a.tmps j=some b):atn F ops O ee V w' s v:=by
 cases s with
 |gd j b s=>exact⟨hn j h.1,h.2.1,λq=>(h.2.2 (hy j b h.1 h.2.1 q)).mono g⟩
 |_=>exact Rel.mono g h
theorem mZ (ops:List Oper)(tmps:Array Value)(j:Nat)(b:Bool):yielded ops.toArray tmps j=some b↔∃ o d,ops[j]? =some o/\o.dst=some d/\tmps[d]? =some (.bool b):=by
 grind [yielded,Option.bind_eq_some_iff]
structure ROk (N:Nat)(ops:List Oper):Prop where
 dst:∀ (i:Nat) (o:Oper) (d:Nat),ops[i]? =some o->o.dst=some d->d<N
 lt:∀ (i:Nat) (o:Oper) (j:Nat) (b:Bool),ops[i]? =some o->o.guard=some (j,b)->j<i
 uniq:∀ (j:Nat),oB ops j->∃ (o:Oper) (d:Nat),ops[j]? =some o/\o.dst=some d/\∀ (k:Nat) (q:Oper),k≠j->ops[k]? =some q->q.dst≠some d
variable {N:Nat}
theorem WP(h:WC N ops=true):ROk N ops:=by
 have h':∀ (i:Nat) (o:Oper),ops[i]? =some o->((match o.dst with|some d=>Nat.blt d N|none=>true)&&Fu ops i o)=true:=by
  intro i o E;unfold WC at h;rw[ao4]at h;have:=h i (apN.2 (aop.1 E).1);grind [iu]
 refine⟨λi o d E hd=>?_,λi o j b E O=>?_,λj ⟨i,o,b,E,O⟩ =>?_⟩;have:=h' i o E;simp_all;have:=h' i o E;simp_all [Fu];have:=h' i o E;simp[Fu,O,aoj]at this;have⟨_,_,h3⟩:=this;rw[iu]at h3;cases W:ops[j]? with
 |none=>grind
 |some q=>
  cases hd:q.dst with
  |none=>grind
  |some d=>
   rw[W]at h3;simp[ap1,hd,ao4,apN]at h3;refine⟨q,d,rfl,hd,λk p Y V X=>?_⟩;have:=h3 k (aop.1 V).1;simp_all [iu]
theorem Gv {E:Nat->Prop}{ops:List Oper}{a:Act}(W:∀ (k:Nat) (o:Oper) (j:Nat) (b:Bool),E k->ops[k]? =some o->o.guard=some (j,b)->E j)(X:∀ (k:Nat) (o:Oper) (b:Bool),E k->oB ops k->ops[k]? =some o->yielded ops.toArray a.tmps k=some b->GOk ops a o.guard):
  ∀ (n:Nat) (g:Option (Nat×Bool)) (j:Nat) (b:Bool),(∀ k c,g=some (k,c)->E k/\oB ops k)->
  tx ops n g j b=true->GOk ops a g->yielded ops.toArray a.tmps j=some b
 |0,_,_,_,_,h,_=>by simp[tx]at h
 |n+1,none,_,_,_,h,_=>by simp[tx]at h
 |n+1,some (j',b'),j,b,hm,h,hk=>by
  simp only[tx]at h;cases hc:Nat.beq j' j&&EM b' b with
  |true=>
   simp only[aoj]at hc;have Y:=aok hc.1;have e2:b'=b:=by cases b' <;>cases b <;>simp[EM]at hc |-
   subst Y;subst e2;exact hk
  |false=>
   simp[hc]at h;have O:yielded ops.toArray a.tmps j'=some b':=hk;have⟨o,d,h1,h2,h3⟩:=(mZ _ _ _ _).1 O;have⟨q1,q2⟩:=hm j' b' rfl;rw[iu,h1]at h;refine Gv W X n o.guard j b (λk c V=>?_) h (X j' o b' q1 q2 h1 O);exact⟨W j' o k c q1 h1 V,j',o,c,h1,V⟩
structure ase (F:Nat->Prop)(w0:Bs)(N:Nat)(ops:List Oper)(E:Nat->Prop)(own:Own)(st:St)(a:Act)(w:World):Prop where
 size:a.tmps.size=N
 defers:Dfr F w0 w a.defers
 hp:Hp F own w st.h
 fr:Fr w0 own w
 slots:∀ t,atn F ops E own a w (lk t st.t) (a.tmps.getD t undef)
 tags:∀ (k:Nat) (o:Oper) (d j:Nat) (b:Bool) (s:SV),E k->oB ops k->ops[k]? =some o->o.dst=some d->lk d st.t=.gd j b s->o.guard=some (j,b)
 closed:∀ (k:Nat) (o:Oper) (j:Nat) (b:Bool),E k->ops[k]? =some o->o.guard=some (j,b)->E j
 chain:∀ (k:Nat) (o:Oper) (b:Bool),E k->oB ops k->ops[k]? =some o->yielded ops.toArray a.tmps k=some b->GOk ops a o.guard
variable {w0:Bs}{st:St}{g:Option (Nat×Bool)}
theorem LV{nx:Nat}(hi:ase F w0 N ops E own st a w)(W:GOk ops a g)(O:∀ k c,g=some (k,c)->E k/\oB ops k)(x:Operand):
  Rel F own w (val ⟨ts,ops,g,st,nx⟩ x) (a.eval x):=by
 cases x with
 |tmp t=>
  have h:=hi.slots t;show Rel F own w (bT ops g (lk t st.t)) (a.tmps.getD t undef);cases V:lk t st.t with
  |gd j b s=>
   rw[V]at h;show Rel F own w (bif tx ops ops.length g j b then s else .any) _;cases X:tx ops ops.length g j b with
   |true=>exact h.2.2 (Gv hi.closed hi.chain _ g j b O X W)|false=>exact .any _
  |_=>rw[V]at h;exact h
 |const v=>exact .v v
 |func f=>exact .fn rfl rfl (λj s h=>by simp at h) (λj s h=>by simp at h)
 |global g=>exact .any _
theorem zx(hi:ase F w0 N ops E own st a w)(hg:GOk ops a g)(X:∀ k c,g=some (k,c)->E k/\oB ops k)(c x:Operand)(O:Bool)
  (hc:a.eval c=.bool O):Rel F own w (lV ops g c O (raw st.t x)) (a.eval x):=by
 have W:=LV (ts:=λ_=>none) (nx:=0) hi hg X x;change Rel F own w (bT ops g (raw st.t x)) (a.eval x)at W;cases V:raw st.t x with
 |gd j b s=>
  rw[V]at W;show Rel F own w (bif EM b O&&NR ops j c then s else bT ops g (.gd j b s)) _;cases Y:EM b O&&NR ops j c with
  |false=>exact W
  |true=>
   simp[aoj]at Y;have e2:b=O:=by cases b <;>cases O <;>simp[EM]at Y |-
   subst e2;cases x with
   |tmp t=>
    have h:=hi.slots t;have hs':lk t st.t=.gd j b s:=V;rw[hs']at h;refine h.2.2 ((mZ _ _ _ _).2 ?_);have hd:=Y.2;unfold NR at hd;rw[iu]at hd;split at hd
    rename_i d tc hb;have e:=aok hd;subst e;have:a.tmps.getD d undef=.bool b:=hc;simp[aoP]at this;grind [undef]
    cases hd
   |const v=>simp[raw]at V|func f=>simp[raw]at V|global q=>simp[raw]at V
 |_=>rw[V]at W;exact W
theorem sW (t:List (Nat×SV))(d:Nat)(s:SV)(n:Nat):lk n ((d,s)::t)=if d=n then s else lk n t:=by
 simp_all [lk]
theorem aaO (a:Act)(d:Nat)(v:Value)(hd:d<a.tmps.size)(n:Nat):(a.put (some d) v).tmps.getD n undef=if d=n then v else a.tmps.getD n undef:=by
 simp[Act.put,aoP];grind
theorem Ke{dst:Option Nat}{j:Nat}{q:Oper}{E:Nat}(V:ops[j]? =some q)(hd:q.dst=some E)(O:dst≠some E)(b:Bool):
  yielded ops.toArray (a.put dst v).tmps j=some b↔yielded ops.toArray a.tmps j=some b:=by
 rw[mZ,mZ];have:(a.put dst v).tmps[E]? =a.tmps[E]?:=by
  cases dst with
  |none=>rfl
  |some d=>
   simp_all [Act.put]
 grind
theorem ase.step{n:Nat}{E':Nat->Prop}(hr:ROk N ops)(hE:∀ k,E' k↔E k\/k=n)(hnE:¬E n)(hi:ase F w0 N ops E own st a w){o:Oper}(ho:ops[n]? =some o){h':List Ob}{s:SV}
  (fr1:Fr { w:=w,own:=own} ee w') (hp:Hp F ee w' h')
  (hgE:∀ j b,o.guard=some (j,b)->E j) (hs:atn F ops E' ee (a.put o.dst v) w' s v) (hch:∀ b:Bool,v=.bool b->GOk ops a o.guard) (as7:∀ j b s',s=.gd j b s'->o.guard=some (j,b)):
  ase F w0 N ops E' ee (St.put ⟨st.t,h'⟩ o.dst s) (a.put o.dst v) w':=by
 have g:aso F own w ee w':=fr1.asx;have hfr:=hi.fr.trans fr1;have hyk:∀ j b,E j->oB ops j->(yielded ops.toArray (a.put o.dst v).tmps j=some b↔yielded ops.toArray a.tmps j=some b):=by
  intro j b hj O;have⟨q,dj,h1,h2,h3⟩:=hr.uniq j O;grind [Ke]
 have hcl:∀ (k:Nat) (q:Oper) (j:Nat) (b:Bool),E' k->ops[k]? =some q->q.guard=some (j,b)->E j:=by
  intro k q j b X W V;rcases(hE k).1 X with X|rfl;exact hi.closed k q j b X W V;grind
 have hgk:∀ (k:Nat) (q:Oper),E' k->ops[k]? =some q->GOk ops a q.guard->GOk ops (a.put o.dst v) q.guard:=by
  intro k q X W hgo;cases V:q.guard with
  |none=>trivial
  |some g=>
   rw[V]at hgo;exact(hyk g.1 g.2 (hcl k q g.1 g.2 X W V) ⟨k,q,g.2,W,V⟩).2 hgo
 refine⟨?_,?_,?_,hfr,?_,?_,λk q j b X W V=>(hE j).2 (.inl (hcl k q j b X W V)),?_⟩;cases hd:o.dst <;>simp[Act.put,hi.size];have:(a.put o.dst v).defers=a.defers:=by cases hd:o.dst <;>rfl
 rw[this];exact hi.defers.fr fr1 hi.hp.apart;cases hd:o.dst <;>exact hp;intro t;have Y:atn F ops E' ee (a.put o.dst v) w' (lk t st.t) (a.tmps.getD t undef):=
  (hi.slots t).mono (λj hj=>(hE j).2 (.inl hj)) g (λj b hj O=>(hyk j b hj O).1)
 cases hd:o.dst with
 |none=>
  rw[hd]at Y;exact Y
 |some d=>
  show atn F ops E' ee _ w' (lk t ((d,s)::st.t)) _;rw[sW,aaO _ _ _ (by rw[hi.size];exact hr.dst n o d ho hd)];grind
 intro k q d j b s' X O W hqd hl;rcases(hE k).1 X with hkn|hkn;have⟨q',d',h1,h2,h3⟩:=hr.uniq k O;have hne:=h3 n o (λe=>hnE (e▸hkn)) ho;refine hi.tags k q d j b s' hkn O W hqd ?_;cases hd:o.dst with
 |none=>rw[hd]at hl;exact hl
 |some d2=>
  rw[hd]at hl;change lk d ((d2,s)::st.t)=_ at hl;simp_all [sW]
 subst hkn;rw[ho]at W;cases W;rw[hqd]at hl;change lk d ((d,s)::st.t)=_ at hl;rw[sW]at hl;grind
 intro k q b X O W hy;rcases(hE k).1 X with hkn|hkn;exact hgk k q X W (hi.chain k q b hkn O W ((hyk k b hkn O).1 hy));grind [mZ,Act.put]
theorem wl {w0:Bs}{N:Nat}{E:Nat->Prop}{ops:List Oper}{st:St}{a:Act}(hi:ase F w0 N ops E own st a w){t:List (Nat×SV)}(n:Nat)
  (ht:∀ (j:Nat) (o:Oper) (d:Nat),j<n->E j->oB ops j->ops[j]? =some o->o.dst=some d->lk d t=lk d st.t) (hlt:∀ (i:Nat) (o:Oper) (j:Nat) (b:Bool),ops[i]? =some o->o.guard=some (j,b)->j<i):
  ∀ (m:Nat) (g:Nat×Bool),g.1<n->E g.1->oB ops g.1->GOk ops a (some g)->dY ops t m g
 |0,_,_,_,_,_=>trivial
 |m+1,(j,want),hjn,hj,hrf,hg=>by
  have X:yielded ops.toArray a.tmps j=some want:=hg;have⟨o,d,h1,h2,h3⟩:=(mZ _ _ _ _).1 X;have W:=hi.slots d;have hv:a.tmps.getD d undef=.bool want:=by simp_all
  rw[hv]at W;simp[dY,iu,h1,ap1,h2,ht j o d hjn hj hrf h1 h2];split
  rename_i x Y;rw[Y]at W;have:=c8 (F:=F) (own:=own) (w:=w) W;grind
  rename_i j' b x Y;rw[Y]at W;have⟨q1,q2,q3⟩:=W;have V:=hi.tags j o d j' b _ hj hrf h1 h2 Y;have O:=hi.chain j o want hj hrf h1 X;rw[V]at O;have:=c8 (q3 O);simp at this;exact⟨wl hi n ht hlt m (j',b) (Nat.lt_trans (hlt j o j' b h1 V) hjn) q1 q2 O,this.symm⟩;trivial
theorem Gw {w0:Bs}{N:Nat}{E:Nat->Prop}{ops:List Oper}{st:St}{a:Act}(hi:ase F w0 N ops E own st a w){t:List (Nat×SV)}(n:Nat)
  (ht:∀ (j:Nat) (o:Oper) (d:Nat),j<n->E j->oB ops j->ops[j]? =some o->o.dst=some d->lk d t=lk d st.t) (hlt:∀ (i:Nat) (o:Oper) (j:Nat) (b:Bool),ops[i]? =some o->o.guard=some (j,b)->j<i):
  ∀ (m:Nat) (g:Nat×Bool),g.1<n->E g.1->oB ops g.1->¬GOk ops a (some g)->gK ops t m g
 |0,_,_,_,_,_=>trivial
 |m+1,(j,want),hjn,hj,hrf,hg=>by
  have hg':¬yielded ops.toArray a.tmps j=some want:=hg;simp[gK,iu];cases X:ops[j]? with
  |none=>simp
  |some o=>
   cases hd:o.dst with
   |none=>simp[hd]
   |some d=>
    simp[ap1,hd,ht j o d hjn hj hrf X hd];have Y:=hi.slots d;have hy:∀ x,a.tmps.getD d undef=.bool x->yielded ops.toArray a.tmps j=some x:=λx O=>by
     refine(mZ _ _ _ _).2 ⟨o,d,X,hd,?_⟩;simp[aoP]at O;grind [undef]
    split
    rename_i x O;rw[O]at Y;have:=c8 (F:=F) (own:=own) (w:=w) Y;grind
    rename_i W b x O;rw[O]at Y;have⟨q1,q2,q3⟩:=Y;have htg:=hi.tags j o d W b _ hj hrf X hd O;by_cases V:GOk ops a (some (W,b))
    have:=c8 (q3 V);grind
    left;exact Gw hi n ht hlt m (W,b) (Nat.lt_trans (hlt j o W b X htg) hjn) q1 q2 V;trivial
theorem C8 {w0:Bs}{N:Nat}{E:Nat->Prop}{ops:List Oper}{st:St}{a:Act}(hi:ase F w0 N ops E own st a w):
  ∀ (m:Nat) (g:Nat×Bool),E g.1->oB ops g.1->¬GOk ops a (some g)->gK ops st.t m g
 |0,_,_,_,_=>trivial
 |m+1,(j,want),hj,hrf,hg=>by
  have hg':¬yielded ops.toArray a.tmps j=some want:=hg;simp[gK,iu];cases Y:ops[j]? with
  |none=>simp
  |some o=>
   cases hd:o.dst with
   |none=>simp[hd]
   |some d=>
    simp[ap1,hd];have W:=hi.slots d;have hy:∀ x,a.tmps.getD d undef=.bool x->yielded ops.toArray a.tmps j=some x:=λx V=>by
     refine(mZ _ _ _ _).2 ⟨o,d,Y,hd,?_⟩;simp[aoP]at V;grind [undef]
    split
    rename_i x V;rw[V]at W;have:=c8 (F:=F) (own:=own) (w:=w) W;grind
    rename_i X b x V;rw[V]at W;have⟨q1,q2,q3⟩:=W;by_cases O:GOk ops a (some (X,b))
    have:=c8 (q3 O);grind
    left;exact C8 hi m (X,b) q1 q2 O;trivial
variable {w0:Bs}{N:Nat}
structure arE (F:Nat->Prop)(w0:Bs)(N:Nat)(own:Own)(st:St)(a:Act)(w:World):Prop where
 size:a.tmps.size=N
 defers:Dfr F w0 w a.defers
 hp:Hp F own w st.h
 fr:Fr w0 own w
 slots:∀ t,Rel F own w (lk t st.t) (a.tmps.getD t undef)
variable {st:St}{a:Act}{E:Nat->Prop}
theorem arE.start{own:Own}{w:World}(h:arE F w0 N own st a w)(ops:List Oper)(V:∀ k,¬E k):ase F w0 N ops E own st a w:=
 ⟨h.size,h.defers,h.hp,h.fr,λt=>yE (h.slots t),λk _ _ _ _ _ O=>(V k O).elim,λk _ _ _ O=>(V k O).elim,λk _ _ O=>(V k O).elim⟩
theorem LW (t:Nat):∀ l:List (Nat×SV),lk t (asC l)=match lk t l with| .gd .. =>.any|s=>s
 | [] =>rfl
 |(d,s)::r=>by
  have E:=LW t r;cases s <;>simp only[asC,lk] <;>(cases Nat.beq d t <;>simp only[cond_true,cond_false] <;>first|exact E|rfl)
theorem Tc (h:List Ob)(t:Nat):∀ l:List (Nat×SV),lk t (QS h l)=Wz h (lk t l)
 | [] =>rfl
 |(d,s)::r=>by
  have E:=Tc h t r;simp[QS,lk];grind
def Ok:∀ (h:List Ob) (id:Nat),ap (Ak h) id=adT (ap h id)
 | [],_=>rfl|o::_,0=>rfl|_::r,n+1=>Ok r n
theorem Kf:∀ h:List Ob,(Ak h).length=h.length
 | [] =>rfl
 |_::r=>by simp[Ak,aon,Kf r]
theorem WQ {own:Own}{w:World}{h:List Ob}(O:Hp F own w h){s:SV}{v:Value}(hr:Rel F own w s v):Rel F own w (Wz h s) v:=by
 cases s with
 |os id=>
  simp[Wz];cases E:ap h id with
  |fwd n=>
   cases n with
   |none=>exact hr
   |some n=>
    cases hr with
    |os h1 h2=>
     have⟨hd',e0,e⟩:=O.at E rfl;rw[h1]at e0;cases e0;have⟨hd2,k1,k2,k3⟩:=e n rfl;rw[<-k2]at h2 |-;exact .os k1 h2
  |_=>exact hr
 |_=>exact hr
theorem arE.ata{own:Own}{w:World}(h:arE F w0 N own st a w):arE F w0 N own (Sx.ata st) a w:=by
 unfold Sx.ata;cases p8 st.h with
 |false=>exact h
 |true=>
  refine⟨h.size,h.defers,⟨λid hd e=>?_,h.hp.arN,h.hp.apart,h.hp.inj,h.hp.lt,λid hd=>?_⟩,h.fr,λt=>?_⟩;show id< (Ak st.h).length;rw[Kf];exact h.hp.dom id hd e;change d_ (ap (Ak st.h) id)=false at hd;change ∃ hd,own id=some hd/\ash F own w hd (ap (Ak st.h) id);rw[Ok]at hd |-;cases E:ap st.h id with
  |fwd n=>rw[E]at hd;cases hd|dead=>rw[E]at hd;cases hd|_=>exact h.hp.at E rfl
  show Rel F own w (lk t (QS st.h st.t)) _;rw[Tc];exact WQ h.hp (h.slots t)
variable {ops:List Oper}
theorem arE.finish{own:Own}{w:World}(h:ase F w0 N ops E own st a w):arE F w0 N own (Al ops st) a w:=by
 refine arE.ata ?_;cases W:ops.any (·.guard.isSome)with
 |true=>
  refine⟨h.size,h.defers,h.hp,h.fr,λt=>?_⟩;have O:=h.slots t;show Rel F own w (lk t (asC st.t)) _;rw[LW];cases V:lk t st.t with
  |gd j b s=>exact .any _|_=>rw[V]at O;exact O
 |false=>
  refine⟨h.size,h.defers,h.hp,h.fr,λt=>?_⟩;have O:=h.slots t;show Rel F own w (lk t st.t) _;cases V:lk t st.t with
  |gd j b s=>
   rw[V]at O;have⟨_,⟨i,o,b',h1,h2⟩,_⟩:=O;grind
  |_=>rw[V]at O;exact O
theorem arE.asC{own:Own}{w:World}(h:ase F w0 N ops E own st a w):arE F w0 N own ⟨Sx.asC st.t,st.h⟩ a w:=by
 refine⟨h.size,h.defers,h.hp,h.fr,λt=>?_⟩;have O:=h.slots t;rw[LW];cases V:lk t st.t with
 |gd j b s=>exact .any _|_=>rw[V]at O;exact O
end
inductive PF:SV->Prop where
 |any:PF .any
 |v (x:Value):PF (.v x)
 |e0:PF .e0
 |rc {k:Tag} {l:List k.T}:PF (.rc k l)
 |rs {k:Tag} {l:List k.T}:PF (.rs k l)
 |rm {k k2:Tag} {l:List (k.T×k2.T)}:PF (.rm k k2 l)
 |ep {l:List SV} {off:Nat}:(∀ (j:Nat) (s:SV),l[j]? =some s->PF s)->PF (.ep l off)
 |ls {z:Nat} {l:List SV}:(∀ (j:Nat) (s:SV),l[j]? =some s->PF s)->PF (.ls z l)
 |agg {l:List SV}:(∀ (j:Nat) (s:SV),l[j]? =some s->PF s)->PF (.agg l)
 |tup {l:List SV}:(∀ (j:Nat) (s:SV),l[j]? =some s->PF s)->PF (.tup l)
 |fn {f:FuncId} {l m:List SV}:(∀ (j:Nat) (s:SV),l[j]? =some s->PF s)->(∀ (j:Nat) (s:SV),m[j]? =some s->PF s)->PF (.fn f l m)
theorem um {k:Tag}{x:k.T}{j:Nat}{s:SV}(h:(cellsOf k x)[j]? =some s):PF s:=by
 rcases yz h with⟨y,rfl,_⟩ | ⟨k',l',rfl,_⟩ | ⟨k',k2,l',rfl,_⟩ | ⟨f,rfl,_⟩;exact .v y;exact .rs;exact .rm;exact .fn (λj s E=>by simp at E) (λj s E=>by simp at E)
theorem vO (k:Tag)(x:k.T):PF (svT k x):=by
 unfold svT;cases pP k with
 |true=>exact .agg λj s E=>um E
 |false=>
  simp[iu];cases h:(cellsOf k x)[0]? with
  |none=>exact .any|some s=>exact um h
theorem iH:∀ (n:Nat) (s:SV),dM n s=true->PF s
 |n,.v x,_=>.v x|n,.rs k l,_=>.rs|n,.rm _ _ _,_=>.rm|n,.e0,_=>.e0|n,.rc k l,_=>.rc|n,.any,_=>.any
 |n+1,.ep l _,h=>.ep λj s E=>iH n s (by grind [dM])
 |n+1,.ls _ l,h=>.ls λj s E=>iH n s (by grind [dM])
 |n+1,.agg l,h=>.agg λj s E=>iH n s (by grind [dM])
 |n+1,.tup l,h=>.tup λj s E=>iH n s (by grind [dM])
 |n+1,.fn _ l m,h=>.fn (λj s E=>iH n s (by simp[dM]at h;grind)) (λj s E=>iH n s (by simp[dM]at h;grind))
 |0,.ep _ _,h|0,.ls _ _,h|0,.agg _,h|0,.tup _,h|0,.fn _ _ _,h=>by simp[dM]at h
 |0,.ptr _ _,h|0,.os _,h|0,.rp _ _ _ _,h|0,.gr _ _,h|0,.gp _ _ _ _ _,h|0,.nw _ _,h|0,.nm _ _ _,h|0,.ng _ _,h|0,.gd _ _ _,h|0,.vw _ _ _ _,h=>by simp[dM]at h
 |_+1,.ptr _ _,h|_+1,.os _,h|_+1,.rp _ _ _ _,h|_+1,.gr _ _,h|_+1,.gp _ _ _ _ _,h|_+1,.nw _ _,h|_+1,.nm _ _ _,h|_+1,.ng _ _,h|_+1,.gd _ _ _,h|_+1,.vw _ _ _ _,h=>by simp[dM]at h
section
variable {P:Program}{F F':Nat->Prop}{own ee:Own}{w w':World}{ts:Tis}
variable {v:Value}
theorem Rel.arZ{s:SV}(hr:Rel F own w s v)(O:PF s)(ho:∀ b,¬dA F own b->¬dA F' ee b):Rel F' ee w s v:=by
 induction hr with
 |any v=>exact .any v|v x=>exact .v x|ptr h1 h2=>cases O|os h1 h2=>cases O|e0=>exact .e0|rc _ V=>exact .rc (V .rs)|rp h1 h2 h3=>cases O|gr h1 h2 h3=>cases O|gp h1 h2 h3=>cases O|vw h1 h2 h3=>cases O
 |ep c h1 _ V=>cases O with|ep X=>exact .ep c (λj s E=>⟨ho _ (h1 j s E).1,(h1 j s E).2⟩) λj s E=>V j s E (X j s E)
 |rs c W h0' h1 _ V=>exact .rs c W h0' (λi x hi j s E=>⟨ho _ (h1 i x hi j s E).1,(h1 i x hi j s E).2⟩) λi x hi j s E=>V i x hi j s E (um E)
 |rs0=>exact .rs0
 |ls c hz W h1 _ V=>cases O with|ls X=>exact .ls c hz W (λj s E=>⟨ho _ (h1 j s E).1,(h1 j s E).2⟩) λj s E=>V j s E (X j s E)
 |rm ck cv es clock W h1 h2 h3 _ _ Y ih2=>exact .rm ck cv es clock (ho _ W) h1 h2 h3 (λi x hi=>Y i x hi (vO _ _)) (λi x hi=>ih2 i x hi (vO _ _))
 |rm0=>exact .rm0
 |agg W _ V=>cases O with|agg X=>exact .agg W λj s E=>V j s E (X j s E)
 |tup W _ V=>cases O with|tup X=>exact .tup W λj s E=>V j s E (X j s E)
 |fn W h0' _ _ Y ih2=>cases O with|fn X hq'=>exact .fn W h0' (λj s E=>Y j s E (X j s E)) λj s E=>ih2 j s E (hq' j s E)
theorem rb{s:SV}(h:Rel F dP w s v):PF s:=by
 generalize V:dP=o at h;induction h with
 |any v=>exact .any|v x=>exact .v x|ptr h1 h2=>subst V;cases h1|os h1 h2=>subst V;cases h1|e0=>exact .e0|rc _ _=>exact .rc|rp h1 h2 h3=>subst V;cases h1|gr h1 h2 h3=>subst V;cases h1|gp h1 h2 h3=>subst V;cases h1|vw h1 h2 h3=>subst V;cases h1
 |ep c h1 _ O=>exact .ep λj s E=>O j s E
 |rs c X h0' h1 _ O=>exact .rs|rs0=>exact .rs
 |ls c hz X h1 _ O=>exact .ls λj s E=>O j s E
 |rm ck cv es clock X h1 h2 h3 _ _ W Y=>exact .rm|rm0=>exact .rm
 |agg X _ O=>exact .agg λj s E=>O j s E
 |tup X _ O=>exact .tup λj s E=>O j s E
 |fn X h0' _ _ W Y=>exact .fn (λj s E=>W j s E) λj s E=>Y j s E
theorem rK {α β:Type}{f:α->β}{l:List α}{j:Nat}{s:β}(h:(l.map f)[j]? =some s):∃ x,l[j]? =some x/\f x=s:=by
 simpa using h
theorem pt {b:Nat}(h:¬F b):¬dA F dP b:=by
 rintro (E| ⟨id,hd,e,_⟩);exact h E;cases e
theorem LX {b:Nat}(h:¬dA F own b):¬F b:=λE=>h (.inl E)
theorem Re(X:∀ b,F' b->F b){k:Tag}{l:List k.T}{bs:List Nat}(hr:arY F own w k l v bs)(O:∀ b∈bs,¬F b):Rel F' dP w (.rs k l) v:=by
 rcases hr with⟨a,rfl,rfl,_⟩ | ⟨b,o,cap,cs,ty,rfl,rfl,h3,h4,h5,h6,W⟩;exact .rs0;refine .rs (λi j=>cs.getD (o+i*aa k+j) undef) h5 h6 (λi x hi j s E=>?_) (λi x hi j s E=>?_);have⟨u,e1,e2⟩:=W i x hi j s E;refine⟨pt λV=>O b (by simp) (X _ V),?_⟩;rw[fh h3];simp_all;have⟨u,e1,e2⟩:=W i x hi j s E;have:cs.getD (o+i*aa k+j) undef=u:=by simp_all
 rw[this];exact e2.arZ (um E) λb Y=>pt λV=>Y (.inl (X _ V))
variable {h:List Ob}
theorem WR(hp:Hp F own w h){id sz cap:Nat}{lo hi:Int}{hd:Hd}{a:Option Addr}(h1:own id=some hd)(h2:adU hd.v sz lo hi a)(h3:hi.toNat - lo.toNat<=cap):Rel F dP w (aaA sz lo hi (ap h id)) (.slice a (hi.toNat - lo.toNat) cap):=by
 cases ho:ap h id with
 |row k l=>
  simp[aaA];cases hb:Nat.beq sz (aa k)with
  |false=>exact .any _
  |true=>
   have⟨hd',e0,e⟩:=hp.at ho rfl;rw[h1]at e0;cases e0;have atP:hi.toNat<=lo.toNat->Rel F dP w (.rs k ((l.take hi.toNat).drop lo.toNat)) (.slice a (hi.toNat - lo.toNat) cap):=λhle=>by
    have V:(l.take hi.toNat).drop lo.toNat=[]:=aq2 g6;have e2:hi.toNat - lo.toNat=0:=g5
    rw[V,e2];exact .rs0
   by_cases hle:hi.toNat<=lo.toNat
   grind
   rcases h2 with h2| ⟨b',Y,n',cap',q1,q2,rfl⟩;omega;rcases e with⟨a0,V,rfl,_⟩ | ⟨b,o,cap0,cs,ty,V,e2,e3,e4,e5,e6,e7⟩;grind
   rw[q1]at V;simp only[aqw,aoo,ari]at V;have⟨⟨rfl,rfl,_⟩,rfl,rfl⟩:=V;have W:((l.take hi.toNat).drop lo.toNat).length=hi.toNat - lo.toNat:=g6
   have O:∀ i x,((l.take hi.toNat).drop lo.toNat)[i]? =some x->l[lo.toNat+i]? =some x:=λi x E=>by
    grind
   have hix:∀ i j,b'.succ=b'.succ->Y+lo.toNat*aa k+i*aa k+j=Y+(lo.toNat+i)*aa k+j:=λi j _=>g6
   rw[<-W];refine .rs (λi j=>cs.getD (Y+lo.toNat*aa k+i*aa k+j) undef) g5 g5 (λi x E j s X=>?_) (λi x E j s X=>?_);have⟨u,m1,m2⟩:=e7 _ x (O i x E) j s X;refine⟨pt λhf=>hp.apart id hd b' h1 (by rw[e2];simp) hf,?_⟩;rw[fh e3,hix i j rfl];simp_all;have⟨u,m1,m2⟩:=e7 _ x (O i x E) j s X;have:cs.getD (Y+lo.toNat*aa k+i*aa k+j) undef=u:=by simp_all
   rw[this];exact m2.arZ (um X) λb hb=>pt λhf=>hb (.inl hf)
 |_=>exact .any _
theorem Ol (k:Tag)(l:List (List k.T)):(∃ (k':Tag) (l':List k'.T),NJ k l=.rs k' l'/\l'.length=l.length/\aa k'=1/\∀ (i:Nat) (x:k'.T),l'[i]? =some x->cellsOf k' x=[.rs k (l.getD i [])])\/NJ k l=.any:=by
 cases k <;>first|exact .inr rfl|(left;exact⟨_,_,rfl,rfl,rfl,λi x E=>by simp[E,cellsOf]⟩)
theorem aaP(E:Hp F own w h){id:Nat}(hr:Rel F own w (.os id) v):Rel F dP w (frz (ap h id)) v:=by
 obtain⟨hd,h1,rfl,h2⟩:=jz hr;cases ho:ap h id with
 |row k l=>
  have⟨hd',e0,e⟩:=E.at ho rfl;rw[h1]at e0;cases e0;exact Re (λ_ h=>h) e λb W=>E.apart id hd b h1 W
 |fz k l=>
  have⟨hd',e0,e⟩:=E.at ho rfl;rw[h1]at e0;cases e0;exact Rel.arZ e .rs λb W=>pt (LX W)
 |mp kk vk l O=>
  show Rel F dP w (bif noE O then .rm kk vk l else .any) hd.v;cases hq:noE O with
  |false=>exact .any _
  |true=>
   have⟨hd',e0,b,es,clk,m1,m2,m3,m4,_⟩:=E.at ho rfl;rw[lJ hq]at m4;rw[h1]at e0;cases e0;rw[m1];have hnb:¬dA F dP b:=pt (E.apart id hd b h1 (by simp[m2]));have hg:∀ i,es[i]? =some ⟨(es.getD i default).key,(es.getD i default).val,(es.getD i default).born⟩\/es.size<=i:=λi=>by
    rcases apv i es.size with hlt|hge <;>simp_all
   refine .rm (λi=>(es.getD i default).key) (λi=>(es.getD i default).val) es clk hnb m3 m4.1 (λi x hi=>?_) (λi x hi=>?_) (λi x hi=>?_);have⟨e,X,e2,e3,Y⟩:=m4.2 i x hi;grind
   have⟨e,X,e2,e3,Y⟩:=m4.2 i x hi;have:es.getD i default=e:=by simp_all
   rw[this];exact e3.arZ (vO _ _) λb W=>pt (LX W);have⟨e,X,e2,e3,Y⟩:=m4.2 i x hi;have:es.getD i default=e:=by simp_all
   rw[this];exact Y.arZ (vO _ _) λb W=>pt (LX W)
 |ar2 k l=>
  have⟨hd',e0,e⟩:=E.at ho rfl;rw[h1]at e0;cases e0;show Rel F dP w (NJ k l) hd.v;rcases Ol k l with⟨k',l',q1,q2,q3,q4⟩ |q;rw[q1];rcases e with⟨X,rfl,_⟩ | ⟨b,o,cap,cs,ty,bs,X,e2,e3,Y,e5,e6,e7,e8,e9⟩;have:l'=[]:=aoE g5;rw[this,X];exact .rs0;rw[X,<-q2];have hvl:=e9.len;refine .rs (λi j=>hd.vs.getD i undef) g5 g5 (λi x hi j s V=>?_) (λi x hi j s V=>?_);rw[q4 i x hi]at V;cases j with
  |succ j=>simp at V
  |zero=>
   refine⟨pt (E.apart id hd b h1 (by simp[e2])),?_⟩;rw[q3,fh Y];grind
  have hil:i<hd.vs.length:=g6
  rw[q4 i x hi]at V;cases j with
  |succ j=>simp at V
  |zero=>
   simp at V;subst V;have⟨b1,k1,k2,k3,k4⟩:=e9.get (uk (d:=undef) hil);exact Re (λ_ h=>h) k3 λc hc=>E.apart id hd c h1 g6
  rw[q];exact .any _
 |_=>exact .any _
theorem asb.ep {k:Tag}{l:List k.T}{o b:Nat}{cs:Array Value}{ty:TypeId}(W:w.heap[b]? =some (.cells cs ty (0,0)))(V:asb F own w k l o cs)(O:¬F b){i:Nat}(hi:i<l.length)(off:Nat):Rel F dP w (.ep (cellsOf k (l.getD i (fg k))) off) (.pointer (some ⟨b,o+i*aa k+off,none⟩)):=by
 refine .ep (λj=>cs.getD (o+i*aa k+j) undef) (λj s E=>?_) (λj s E=>?_);have⟨e1,e2⟩:=V.get hi E;grind [pt,fh]
 have⟨e1,e2⟩:=V.get hi E;exact e2.arZ (um E) λb O=>pt (LX O)
theorem BO(X:Hp F own w h):∀ (n:Nat) (s:SV) (v:Value),Rel F own w s v->Rel F dP w (jq h n s) v:=by
 have qQ:∀ (n:Nat) (s:SV) (v:Value),Rel F own w s v->(∀ l o,s≠ .ep l o)->(∀ z l,s≠ .ls z l)->(∀ l,s≠ .agg l)->(∀ l,s≠ .tup l)->(∀ f l m,s≠ .fn f l m)->(∀ i o,s≠ .ptr i o)->Rel F dP w (jq h n s) v:=by
  intro n s v hr n1 n2 n3 n4 n5 n6;cases hr with
  |any=>cases n <;>exact .any _|v x=>cases n <;>exact .v _|ptr=>grind|os h1 h2=>cases n <;>exact aaP X (.os h1 h2)|vw h1 h2 h3=>cases n <;>exact WR X h1 h2 h3|e0=>cases n <;>exact .e0
  |rc W=>cases n <;>exact W.arZ .rs λb Y=>pt (LX Y)
  |rp h1 h2 h3=>
   rename_i E id off nn cap b o i hd;have key:Rel F dP w (bif Nat.beq E 0 then .any else aaz E off i (ap h id)) (.pointer (some ⟨b,o+i.toNat*E+off,none⟩)):=by
    cases hz:Nat.beq E 0 with
    |true=>exact .any _
    |false=>
     cases ho:ap h id with
     |row k l=>
      simp[aaz];cases Y:Nat.beq E (aa k)with
      |false=>exact .any _
      |true=>
       have hsz:=aok Y;have⟨hd',e0,e⟩:=X.at ho rfl;rw[h1]at e0;cases e0;rcases e with⟨a,O,_⟩ | ⟨b',o',cap',cs,ty,O,e2,e3,e4,e5,e6,e7⟩;grind
       rw[h2]at O;obtain⟨⟨rfl,rfl,_⟩,rfl,rfl⟩:=O;rw[hsz];exact asb.ep e3 e7 (X.apart id hd b h1 (by simp[e2])) h3 off
     |_=>exact .any _
   cases n <;>exact key
  |gr h1 h2 h3=>
   rename_i id i hd;have key:Rel F dP w (Wv i (ap h id)) v:=by
    cases ho:ap h id with
    |ar2 k l=>
     have⟨hd',e0,e⟩:=X.at ho rfl;rw[h1]at e0;cases e0;rcases e with⟨_,_,O,_⟩ | ⟨b,o,cap,cs,ty,bs,O,e2,e3,e4,e5,e6,e7,e8,e9⟩;grind
     have⟨b1,k1,k2,k3,k4⟩:=e9.get h2;exact Re (λ_ h=>h) k3 λc hc=>X.apart id hd c h1 g6
    |_=>exact .any _
   cases n <;>exact key
  |gp h1 h2 h3=>
   rename_i E id off nn cap b o i j hd;have key:Rel F dP w (bif Nat.beq E 0 then .any else S0 E off i j (ap h id)) (.pointer (some ⟨b,o+j.toNat*E+off,none⟩)):=by
    cases hz:Nat.beq E 0 with
    |true=>exact .any _
    |false=>
     cases ho:ap h id with
     |ar2 k l=>
      simp[S0];cases Y:Nat.beq E (aa k)with
      |false=>exact .any _
      |true=>
       have hsz:=aok Y;have⟨hd',e0,e⟩:=X.at ho rfl;rw[h1]at e0;cases e0;rcases e with⟨_,_,O,_⟩ | ⟨b',o',cap',cs,ty,bs,O,e2,e3,e4,e5,e6,e7,e8,e9⟩;grind
       have⟨b1,k1,k2,k3,k4⟩:=e9.get h2;rcases k3 with⟨a,m1,_⟩ | ⟨b2,o2,cap2,cs2,ty2,m1,m2,m3,m4,m5,m6,m7⟩;grind
       obtain⟨⟨rfl,rfl,_⟩,rfl,rfl⟩:=m1;rw[hsz];exact asb.ep m3 m7 (X.apart id hd b h1 g6) h3 off
     |_=>exact .any _
   cases n <;>exact key
  |ep=>grind
  |rs c W h0' h1 h2=>cases n <;>exact Rel.arZ (.rs c W h0' h1 h2) .rs λb Y=>pt (LX Y)
  |rs0=>cases n <;>exact .rs0|ls=>grind
  |rm ck cv es clock W h1 h2 h3 h4 h5=>cases n <;>exact Rel.arZ (.rm ck cv es clock W h1 h2 h3 h4 h5) .rm λb Y=>pt (LX Y)
  |rm0=>cases n <;>exact .rm0|agg=>grind|tup=>grind|fn=>grind
 intro n;induction n with
 |zero=>
  intro s v hr;cases s <;>first|exact .any _|(refine qQ 0 _ _ hr ?_ ?_ ?_ ?_ ?_ ?_ <;>intros <;>(intro e;cases e)) |cases hr
 |succ n ih=>
  intro s v hr;cases s with
  |ptr id off=>
   cases hr with
   |ptr h1 h2=>
    rename_i b hd;simp[jq];cases ho:ap h id with
    |cells l=>
     simp[Uo];have⟨hd',e0,b',cs,ty,O,e2,e3,e4,e5⟩:=X.at ho rfl;rw[h1]at e0;cases e0;rw[h2]at O;cases O;have:=Rel.ep (F:=F) (own:=dP) (w:=w) (cells:=l.map (jq h n)) (off:=off) (b:=b) (o:=0) (λj=>cs.getD j undef)
      (λj s V=>by
       refine⟨pt (X.apart _ _ b h1 (by simp[e2])),?_⟩;have hjl:j<cs.size:=g6
       rw[fh e3];simp[hjl])
      (λj s V=>by
       grind)
     grind
    |_=>exact .any _
  |ep l o=>
   cases hr with
   |ep c h1 h2=>
    exact .ep c (λj s V=>by grind [pt,LX]) (λj s V=>g6)
  |ls z l=>
   cases hr with
   |ls c hz W h1 h2=>
    simp[jq];have:=Rel.ls (F:=F) (own:=dP) (w:=w) (z:=z) (l:=l.map (jq h n)) c (by simpa using hz) W (λj s V=>by obtain⟨x,hx,rfl⟩:=rK V;exact⟨pt (LX (h1 j x hx).1),(h1 j x hx).2⟩) (λj s V=>g6);grind
  |agg l=>cases hr with|agg W h1=>exact .agg g6 λj s V=>g6
  |tup l=>cases hr with|tup W h1=>exact .tup g6 λj s V=>g6
  |fn f l m=>cases hr with|fn W h0' h1 h2=>exact .fn g6 g6 (λj s V=>g6) λj s V=>g6
  |_=>first|(refine qQ (n+1) _ _ hr ?_ ?_ ?_ ?_ ?_ ?_ <;>intros <;>(intro e;cases e)) |cases hr
theorem WS:∀ (n:Nat) (s:SV) (v:Value),PF s->Rel F own w s v->Rel (dA F own) dP w (jq h n s) v:=by
 have E:∀ b,¬dA F own b->¬dA (dA F own) dP b:=λb hb=>pt hb;intro n;induction n with
 |zero=>
  intro s v W hr;cases W with
  |any=>exact .any _|v x=>exact hr.arZ (.v x) E|e0=>exact hr.arZ .e0 E
  |rc=>cases hr with|rc V=>exact V.arZ .rs E
  |rs=>exact hr.arZ .rs E|rm=>exact hr.arZ .rm E|_=>exact .any _
 |succ n ih=>
  intro s v W hr;cases W with
  |any=>exact .any _|v x=>exact hr.arZ (.v x) E|e0=>exact hr.arZ .e0 E
  |rc=>cases hr with|rc V=>exact V.arZ .rs E
  |rs=>exact hr.arZ .rs E|rm=>exact hr.arZ .rm E
  |ep X=>
   cases hr with
   |ep c h1 h2=>
    exact .ep c (λj s O=>g6) (λj s O=>g6)
  |ls X=>
   cases hr with
   |ls c hz V h1 h2=>
    simp[jq];rename_i z l m b o cap;have:=Rel.ls (F:=dA F own) (own:=dP) (w:=w) (z:=z) (l:=l.map (jq h n)) c (by simpa using hz) V (λj s O=>by obtain⟨x,Y,rfl⟩:=rK O;exact⟨E _ (h1 j x Y).1,(h1 j x Y).2⟩) (λj s O=>g6);grind
  |agg X=>cases hr with|agg V h1=>exact .agg g6 λj s O=>g6
  |tup X=>cases hr with|tup V h1=>exact .tup g6 λj s O=>g6
  |fn X hq'=>cases hr with|fn V h0' h1 h2=>exact .fn g6 g6 (λj s O=>g6) λj s O=>g6
def cnt (n:Nat):List SV->Nat
 | [] =>0|x::r=>(aZ n x).length+cnt n r
def yF (F:Nat->Prop)(own:Own)(w:World):Nat->Nat->SV->Value->Prop
 |_,b,.nw _ _,v=>∃ hd,own b=some hd/\v=hd.v/\qZ v=true|_,b,.nm _ _ _,v=>∃ hd,own b=some hd/\v=hd.v/\qZ v=true|_,b,.ng _ _,v=>∃ hd,own b=some hd/\v=hd.v/\qZ v=true|n+1,b,.agg l,v=>∃ vs,v=.agg vs/\vs.size=l.length/\∀ (j:Nat) (s:SV),l[j]? =some s->yF F own w n (b+cnt n (l.take j)) s (vs.getD j undef)|n+1,b,.tup l,v=>∃ vs,v=.tuple vs/\vs.size=l.length/\∀ (j:Nat) (s:SV),l[j]? =some s->yF F own w n (b+cnt n (l.take j)) s (vs.getD j undef)|_,_,s,v=>Rel (dA F own) dP w s v
theorem AM (f:Nat->SV->SV)(n:Nat):∀ (l:List SV) (b j:Nat) (s:SV),(ui f (λs=>(aZ n s).length) b l)[j]? =some s->∃ x,l[j]? =some x/\s=f (b+cnt n (l.take j)) x
 | [],b,j,s,h=>by simp[ui]at h
 |x::r,b,0,s,h=>by grind [ui,cnt]
 |x::r,b,j+1,s,h=>by
  have⟨y,h1,h2⟩:=AM f n r _ j s h;grind [cnt]
theorem AN (f:Nat->SV->SV)(c:SV->Nat):∀ (l:List SV) (b:Nat),(ui f c b l).length=l.length
 | [],b=>rfl
 |x::r,b=>by simp[ui,AN f c r]
theorem Kg:∀ (n:Nat) (s:SV) (v:Value),kf n s=true->(∀ k l,s≠ .nw k l)->(∀ k k2 l,s≠ .nm k k2 l)->(∀ k l,s≠ .ng k l)->(∀ l,s≠ .agg l)->(∀ l,s≠ .tup l)->Rel F own w s v->Rel F' ee w' s v:=by
 intro n s v h E W O X V hr;cases s with
 |v x=>cases hr;exact .v _|nw k l=>grind|nm k k2 l=>grind|ng k l=>grind|agg l=>grind|tup l=>grind|_=>cases n <;>simp[kf]at h
theorem Gx {X2:Own}{m:Nat}(O:∀ id hd,ee id=some hd->X2 (id+m)=some hd):∀ (n b:Nat) (s:SV) (v:Value),yF F ee w n b s v->
  ((∀ c,¬dA (dA F ee) dP c->¬dA F' X2 c)\/kf n s=true)->Rel F' X2 w (j_ n (b+m) s) v:=by
 intro n;induction n with
 |zero=>
  intro b s v h hc;cases s with
  |nw k l=>obtain⟨hd,h1,rfl,E⟩:=h;exact .os (O _ _ h1) E
  |nm k k2 l=>obtain⟨hd,h1,rfl,E⟩:=h;exact .os (O _ _ h1) E
  |ng k l=>obtain⟨hd,h1,rfl,E⟩:=h;exact .os (O _ _ h1) E
  |agg l=>
   have hr:Rel (dA F ee) dP w (.agg l) v:=h;rcases hc with hc|hc;exact hr.arZ (rb hr) hc;simp[kf]at hc
  |tup l=>
   have hr:Rel (dA F ee) dP w (.tup l) v:=h;rcases hc with hc|hc;exact hr.arZ (rb hr) hc;simp[kf]at hc
  |_=>
   have hr:Rel (dA F ee) dP w _ v:=h;rcases hc with hc|hc;exact hr.arZ (rb hr) hc;exact Kg _ _ _ hc (by intros;intro e;cases e) (by intros;intro e;cases e) (by intros;intro e;cases e) (by intros;intro e;cases e) (by intros;intro e;cases e) hr
 |succ n X=>
  intro b s v h hc;cases s with
  |nw k l=>obtain⟨hd,h1,rfl,E⟩:=h;exact .os (O _ _ h1) E
  |nm k k2 l=>obtain⟨hd,h1,rfl,E⟩:=h;exact .os (O _ _ h1) E
  |ng k l=>obtain⟨hd,h1,rfl,E⟩:=h;exact .os (O _ _ h1) E
  |agg l=>
   obtain⟨vs,rfl,h1,h2⟩:=h;refine .agg (by grind [AN]) λj s V=>?_;obtain⟨x,W,rfl⟩:=AM _ n l _ j s V;grind [kf]
  |tup l=>
   obtain⟨vs,rfl,h1,h2⟩:=h;refine .tup (by grind [AN]) λj s V=>?_;obtain⟨x,W,rfl⟩:=AM _ n l _ j s V;grind [kf]
  |_=>
   have hr:Rel (dA F ee) dP w _ v:=h;rcases hc with hc|hc;exact hr.arZ (rb hr) hc;exact Kg _ _ _ hc (by intros;intro e;cases e) (by intros;intro e;cases e) (by intros;intro e;cases e) (by intros;intro e;cases e) (by intros;intro e;cases e) hr
theorem Gy:∀ (n:Nat) {s:SV} {v:Value},Rel F own w s v->aZ n s=[]
 |0,s,v,h=>by cases h <;>rfl
 |n+1,s,v,h=>by
  cases h <;>first|rfl|skip
  rename_i l vs O h1;simp[aZ,ap2];intro x E;have⟨j,hj⟩:=ao9 E;exact Gy n (h1 j x hj);rename_i l vs O h1;simp[aZ,ap2];intro x E;have⟨j,hj⟩:=ao9 E;exact Gy n (h1 j x hj)
theorem WT:∀ (n b:Nat) {s:SV} {v:Value},Rel F dP w s v->yF F dP w n b s v:=by
 have V:∀ c,¬dA F dP c->¬dA (dA F dP) dP c:=λc hc=>pt hc;intro n;induction n with
 |zero=>intro b s v h;have:=h.arZ (rb h) V;cases s <;>first|exact this|cases h
 |succ n W=>
  intro b s v h;have:=h.arZ (rb h) V;cases s with
  |agg l=>cases h with|agg O h1=>exact⟨_,rfl,O,λj s E=>W _ (h1 j s E)⟩
  |tup l=>cases h with|tup O h1=>exact⟨_,rfl,O,λj s E=>W _ (h1 j s E)⟩
  |nw=>cases h|nm=>cases h|ng=>cases h|gd=>cases h|_=>exact this
end
def an:Con->Prop
 | .det p _=>p| .rel _ p _ _=>p| .may _ _ _=>True
def eA:Con->SV->Prop
 | .det _ s,s'=>s'=s| .rel _ _ post out,s'=>∃ r,post r/\s'=out r| .may ok s _,s'=>ok=true/\s'=s
def lK:Con->Value->Prop
 | .may ok _ x,x'=>ok=false/\x'=x|_,_=>False
section
variable {P:Program}{F F':Nat->Prop}{own ee:Own}{w w':World}{ts:Tis}
structure Handed (F:Nat->Prop)(w:World)(ee:Own)(w':World)(s:SV)(u:Value):Prop where
 hp:Hp F ee w' (aZ 3 s)
 val:yF F ee w' 3 0 s u
 fresh:∀ (id:Nat) (hd:Hd) (b:Nat),ee id=some hd->b∈hd.bs->w.heap.size<=b
structure X1 (P:Program)(f:FuncId)(C:m0):Prop where
 enter:∀ l c,C l=some c->∀ (args:Array Value) (w:World),(callFunc f args).run P w=.ok (.enter f args) w
 calls:∀ l c,C l=some c->an c->∀ (F:Nat->Prop) (w:World) (vs:Array Value),(∀ b,F b->b<w.heap.size)->ar7 F dP w l vs->
  Calls P f vs w (λe w'=>(∃ s u ee,eA c s/\e=.returned u/\Handed F w ee w' s u/\Below w.heap.size w w')\/(∃ x,lK c x/\e=.panicked [{ v:=x,recovered:=false}]/\Below w.heap.size w w'))
def LY (F:Nat->Prop)(w:World)(own:Own)(n:Nat)(e:Ending)(ee:Own)(w':World):Rs->Prop
 | .ret s h=>(∃ u,e=.returned u/\Rel F ee w' s u)/\Hp F ee w' h/\Fr { w:=w,own:=own} ee w'/\n<=h.length| .pan x h=>e=.panicked [{ v:=x,recovered:=false}]/\Hp F ee w' h/\Fr { w:=w,own:=own} ee w'/\n<=h.length
structure arT (P:Program)(f:FuncId)(C:List SV->List Ob->Option arV):Prop where
 enter:∀ l h c,C l h=some c->∀ (args:Array Value) (w:World),(callFunc f args).run P w=.ok (.enter f args) w
 calls:∀ l h c,C l h=some c->c.pre->∀ (F:Nat->Prop) (own:Own) (w:World) (vs:Array Value),Hp F own w h->ar7 F own w l vs->
  Calls P f vs w (λe w'=>∃ r ee,c.post r/\LY F w own h.length e ee w' (c.res r))
abbrev rd (r:Option Nat):Fence:= { fn:=λ_=>True,depth:=none,alive:=false,round:=r}
def acC (P:Program)(v:Value)(vs:Array Value)(w:World)(R:Ending->World->Prop):Prop:=
 (∃ f args,(UO v vs).run P w=.ok (.enter f args) w/\Calls P f args w R)\/(∃ l f tmps as bd,(UO v vs).run P w=.ok (.round l f tmps as bd) w/\RoundIn (rd none) 0 P l f tmps as bd w R)
structure YFr (bs bs':List Nat)(w w':World):Prop where
 os:w'.os=w.os
 tape:w'.tape=w.tape
 output:w'.output=w.output
 size:w.heap.size<=w'.heap.size
 block:∀ b,b<w.heap.size->b ∉ bs->w'.heap[b]? =w.heap[b]?
 bs:∀ b∈bs',b<w'.heap.size/\(b∈bs\/w.heap.size<=b)
def YOk (P:Program)(C:List SV->Res->Option as9):Prop:=
 ∀ l r c,C l r=some c->c.pre->∀ (F:Nat->Prop) (bs:List Nat) (w:World) (vs:Array Value),r.R F bs w->(∀ b,F b->b<w.heap.size)->(∀ b∈bs,b<w.heap.size/\¬F b)->ar7 (λb=>F b\/b∈bs) dP w l vs->
  acC P r.yv vs w (λe w'=>∃ a bs',c.post a/\e=.returned (.bool (c.res a).1)/\(c.res a).2.R F bs' w'/\(c.res a).2.yv=r.yv/\YFr bs bs' w w')
structure arD (P:Program)(G:Cons):Prop where
 p:∀ f,X1 P f (G.p f)
 o:∀ f,arT P f (G.o f)
 y:YOk P G.y
variable {r:Option Nat}{n:Nat}{f:FuncId}{R:Ending->World->Prop}
def oC{P:Program}{a:Array Value}{w:World}(h:Calls P f a w R):CallsIn (rd r) n P f a w R:=(callsIn_wide (n:=n)).2 h
def un{P:Program}{a:Array Value}{w:World}(h:CallsIn (rd none) n P f a w R):Calls P f a w R:=(callsIn_wide (n:=n)).1 h
theorem Om{P:Program}{l:Nat}{tmps:Array Value}{E O:Code}{w:World}(h:RoundIn (rd none) 0 P l f tmps E O w R):RoundIn (rd r) n P l f tmps E O w R:=
 ⟨trivial,λc cs hr=>h.2 c cs (by simp[Fence.room])⟩
variable {k:Tag}{x:k.T}{j:Nat}
theorem LZ(E:arM k=0){s:SV}(h:(cellsOf k x)[j]? =some s):∃ y,s=.v y:=by
 grind [yz]
theorem Kh(E:arM k=0){v:Value}(h:Rel F own w (svT k x) v):Rel F' ee w' (svT k x) v:=by
 unfold svT at h |-;cases V:pP k with
 |true=>
  rw[V]at h;obtain⟨vs,rfl,h1⟩:=vr h;exact .agg h1.1 λj s O=>by
   obtain⟨y,rfl⟩:=LZ E O;have:=c8 (h1.2 j _ O);rw[this];exact .v y
 |false=>
  rw[V]at h;simp[iu]at h |-;cases hc:(cellsOf k x)[0]? with
  |none=>exact .any _
  |some s=>
   rw[hc]at h;obtain⟨y,rfl⟩:=LZ E hc;have:=c8 h;rw[this];exact .v y
variable {l:List k.T}
theorem asb.arZ{o:Nat}{cs:Array Value}(h:asb F own w k l o cs)(hc:(∀ b,¬dA F own b->¬dA F' ee b)\/arM k=0):asb F' ee w k l o cs:=λi x hi j s E=>by
 have⟨u,h1,h2⟩:=h i x hi j s E;refine⟨u,h1,?_⟩;rcases hc with hc|hk;exact h2.arZ (um E) hc;obtain⟨y,rfl⟩:=LZ hk E;have:=c8 h2;rw[this];exact .v y
theorem arY.arZ{v:Value}{bs:List Nat}(h:arY F own w k l v bs)(hc:(∀ b,¬dA F own b->¬dA F' ee b)\/arM k=0):arY F' ee w k l v bs:=by
 rcases h with h| ⟨b,o,cap,cs,ty,h1,h2,V,E,W,X,O⟩;exact .inl h;exact .inr ⟨b,o,cap,cs,ty,h1,h2,V,E,W,X,O.arZ hc⟩
theorem ar1.arZ(hc:(∀ b,¬dA F own b->¬dA F' ee b)\/arM k=0):∀ {l:List (List k.T)} {vs:List Value} {bs:List Nat},ar1 F own w k l vs bs->ar1 F' ee w k l vs bs
 | [],[],bs,h=>h|l::X,v::vs,bs,⟨V,E,h1,W,h2,O⟩ =>⟨V,E,h1,W,h2.arZ hc,O.arZ hc⟩| [],_::_,_,h=>h.elim|_::_,[],_,h=>h.elim
def Plain (o:Ob):Prop:=(∃ (k:Tag) (l:List k.T),o=.row k l)\/(∃ (k k2:Tag) (l:List (k.T×k2.T)),o=.mp k k2 l none)\/∃ (k:Tag) (l:List (List k.T)),o=.ar2 k l
def acD (o:Ob):Prop:=match o with
 | .row k _=>arM k=0| .mp k k2 _ _=>arM k=0/\arM k2=0| .ar2 k _=>arM k=0|_=>False
theorem ash.arZ {hd:Hd}{o:Ob}(ho:Plain o)(h:ash F own w hd o)(hc:(∀ b,¬dA F own b->¬dA F' ee b)\/acD o):ash F' ee w hd o:=by
 rcases ho with⟨k,l,rfl⟩ | ⟨k,k2,l,rfl⟩ | ⟨k,l,rfl⟩;exact arY.arZ h hc;have⟨b,es,clk,h1,h2,O,E,V,W⟩:=h;refine⟨b,es,clk,h1,h2,O,⟨E.1,λi x hi=>?_⟩,V,trivial⟩;have⟨e,e1,e2,e3,e4⟩:=E.2 i x hi;refine⟨e,e1,e2,?_,?_⟩;rcases hc with hc|hk;exact e3.arZ (vO _ _) hc;exact Kh hk.1 e3;rcases hc with hc|hk;exact e4.arZ (vO _ _) hc;exact Kh hk.2 e4;rcases h with h| ⟨b,o,cap,cs,ty,bs,h1,h2,O,E,V,W,X,h8,Y⟩;exact .inl h;exact .inr ⟨b,o,cap,cs,ty,bs,h1,h2,O,E,V,W,X,h8,Y.arZ hc⟩
theorem AO:∀ (n:Nat) (s:SV) (o:Ob),o∈aZ n s->Plain o/\(kf n s=true->acD o):=by
 intro n;induction n with
 |zero=>
  intro s o h;cases s <;>simp[aZ]at h <;>subst h;exact⟨.inl ⟨_,_,rfl⟩,λE=>aok E⟩;exact⟨.inr (.inl ⟨_,_,_,rfl⟩),λE=>by simp only[kf,aoj]at E;exact⟨aok E.1,aok E.2⟩⟩;exact⟨.inr (.inr ⟨_,_,rfl⟩),λE=>aok E⟩
 |succ n O=>
  intro s o h;cases s with
  |nw k l=>simp[aZ]at h;subst h;exact⟨.inl ⟨_,_,rfl⟩,λE=>aok E⟩
  |nm k k2 l=>simp[aZ]at h;subst h;exact⟨.inr (.inl ⟨_,_,_,rfl⟩),λE=>by simp only[kf,aoj]at E;exact⟨aok E.1,aok E.2⟩⟩
  |ng k l=>simp[aZ]at h;subst h;exact⟨.inr (.inr ⟨_,_,rfl⟩),λE=>aok E⟩
  |agg l=>
   grind [aZ,kf]
  |tup l=>
   grind [aZ,kf]
  |_=>simp[aZ]at h
variable {h:List Ob}
theorem On{id:Nat}(hd:d_ (ap h id)=false):ap h id∈h:=by
 grind [wY,d_]
theorem tW {α:Type}:∀ {l:List α} {i j:Nat} {x:α},l.Nodup->l[i]? =some x->l[j]? =some x->i=j
 | [],i,j,x,_,h,_=>by simp at h
 |a::r,0,0,x,_,_,_=>rfl
 |a::r,0,j+1,x,hn,h1,h2=>by
  grind
 |a::r,i+1,0,x,hn,h1,h2=>by
  grind
 |a::r,i+1,j+1,x,hn,h1,h2=>by
  rw[ao2]at hn;rw[tW hn.2 h1 h2]
theorem Ki(hp:Hp F own w h){s:SV}{u:Value}{F1:Nat->Prop}(hF1:(∀ b,F1 b↔dA F own b)\/((∀ b,F1 b↔F b)/\kf 3 s=true))(hb:Below w.heap.size w w')(hh:Handed F1 w ee w' s u):
  ∃ X2,Hp F X2 w' (h++aZ 3 s)/\Fr { w:=w,own:=own} X2 w'/\Rel F X2 w' (j_ 3 h.length s) u/\∀ id,id<h.length->X2 id=own id:=by
 have hFF:∀ b,F b->F1 b:=λb hf=>by
  rcases hF1 with h1| ⟨h1,_⟩;exact(h1 b).2 (.inl hf);exact(h1 b).2 hf
 let X2:Own:=λid=>if id<h.length then own id else ee (id - h.length)
 have o1:∀ id hd,X2 id=some hd->(id<h.length/\own id=some hd)\/(h.length<=id/\ee (id - h.length)=some hd):=λid hd e=>by
  simp[X2]at e;split at e
  rename_i hlt;exact .inl ⟨hlt,e⟩;exact .inr ⟨g5,e⟩
 have o2:∀ id hd,own id=some hd->X2 id=some hd:=λid hd e=>by
  simp[X2];rw[if_pos (hp.dom id hd e)];exact e
 have o3:∀ id hd,ee id=some hd->X2 (id+h.length)=some hd:=λid hd e=>by
  simp only[X2];rw[if_neg g5,aqL];exact e
 have fr:Fr { w:=w,own:=own} X2 w':=Fr.asH (λid hd e=>⟨hd,o2 id hd e,.refl _⟩) (λid hd b e E=>by
   rcases o1 id hd e with⟨_,e⟩ | ⟨_,e⟩;exact .inl ⟨id,hd,e,E⟩;exact .inr (hh.fresh _ hd b e E)) (λb hbl _=>hb.block b hbl) hb.size hb.os hb.tape hb.output
 have g:aso F own w X2 w':=fr.asx;have W:(∀ b,¬dA F1 ee b->¬dA F X2 b)\/kf 3 s=true:=by
  rcases hF1 with h1| ⟨_,h2⟩;left;rintro b hn (hf| ⟨id,hd,e,E⟩);exact hn (.inl (hFF b hf));rcases o1 id hd e with⟨_,e⟩ | ⟨_,e⟩;exact hn (.inl ((h1 b).2 (.inr ⟨id,hd,e,E⟩)));exact hn (.inr ⟨_,hd,e,E⟩);exact .inr h2
 refine⟨X2,⟨λid hd e=>?_,λb hf=>aoy (hp.arN b hf) hb.size,λid hd b e E=>?_,λi j hi hj b V X hb1 Y=>?_,λid hd b e E=>?_,λid O=>?_⟩,fr,?_,λid hlt=>by simp only[X2];rw[if_pos hlt]⟩;rcases o1 id hd e with⟨hlt,_⟩ | ⟨hge,e⟩;rw[aoq];omega;have:=hh.hp.dom _ hd e;rw[aoq];omega;rcases o1 id hd e with⟨_,e⟩ | ⟨_,e⟩;exact hp.apart id hd b e E;exact λhf=>hh.hp.apart _ hd b e E (hFF b hf);rcases o1 i hi V with⟨l1,V⟩ | ⟨l1,V⟩ <;>rcases o1 j hj X with⟨l2,X⟩ | ⟨l2,X⟩;exact hp.inj i j hi hj b V X hb1 Y;have:=hp.lt i hi b V hb1;have:=hh.fresh _ hj b X Y;omega;have:=hp.lt j hj b X Y;have:=hh.fresh _ hi b V hb1;omega;have:=hh.hp.inj _ _ hi hj b V X hb1 Y;omega;rcases o1 id hd e with⟨_,e⟩ | ⟨_,e⟩;exact aoy (hp.lt id hd b e E) hb.size;exact hh.hp.lt _ hd b e E;rw[uj]at O |-;by_cases hlt:id<h.length
 rw[if_pos hlt]at O |-;have⟨hd,V,X⟩:=hp.obs id O;exact⟨hd,o2 id hd V,X.carry g.asr hb.size λb E=>hb.block b (hp.lt id hd b V E)⟩;rw[if_neg hlt]at O |-;have⟨hd,V,X⟩:=hh.hp.obs _ O;have⟨q1,q2⟩:=AO 3 s _ (On O);have e3:=o3 _ hd V;rw[Nat.sub_add_cancel g5]at e3;exact⟨hd,e3,X.arZ q1 (W.imp (λh=>h) q2)⟩;have:=Gx (F':=F) (X2:=X2) (m:=h.length) o3 3 0 s u hh.val (W.imp (λhk c hc=>hk c λho=>hc (.inl ho)) id)
 rwa[aou]at this
variable {G:Cons}
theorem Fz(hG:arD P G)(O:Hp F own w h){args:List SV}{vs:Array Value}(hr:ar7 F own w args vs){c:Con}(hc:G.p f (args.map (jq h 6))=some c)(E:an c)
  (X:args.all (dM 3)=true\/∀ s,eA c s->kf 3 s=true):
  (callFunc f vs).run P w=.ok (.enter f vs) w/\Calls P f vs w (λe w'=>(∃ s u X2,eA c s/\e=.returned u/\Hp F X2 w' (h++aZ 3 s)/\Fr { w:=w,own:=own} X2 w'/\Rel F X2 w' (j_ 3 h.length s) u/\Below w.heap.size w w'/\∀ id,id<h.length->X2 id=own id)\/(∃ x,lK c x/\e=.panicked [{ v:=x,recovered:=false}]/\Below w.heap.size w w')):=by
 refine⟨(hG.p f).enter _ c hc vs w,?_⟩;rcases X with W|hsc;have hpf:∀ (j:Nat) (s:SV),args[j]? =some s->PF s:=λj s V=>by
  rw[ao4]at W;exact iH 3 s (W s (aoB V))
 refine((hG.p f).calls _ c hc E (dA F own) w vs (λb hb=>?_) ⟨by simpa using hr.1,λj s V=>?_⟩).mono ?_;rcases hb with hf| ⟨id,hd,e,hbb⟩;exact O.arN b hf;exact O.lt id hd b e hbb;obtain⟨x,Y,rfl⟩:=rK V;exact WS 6 x _ (hpf j x Y) (hr.2 j x Y);rintro e w' (⟨s,u,ee,h1,h2,h3,h4⟩ |hp');have⟨X2,q1,q2,q3,q4⟩:=Ki O (.inl λb=>arC) h4 h3;grind
 grind
 refine((hG.p f).calls _ c hc E F w vs O.arN ⟨by simpa using hr.1,λj s V=>?_⟩).mono ?_;obtain⟨x,Y,rfl⟩:=rK V;exact BO O 6 x _ (hr.2 j x Y);rintro e w' (⟨s,u,ee,h1,h2,h3,h4⟩ |hp');have⟨X2,q1,q2,q3,q4⟩:=Ki O (.inr ⟨λb=>arC,hsc s h1⟩) h4 h3;grind
 grind
theorem re:∀ (ids:List Nat) (id k:Nat),AI id ids=some k->ids[k]? =some id
 | [],id,k,h=>by simp[AI]at h
 |a::r,id,k,h=>by
  simp[AI]at h;cases O:Nat.beq a id with
  |true=>simp_all <;>grind
  |false=>
   rw[O]at h;cases E:AI id r with
   |none=>grind|some j=>rw[E]at h;simp at h;subst h;simpa using re r id j E
theorem yG (n:Nat):∀ l:List Nat,EP n l=true↔n∈l
 | [] =>by simp[EP]
 |m::r=>by
  simp[EP];cases E:Nat.beq m n with
  |true=>simp_all
  |false=>
   have:m≠n:=λe=>by simp_all
   simp[cond_false,yG n r];grind
theorem sh (h:List Ob):∀ (n:Nat) (O E:List Nat),E.Nodup->(reach h n O E).Nodup
 |0,_,E,hn=>hn|n+1,[],E,hn=>hn
 |n+1,id::O,E,hn=>by
  simp[reach];cases W:EP id E with
  |true=>exact sh h n _ _ hn
  |false=>
   refine sh h n _ _ ?_;rw[apF];refine⟨hn,by simp,λa V b X=>?_⟩;have:=(yG a E).2 V;grind
structure Rn (m:Nat->Option Nat)(own ee:Own):Prop where
 ids:∀ i j hd,m i=some j->own i=some hd->∃ hd',ee j=some hd'/\hd.like hd'
variable {m:Nat->Option Nat}
theorem FA(hm:Rn m own ee)(ho:∀ b,¬dA F own b->¬dA F' ee b):∀ (n:Nat) (s:SV) (v:Value),Rel F own w s v->Rel F' ee w (ren m n s) v:=by
 have base:∀ (n:Nat) (s:SV) (v:Value),Rel F own w s v->(∀ l o,s≠ .ep l o)->(∀ z l,s≠ .ls z l)->(∀ l,s≠ .agg l)->(∀ l,s≠ .tup l)->(∀ f l m,s≠ .fn f l m)->Rel F' ee w (ren m n s) v:=by
  intro n s v hr n1 n2 n3 n4 n5;have E:∀ {id:Nat} {hd:Hd} {f:Nat->SV} {v:Value},own id=some hd->(∀ j hd',ee j=some hd'->hd.like hd'->Rel F' ee w (f j) v)->Rel F' ee w (Bz f (m id)) v:=by
   intro id hd f v h1 h2;cases hm':m id with
   |none=>exact .any _
   |some j=>
    have⟨hd',O,V⟩:=hm.ids id j hd hm' h1;exact h2 j hd' O V
  cases hr with
  |any=>cases n <;>exact .any _|v x=>cases n <;>exact .v _
  |ptr h1 h2=>cases n <;>exact E h1 λj hd' O V=>.ptr O (V.1.trans h2)
  |os h1 h2=>cases n <;>exact E h1 λj hd' O V=>by rw[<-V.2.1]at h2 |-;exact .os O h2
  |e0=>cases n <;>exact .e0|rc W=>cases n <;>exact .rc (W.arZ .rs ho)
  |rp h1 h2 X=>cases n <;>exact E h1 λj hd' O V=>.rp O (V.2.1.trans h2) X
  |gr h1 h2 X=>cases n <;>exact E h1 λj hd' O V=>.gr O (by rw[V.2.2];exact h2) X
  |vw h1 h2 X=>cases n <;>exact E h1 λj hd' O V=>.vw O (by rw[V.2.1];exact h2) X
  |gp h1 h2 X=>cases n <;>exact E h1 λj hd' O V=>.gp O (by rw[V.2.2];exact h2) X
  |ep=>grind|rs c W h0' h1 h2=>cases n <;>exact Rel.arZ (.rs c W h0' h1 h2) .rs ho|rs0=>cases n <;>exact .rs0|ls=>grind|rm ck cv es clock W h1 h2 X h4 h5=>cases n <;>exact Rel.arZ (.rm ck cv es clock W h1 h2 X h4 h5) .rm ho|rm0=>cases n <;>exact .rm0|agg=>grind|tup=>grind|fn=>grind
 intro n;induction n with
 |zero=>
  intro s v hr;cases s <;>first|exact .any _|(refine base 0 _ _ hr ?_ ?_ ?_ ?_ ?_ <;>intros <;>(intro e;cases e)) |cases hr
 |succ n ih=>
  intro s v hr;cases s with
  |ep l o=>
   cases hr with
   |ep c h1 h2=>
    exact .ep c (λj s Y=>g6) (λj s Y=>g6)
  |ls z l=>
   cases hr with
   |ls c hz W h1 h2=>
    simp[ren];have:=Rel.ls (F:=F') (own:=ee) (w:=w) (z:=z) (l:=l.map (ren m n)) c (by simpa using hz) W (λj s Y=>by obtain⟨x,hx,rfl⟩:=rK Y;exact⟨ho _ (h1 j x hx).1,(h1 j x hx).2⟩) (λj s Y=>g6);grind
  |agg l=>cases hr with|agg W h1=>exact .agg g6 λj s Y=>g6
  |tup l=>cases hr with|tup W h1=>exact .tup g6 λj s Y=>g6
  |fn f l l2=>cases hr with|fn W h0' h1 h2=>exact .fn g6 g6 (λj s Y=>g6) λj s Y=>g6
  |_=>first|(refine base (n+1) _ _ hr ?_ ?_ ?_ ?_ ?_ <;>intros <;>(intro e;cases e)) |cases hr
theorem Gz(hm:Rn m own ee)(ho:∀ b,¬dA F own b->¬dA F' ee b)(ho2:∀ b,b<w.heap.size->dA F' ee b->dA F own b){hd:Hd}{o:Ob}(h:ash F own w hd o):ash F' ee w hd (wV m o):=by
 cases o with
 |cells l=>have⟨b,cs,ty,h1,h2,O,h4,X⟩:=h;exact⟨b,cs,ty,h1,h2,O,g6,λj s V=>by grind [FA]⟩
 |dead=>trivial|row k l=>exact arY.arZ h (.inl ho)
 |mp kk vk l W=>
  have⟨b,es,clk,h1,h2,O,h4,X,Y⟩:=h;have E:asJ F' ee w kk vk (fT kk vk l W) es:=⟨h4.1,λi x hi=>by
   have⟨e,e1,e2,e3,e4⟩:=h4.2 i x hi;exact⟨e,e1,e2,e3.arZ (vO _ _) ho,e4.arZ (vO _ _) ho⟩⟩
  match W,E,Y with
  |none,E,_=>exact⟨b,es,clk,h1,h2,O,E,X,trivial⟩
  |some (i,none),E,Y=>
   show ash F' ee w hd (Ur kk vk l none (m i));cases hmi:m i with
   |none=>exact⟨b,es,clk,h1,h2,O,E,X,trivial⟩
   |some k=>
    have⟨hd2,t1,t2⟩:=Y;have⟨hd3,e1,e2⟩:=hm.ids i k hd2 hmi t1;exact⟨b,es,clk,h1,h2,O,E,X,hd3,e1,e2.2.2.trans t2⟩
  |some (i,some x),E,Y=>
   show ash F' ee w hd (Ur kk vk l (some x) (m i));cases hmi:m i with
   |none=>exact λj V=>by cases V
   |some k=>
    have⟨hd2,e,t1,t2,t3⟩:=Y;have⟨hd3,e1,e2⟩:=hm.ids i k hd2 hmi t1;exact⟨b,es,clk,h1,h2,O,E,X,hd3,e,e1,t2,e2.2.1.trans t3⟩
 |ar2 k l=>
  rcases h with h| ⟨b,o,cap,cs,ty,bs,h1,h2,O,h4,X,Y,h7,h8,h9⟩;exact .inl h;exact .inr ⟨b,o,cap,cs,ty,bs,h1,h2,O,h4,X,Y,h7,h8,h9.arZ (.inl ho)⟩
 |ab r=>
  refine⟨h.1,r.loc _ _ _ w w h.2 (aom _) (λb hbl hn=>rfl) (λb hbl hn=>⟨ho2 b hbl hn.1,hn.2⟩)⟩
 |raw o=>exact h
 |mi mid n left cur=>
  have⟨b,h1,h2,O⟩:=h;refine⟨b,h1,h2,λj V=>?_⟩;cases mid with
  |none=>cases V
  |some i=>
   have⟨hdm,bm,seen,c0,ss,k1,k2,k3,k4⟩:=O i rfl;have⟨hd',e1,e2⟩:=hm.ids i j hdm V k1;exact⟨hd',bm,seen,c0,ss,e1,e2.2.1.trans k2,k3,k4⟩
 |fwd n=>
  cases n with
  |none=>intro j V;cases V
  |some i=>
   intro j V;have⟨hd2,k1,k2,k3⟩:=h i rfl;have⟨hd',e1,e2⟩:=hm.ids i j hd2 V k1;exact⟨hd',e1,e2.2.1.trans k2,k3⟩
 |fz k l=>exact Rel.arZ h .rs ho
theorem w8 (m:Nat->Option Nat)(o:Ob):d_ (wV m o)=d_ o:=by
 cases o with
 |mp kk E l p=>
  match p with
  |none=>rfl
  |some (i,q) =>
   show d_ (Ur kk E l q (m i))=false;cases q <;>cases m i <;>rfl
 |_=>rfl
theorem aaQ(Y:Hp F own w h)(ids:List Nat)(hn:ids.Nodup):
  ∃ (Fm:Nat->Prop) (O:Own),Hp Fm O w (vN h ids)/\(∀ b,dA Fm O b↔dA F own b)/\Rn (inN ids) own O/\(∀ b,Fm b↔(F b\/∃ id hd,id ∉ ids/\own id=some hd/\b∈hd.bs))/\(∀ k id,ids[k]? =some id->O k=own id)/\(∀ k,ids.length<=k->O k=none):=by
 let O:Own:=λk=>match ids[k]? with|some id=>own id|none=>none
 let Fm:Nat->Prop:=λb=>F b\/∃ id hd,id ∉ ids/\own id=some hd/\b∈hd.bs
 have o1:∀ k id,ids[k]? =some id->O k=own id:=λk id e=>g6
 have o2:∀ k,ids.length<=k->O k=none:=λk e=>g6
 have o3:∀ k hd,O k=some hd->∃ id,ids[k]? =some id/\own id=some hd:=λk hd e=>by
  grind
 have inj:∀ i j id,ids[i]? =some id->ids[j]? =some id->i=j:=λi j id e1 V=>tW hn e1 V;have hB:∀ b,dA Fm O b↔dA F own b:=λb=>by
  constructor
  rintro ((X| ⟨id,hd,_,e,E⟩) | ⟨k,hd,e,E⟩);exact .inl X;exact .inr ⟨id,hd,e,E⟩;have⟨id,_,V⟩:=o3 k hd e;exact .inr ⟨id,hd,V,E⟩;rintro (X| ⟨id,hd,e,E⟩);exact .inl (.inl X);by_cases hm:id∈ids
  have⟨k,hk⟩:=ao9 hm;exact .inr ⟨k,hd,g6,E⟩;exact .inl (.inr ⟨id,hd,hm,e,E⟩)
 have rn:Rn (inN ids) own O:=⟨λi j hd hm e=>⟨hd,by rw[o1 j i (re ids i j hm)];exact e,.refl _⟩⟩;refine⟨Fm,O,⟨λk hd e=>?_,λb X=>?_,λk hd b e E=>?_,λi j hi hj b e1 V hb1 W=>?_,λk hd b e E=>?_,λk hdd=>?_⟩,hB,rn,λb=>arC,o1,o2⟩;grind [vN]
 rcases X with X| ⟨id,hd,_,e,E⟩;exact Y.arN b X;exact Y.lt id hd b e E;have⟨id,e1,V⟩:=o3 k hd e;rintro (X| ⟨id',hd',hn',e',hbb'⟩);exact Y.apart id hd b V E X;exact hn' (Y.inj id' id hd' hd b e' V hbb' E▸aoB e1);have⟨id1,q1,q2⟩:=o3 i hi e1;have⟨id2,q3,q4⟩:=o3 j hj V;have:=Y.inj id1 id2 hi hj b q2 q4 hb1 W;grind
 have⟨id,e1,V⟩:=o3 k hd e;exact Y.lt id hd b V E;have hk:∃ id,ids[k]? =some id/\ap (vN h ids) k=wV (inN ids) (ap h id):=by
  grind [wY,vN,d_]
 have⟨id,hid,ho⟩:=hk;rw[ho]at hdd |-;rw[w8]at hdd;have⟨hd,e1,V⟩:=Y.obs id hdd;exact⟨hd,g6,Gz rn (λb hb W=>hb ((hB b).1 W)) (λb _ W=>(hB b).1 W) V⟩
theorem sj {ids:List Nat}{b k:Nat}(E:k<ids.length):ids[k]? =some (lC ids b k):=by
 grind [lC,iu]
theorem wn {ids:List Nat}{b k:Nat}(E:ids.length<=k):lC ids b k=b+(k - ids.length):=by
 grind [lC,iu]
theorem WU (ids:List Nat)(b k:Nat):tu ids b k=some (lC ids b k):=by
 grind [tu,lC]
theorem UQ{ids:List Nat}(hn:ids.Nodup){b:Nat}(E:∀ id∈ids,id<b){i:Nat}(h:lC ids b i=lC ids b j):i=j:=by
 rcases apv i ids.length with hi|hi <;>rcases apv j ids.length with hj|hj;have O:=sj (b:=b) hi;have V:=sj (b:=b) hj;grind [tW]
 have O:=E _ (aoB (sj (b:=b) hi));grind [wn];have O:=E _ (aoB (sj (b:=b) hj));grind [wn];grind [wn]
theorem GA {ids:List Nat}(hn:ids.Nodup){b:Nat}(hb:∀ id∈ids,id<b):∀ (E:List Ob) (h:List Ob) (k:Nat),b<=h.length->(ids.length<=k->h.length=b+(k - ids.length))->(k<ids.length->h.length=b)->
  (∀ i,k<=i->i<k+E.length->ap (oh ids b h k E) (lC ids b i)=wV (tu ids b) (ap E (i - k)))/\
  (∀ id,(∀ i,k<=i->i<k+E.length->lC ids b i≠id)->ap (oh ids b h k E) id=ap h id)/\h.length<=(oh ids b h k E).length/\(∀ i,k<=i->i<k+E.length->lC ids b i< (oh ids b h k E).length)
 | [],h,k,_,_,_=>⟨λi h1 h2=>g6,λid _=>rfl,aom _,λi h1 h2=>g6⟩
 |o::r,h,k,Y,hge,hlt=>by
  simp only[oh];have hstep:(cW h (lC ids b k) (wV (tu ids b) o)).length=(if k<ids.length then h.length else h.length+1)/\lC ids b k< (cW h (lC ids b k) (wV (tu ids b) o)).length:=by
   rcases apv k ids.length with hk|hk;have:=hb _ (aoB (sj (b:=b) hk));simp_all [cT];simp_all [cT,wn]
  have O:b<=(cW h (lC ids b k) (wV (tu ids b) o)).length:=g6
  have⟨q1,q2,q3,q4⟩:=GA hn hb r (cW h (lC ids b k) (wV (tu ids b) o)) (k+1) O (λhk=>by
    grind) (λhk=>g6)
  have W:∀ i,k+1<=i->lC ids b i≠lC ids b k:=λi hi e=>by grind [UQ]
  refine⟨λi h1 h2=>?_,λid V=>?_,aoA g6 q3,λi h1 h2=>?_⟩;by_cases X:i=k
  subst X;rw[q2 _ (λj hj _=>W j hj),dU,if_pos rfl,aqg];rfl;rw[q1 i g5 g6,show i - k=(i - (k+1))+1 by omega];rfl;rw[q2 id (λi h1 h2=>V i g5 (by simp;omega)),dU,if_neg (V k (aom _) (by simp))];grind
theorem Kj(hp:Hp F own w h){ids:List Nat}(hn:ids.Nodup)(atc:∀ id∈ids,id<h.length){Fm:Nat->Prop}{om O:Own}(hpm:Hp Fm om w (vN h ids))(hB:∀ b,dA Fm om b↔dA F own b)(X:∀ b,Fm b↔(F b\/∃ id hd,id ∉ ids/\own id=some hd/\b∈hd.bs))(ho1:∀ k id,ids[k]? =some id->om k=own id)
  {h':List Ob} (W:Hp Fm O w' h') (fr:Fr { w:=w,own:=om} O w') (hlen:ids.length<=h'.length):
  ∃ X2,Hp F X2 w' (oh ids h.length h 0 h')/\Fr { w:=w,own:=own} X2 w'/\∀ s v,Rel Fm O w' s v->Rel F X2 w' (ren (tu ids h.length) 3 s) v:=by
 let L:=h.length
 let X2:Own:=λid=>match AI id ids with|some k=>O k|none=>if L<=id then O (ids.length+(id - L))else own id
 have posN_of:∀ k id,ids[k]? =some id->AI id ids=some k:=by
  intro k id e;cases hpn:AI id ids with
  |none=>
   have:∀ (l:List Nat),id∈l->AI id l≠none:=by
    intro l;induction l with
    |nil=>grind
    |cons a r ih=>
     intro hm;simp[AI];cases hb:Nat.beq a id with
     |true=>simp
     |false=>
      have:id∈r:=by
       rcases aoD.1 hm with e|e <;>simp_all
      simp_all
   grind
  |some j=>
   have Y:=re ids id j hpn;rw[tW hn e Y]
 have b1:∀ k,X2 (lC ids L k)=O k:=by
  intro k;rcases apv k ids.length with hk|hk;have:=posN_of k _ (sj (b:=L) hk);grind
  have hge:=wn (b:=L) hk;have hnone:AI (lC ids L k) ids=none:=by
   cases hpn:AI (lC ids L k) ids with
   |none=>rfl
   |some j=>
    have:=atc _ (aoB (re ids _ j hpn));omega
  grind
 have b2:∀ id hd,X2 id=some hd->(∃ k,id=lC ids L k/\O k=some hd)\/(id ∉ ids/\id<L/\own id=some hd):=by
  grind [re,sj,wn,List.getElem?_of_mem]
 have b3:∀ id hd,id ∉ ids->own id=some hd->X2 id=some hd:=by
  intro id hd hm e;have hlt:=hp.dom id hd e;grind [re]
 have hold:∀ b,b<w.heap.size->(¬ ∃ k hd,om k=some hd/\b∈hd.bs)->w'.heap[b]? =w.heap[b]?:=λb hb hn=>fr.block b ⟨hb,hn⟩;have omB:∀ k hd b,om k=some hd->b∈hd.bs->∃ id hd',own id=some hd'/\b∈hd'.bs:=λk hd b e E=>by
  rcases(hB b).1 (.inr ⟨k,hd,e,E⟩)with hf|ho;exact absurd ((X b).2 (.inl hf)) (hpm.apart k hd b e E);exact ho
 have fr2:Fr { w:=w,own:=own} X2 w':=by
  refine Fr.asH (λid hd e=>?_) (λid hd b e E=>?_) (λb hb V=>hold b hb λ⟨k,hd,e,E⟩ =>V (omB k hd b e E)) fr.size fr.os fr.tape fr.output;by_cases hm:id∈ids
  have⟨k,hk⟩:=ao9 hm;have⟨hd',e1,Y⟩:=fr.ids k hd g6;grind
  exact⟨hd,b3 id hd hm e,.refl _⟩;rcases b2 id hd e with⟨k,hk,e⟩ | ⟨_,_,e⟩;rcases apv b w.heap.size with hlt|hge;have V:=fr.base k hd b e E;have:∃ k2 hd2,om k2=some hd2/\b∈hd2.bs:=aoU λhc=>V ⟨hlt,hc⟩;grind
  omega;grind
 have rn:Rn (tu ids L) O X2:=⟨λi j hd hm e=>⟨hd,by
  grind [WU],.refl _⟩⟩
 have k1:∀ b,¬dA Fm O b->¬dA F X2 b:=by
  rintro b V (hf| ⟨id,hd,e,E⟩);exact V (.inl ((X b).2 (.inl hf)));rcases b2 id hd e with⟨k,_,e⟩ | ⟨hm,_,e⟩;exact V (.inr ⟨k,hd,e,E⟩);exact V (.inl ((X b).2 (.inr ⟨id,hd,hm,e,E⟩)))
 have k2:∀ b,dA F X2 b->dA Fm O b:=by
  grind
 have⟨q1,q2,q3,q4⟩:=GA hn atc h' h 0 (aom _) (λhk=>by
   omega) (λ_=>rfl)
 refine⟨X2,⟨λid hd e=>?_,λb hf=>aoy (hp.arN b hf) fr.size,λid hd b e E=>?_,λi j hi hj b e1 Y hb1 hb2=>?_,λid hd b e E=>?_,λid hdd=>?_⟩,fr2,λs v hr=>FA rn k1 3 s v hr⟩;rcases b2 id hd e with⟨k,hk,e⟩ | ⟨_,hlt,_⟩;rw[hk];exact q4 k (aoV _) (by have:=W.dom k hd e;omega);omega;rcases b2 id hd e with⟨k,_,e⟩ | ⟨_,_,e⟩;exact λhf=>W.apart k hd b e E ((X b).2 (.inl hf));exact hp.apart id hd b e E;rcases b2 i hi e1 with⟨ki,hki,e1⟩ | ⟨m1,_,e1⟩ <;>rcases b2 j hj Y with⟨kj,hkj,Y⟩ | ⟨m2,_,Y⟩;rw[hki,hkj,W.inj ki kj hi hj b e1 Y hb1 hb2];exact absurd ((X b).2 (.inr ⟨j,hj,m2,Y,hb2⟩)) (W.apart ki hi b e1 hb1);exact absurd ((X b).2 (.inr ⟨i,hi,m1,e1,hb1⟩)) (W.apart kj hj b Y hb2);exact hp.inj i j hi hj b e1 Y hb1 hb2;rcases b2 id hd e with⟨k,_,e⟩ | ⟨_,_,e⟩;exact W.lt k hd b e E;exact aoy (hp.lt id hd b e E) fr.size;by_cases hk:∃ k,k<h'.length/\lC ids L k=id
 obtain⟨k,hkl,rfl⟩:=hk;rw[q1 k (aoV _) g5]at hdd |-;rw[w8]at hdd;have⟨hd,e1,Y⟩:=W.obs k hdd;exact⟨hd,g6,Gz rn k1 (λb _=>k2 b) Y⟩;have V:∀ i,0<=i->i<0+h'.length->lC ids L i≠id:=λi _ hi e=>hk ⟨i,g5,e⟩;rw[q2 id V]at hdd |-;have⟨hd,e1,Y⟩:=hp.obs id hdd;have hm:id ∉ ids:=λhm=>by
  grind [List.getElem?_of_mem,sj]
 refine⟨hd,b3 id hd hm e1,Y.carry (fr2.asx (F:=F)).asr fr.size λb E=>hold b (hp.lt id hd b e1 E) ?_⟩;rintro⟨k,hd',e',hb'⟩;exact hpm.apart k hd' b e' hb' ((X b).2 (.inr ⟨id,hd,hm,e1,E⟩))
theorem Oo(hG:arD P G)(W:Hp F own w h){args:List SV}{vs:Array Value}(hr:ar7 F own w args vs){ids:List Nat}(hn:ids.Nodup){c:arV}(hc:G.o f (args.map (ren (inN ids) 6)) (vN h ids)=some c)(V:c.pre)(E:∀ id∈ids,id<h.length):
  (callFunc f vs).run P w=.ok (.enter f vs) w/\Calls P f vs w (λe w'=>∃ r X2,c.post r/\match c.res r with
   | .ret s h'=>(∃ u,e=.returned u/\Rel F X2 w' (ren (tu ids h.length) 3 s) u)/\Hp F X2 w' (oh ids h.length h 0 h')/\Fr { w:=w,own:=own} X2 w'
   | .pan x h'=>e=.panicked [{ v:=x,recovered:=false}]/\Hp F X2 w' (oh ids h.length h 0 h')/\Fr { w:=w,own:=own} X2 w'):=by
 refine⟨(hG.o f).enter _ _ c hc vs w,?_⟩;have⟨Fm,om,hpm,hB,rn,hFm,o1,o2⟩:=aaQ W ids hn;refine((hG.o f).calls _ _ c hc V Fm om w vs hpm ⟨by simpa using hr.1,λj s hj=>?_⟩).mono ?_;obtain⟨x,hx,rfl⟩:=rK hj;exact FA rn (λb Y X=>Y ((hB b).1 X)) 6 x _ (hr.2 j x hx);rintro e w' ⟨r,ee,h1,h2⟩;have hml:(vN h ids).length=ids.length:=by simp[vN]
 cases O:c.res r with
 |ret s h'=>
  rw[O]at h2;have⟨⟨u,q1,q2⟩,q3,q4,q5⟩:=h2;have⟨X2,k1,k2,k3⟩:=Kj W hn E hpm hB hFm o1 q3 q4 g5;exact⟨r,X2,h1,g6⟩
 |pan x h'=>
  rw[O]at h2;have⟨q1,q3,q4,q5⟩:=h2;have⟨X2,k1,k2,k3⟩:=Kj W hn E hpm hB hFm o1 q3 q4 g5;exact⟨r,X2,h1,g6⟩
theorem Oq(hG:arD P G)(O:Hp F own w h){id:Nat}{hd:Hd}(E:own id=some hd){args:List SV}{vs:Array Value}(hr:ar7 F own w args vs)(hnp:args.all (dM 3)=true){r:Res}(ho:ap h id=.ab r){c:as9}(hc:G.y args r=some c)(hpre:c.pre):
  acC P hd.v vs w (λe w'=>∃ a X2,c.post a/\e=.returned (.bool (c.res a).1)/\Hp F X2 w' (cW h id (.ab (c.res a).2))/\Fr { w:=w,own:=own} X2 w'):=by
 have⟨hd',e0,hv,hR⟩:=O.at ho rfl;rw[E]at e0;cases e0;have hlt:=O.dom id hd E;let F1:Nat->Prop:=λb=>dA F own b/\b ∉ hd.bs
 have hF1:∀ b,F1 b->b<w.heap.size:=by
  rintro b ⟨X| ⟨id',hd',e,hbb⟩,_⟩;exact O.arN b X;exact O.lt id' hd' b e hbb
 have hy:=hG.y args r c hc hpre F1 hd.bs w vs hR hF1 (λb hb=>⟨O.lt id hd b E hb,λX=>X.2 hb⟩) ⟨hr.1,λj s hj=>by
  rw[ao4]at hnp;refine(hr.2 j s hj).arZ (iH 3 s (hnp s (aoB hj))) λb hb=>pt ?_;rintro (X|hbb);exact hb X.1;exact hb (.inr ⟨id,hd,E,hbb⟩)⟩
 rw[hv];have mono:∀ (e:Ending) (w':World),(∃ a bs',c.post a/\e=.returned (.bool (c.res a).1)/\(c.res a).2.R F1 bs' w'/\(c.res a).2.yv=r.yv/\YFr hd.bs bs' w w')->∃ a X2,c.post a/\e=.returned (.bool (c.res a).1)/\Hp F X2 w' (cW h id (.ab (c.res a).2))/\Fr { w:=w,own:=own} X2 w':=by
  rintro e w' ⟨a,bs',h1,h2,h3,h4,Y⟩;let hd2:Hd:= { hd with bs:=bs'}
  have fr:Fr { w:=w,own:=own} (own.set id hd2) w':=Fr.asH (λi hi e=>by
    by_cases hii:i=id
    subst hii;rw[E]at e;cases e;exact⟨hd2,Own.ar_ _ _ _,rfl,rfl,rfl⟩;exact⟨hi,by grind [Own.asg],.refl _⟩) (λi hi b e hbb=>by
    by_cases hii:i=id
    subst hii;rw[Own.ar_]at e;cases e;rcases(Y.bs b hbb).2 with hb|hb <;>grind;grind [Own.asg]) (λb hb hn=>Y.block b hb λW=>hn ⟨id,hd,E,W⟩) Y.size Y.os Y.tape Y.output
  refine⟨a,own.set id hd2,h1,h2,O.upd fr.asx (· =id) (by rw[cT,if_pos hlt];omega) (λi hi=>⟨Own.asg _ _ hi,by rw[dU,if_neg (λe=>hi e.symm)],λhd' b e hbb=>Y.block b (O.lt i hd' b e hbb) λW=>hi (O.inj i id hd' hd b e E hbb W)⟩) (λi hd' hi e=>?_) (λi hi _=>?_),fr⟩;subst hi;rw[Own.ar_]at e;cases e;refine⟨by simp_all [cT],λb hb=>⟨(Y.bs b hb).1,λX=>?_,λj hj hne e V=>?_⟩⟩;rcases(Y.bs b hb).2 with W|hge;exact O.apart _ hd b E W X;have:=O.arN b X;omega;rw[Own.asg _ _ hne]at e;rcases(Y.bs b hb).2 with W|hge;exact hne (O.inj j _ hj hd b e E V W);have:=O.lt j hj b e V;omega;subst hi;refine⟨hd2,Own.ar_ _ _ _,?_⟩;rw[dU,if_pos rfl];refine⟨hv.trans h4.symm,(c.res a).2.loc _ _ _ w' w' h3 (aom _) (λ_ _ _=>rfl) ?_⟩;rintro b _ ⟨X| ⟨j,hj,e,V⟩,hnb⟩;exact⟨.inl X,λW=>O.apart _ hd b E W X⟩;by_cases hji:j=i
  grind [Own.ar_]
  rw[Own.asg _ _ hji]at e;exact⟨.inr ⟨j,hj,e,V⟩,λW=>hji (O.inj j _ hj hd b e E V W)⟩
 rcases hy with⟨f,as,q1,q2⟩ | ⟨l,f,tmps,as,bd,q1,q2,q3⟩;exact .inl ⟨f,as,q1,q2.mono mono⟩;exact .inr ⟨l,f,tmps,as,bd,q1,q2,λcc cs hro=>by
  have⟨e,w',hR',rest⟩:=q3 cc cs hro;simp_all <;>grind⟩
end
theorem GB {α:Type}{l r:List α}{x:α}{n:Nat}(h:l.drop n=x::r):l[n]? =some x/\l.drop (n+1)=r:=by
 have h1:(l.drop n)[0]? =some x:=by rw[h];rfl
 have h2:(l.drop n).drop 1=r:=by rw[h];rfl
 grind [List.drop_drop]
theorem nY {ops:List Oper}{a:Act}{o:Oper}:(Region.wanted o (yielded ops.toArray a.tmps)=true)↔GOk ops a o.guard:=by
 grind [Region.wanted,GOk]
theorem w_ (n:Nat)(E:∀ b s,aZ n s=[]->j_ n b s=s):∀ (l:List SV) (b:Nat),l.flatMap (aZ n)=[]->ui (j_ n) (λs=>(aZ n s).length) b l=l
 | [],_,_=>rfl
 |x::r,b,h=>by
  simp only[aoF,aqy]at h;simp only[ui];rw[E b x h.1,w_ n E r _ h.2]
theorem Eh:∀ (n b:Nat) (s:SV),aZ n s=[]->j_ n b s=s:=by
 intro n;induction n with
 |zero=>intro b s h;cases s <;>simp[aZ]at h <;>rfl
 |succ n E=>
  intro b s h;cases s with
  |agg l=>grind [aZ,j_,w_]|tup l=>grind [aZ,j_,w_]
  |_=>first|rfl|simp[aZ]at h
section
variable {P:Program}{F:Nat->Prop}{own ee:Own}{w w':World}{ts:Tis}
theorem L1:∀ (n:Nat) (s:SV) (v:Value),Rel F own w s v->∀ id∈gu n s,∃ hd,own id=some hd:=by
 intro n;induction n with
 |zero=>
  intro s v hr id hm;cases hr with
  |ptr h1 h2=>grind [gu]|os h1 h2=>grind [gu]|rp h1 h2 O=>grind [gu]|gr h1 h2 O=>grind [gu]|gp h1 h2 O=>grind [gu]|vw h1 h2=>grind [gu]|_=>simp[gu]at hm
 |succ n X=>
  intro s v hr id hm;have E:∀ (l:List SV) (c:Nat->Value),(∀ (j:Nat) (s:SV),l[j]? =some s->Rel F own w s (c j))->id∈l.flatMap (gu n)->∃ hd,own id=some hd:=by
   grind [List.getElem?_of_mem]
  cases hr with
  |ptr h1 h2=>grind [gu]|os h1 h2=>grind [gu]|rp h1 h2 O=>grind [gu]|gr h1 h2 O=>grind [gu]|gp h1 h2 O=>grind [gu]|vw h1 h2=>grind [gu]
  |ep c h1 h2=>exact E _ c h2 (by grind [gu])
  |ls c Y V h1 h2=>exact E _ c h2 (by grind [gu])
  |agg V h1=>exact E _ _ h1 (by grind [gu])
  |tup V h1=>exact E _ _ h1 (by grind [gu])
  |fn V W h1 h2=>
   simp only[gu,aoQ]at hm;rcases hm with hm|hm;exact E _ _ h1 hm;exact E _ _ h2 hm
  |_=>simp[gu]at hm
theorem zy {h:List Ob}(W:Hp F own w h):∀ (n:Nat) (O E:List Nat),(∀ id∈O,∃ hd,own id=some hd)->(∀ id∈E,∃ hd,own id=some hd)->∀ id∈reach h n O E,∃ hd,own id=some hd
 |0,_,E,_,h2=>h2|n+1,[],E,_,h2=>h2
 |n+1,id::O,E,h1,h2=>by
  simp[reach];cases X:EP id E with
  |true=>exact zy W n _ _ (λi hi=>h1 i (by simp[hi])) h2
  |false=>
   refine zy W n _ _ (λi hi=>?_) (λi hi=>?_)
   ·rcases aoQ.1 hi with hi|hi;cases V:ap h id with
    |cells l=>
     rw[V]at hi;have⟨hd,e1,e2⟩:=W.at V rfl;have⟨b,cs,ty,q1,q2,q3,q4,q5⟩:=e2;have⟨x,hx,hxi⟩:=apJ.1 hi;have⟨j,hj⟩:=ao9 hx;exact L1 3 x _ (q5 j x hj) i hxi
    |_=>rw[V]at hi;simp[Ww]at hi
    grind
   rcases aoQ.1 hi with hi|hi <;>simp_all
theorem GC {h:List Ob}(E:Hp F own w h){args:List SV}{vs:Array Value}(hr:ar7 F own w args vs):∀ id∈reach h 64 (args.flatMap (gu 3)) [],id<h.length:=λid O=>by
 have⟨hd,e⟩:=zy E 64 _ [] (λi hi=>by
  have⟨x,hx,hxi⟩:=apJ.1 hi;have⟨j,hj⟩:=ao9 hx;exact L1 3 x _ (hr.2 j x hj) i hxi) (λi hi=>by cases hi) id O
 exact E.dom _ _ e
variable {w0:Bs}{ro:Option Nat}{nd:Nat}{N n:Nat}{ops:List Oper}{st:St}{a:Act}{G:Cons}
def GD (a:Own)(E:Below w.heap.size w w'):Fr { w:=w,own:=a} a w':=(Fr.refl { w:=w,own:=a}).below E
theorem vv (n k:Nat):k<n+1↔k<n\/k=n:=g5
variable {E E':Nat->Prop}{o:Oper}
theorem ase.as4(hr:ROk N ops)(hE:∀ k,E' k↔E k\/k=n)(Y:¬E n)(hi:ase F w0 N ops E own st a w)(ho:ops[n]? =some o)(O:∀ j b,o.guard=some (j,b)->E j)(W:GOk ops a o.guard){s:SV}{u:Value}(hb:Below w.heap.size w w')(hs:Rel F own w' s u):
  ase F w0 N ops E' own (st.put o.dst s) (a.put o.dst u) w'/\(∀ g,o.guard=some g->ase F w0 N ops E' own (st.put o.dst (.gd g.1 g.2 s)) (a.put o.dst u) w'):=by
 have g:Fr { w:=w,own:=own} own w':=GD own hb;have V:=hi.hp.below hb;refine⟨hi.step hr hE Y ho g V O (yE hs) (λ_ _=>W) (λj b s' e=>?_),λgg X=>hi.step hr hE Y ho g V O ⟨(hE _).2 (.inl (O _ _ X)),⟨n,o,gg.2,ho,X⟩,λ_=>hs⟩ (λ_ _=>W) (λj b s' e=>?_)⟩;subst e;cases hs;grind
variable {h':List Ob}
theorem ase.as0(hr:ROk N ops)(hE:∀ k,E' k↔E k\/k=n)(X:¬E n)(hi:ase F w0 N ops E own st a w)(ho:ops[n]? =some o)(O:∀ j b,o.guard=some (j,b)->E j)(V:GOk ops a o.guard){s:SV}{u:Value}(hp:Hp F ee w' h')(Y:Fr { w:=w,own:=own} ee w')(hs:Rel F ee w' s u):
  ase F w0 N ops E' ee (St.put ⟨st.t,h'⟩ o.dst s) (a.put o.dst u) w'/\(∀ g,o.guard=some g->ase F w0 N ops E' ee (St.put ⟨st.t,h'⟩ o.dst (.gd g.1 g.2 s)) (a.put o.dst u) w'):=by
 refine⟨hi.step hr hE X ho Y hp O (yE hs) (λ_ _=>V) (λj b s' e=>?_),λgg W=>hi.step hr hE X ho Y hp O ⟨(hE _).2 (.inl (O _ _ W)),⟨n,o,gg.2,ho,W⟩,λ_=>hs⟩ (λ_ _=>V) (λj b s' e=>?_)⟩;subst e;cases hs;grind
theorem ase.skip(hr:ROk N ops)(hE:∀ k,E' k↔E k\/k=n)(W:¬E n)(hi:ase F w0 N ops E own st a w)(ho:ops[n]? =some o)(O:∀ j b,o.guard=some (j,b)->E j)(Y:¬GOk ops a o.guard){g:Nat×Bool}(X:o.guard=some g){s:SV}:
  ase F w0 N ops E' own (st.put o.dst (.gd g.1 g.2 s)) (a.put o.dst undef) w:=by
 have V:oB ops g.1:=⟨n,o,g.2,ho,X⟩;refine hi.step hr hE W ho (Fr.refl { w:=w,own:=own}) hi.hp O ⟨(hE _).2 (.inl (O _ _ X)),V,λhy=>?_⟩ (λb hb=>by simp[undef]at hb) (λj b s' e=>g6);exfalso;apply Y;rw[X];have⟨q,d,h1,h2,h3⟩:=hr.uniq g.1 V;exact(Ke h1 h2 (h3 n o (λe=>W (e▸O _ _ X)) ho) g.2).1 hy
theorem C9 {cx:Cx}{op:Op}(h:opS cx op≠ .bad):∀ c,op≠ .defer c:=by
 rintro c rfl;exact h rfl
theorem ase.out(hi:ase F w0 N ops E own st a w):arE F w0 N own ⟨asC st.t,st.h⟩ a w:=arE.asC hi
theorem arE.atH(O:arE F w0 N own st a w)(hp:Hp F ee w' h')(E:Fr { w:=w,own:=own} ee w'):arE F w0 N ee ⟨st.t,h'⟩ a w':=
 ⟨O.size,O.defers.fr E O.hp.apart,hp,O.fr.trans E,λt=>(O.slots t).mono E.asx⟩
def Kk (a:Own)(w:World):aso F a w a { w with drawn:=w.drawn+1}:=⟨λ_ b h=>⟨b,h,.refl _⟩,λ_ _ h=>⟨h,rfl⟩,aom _⟩
theorem arE.drew {own:Own}{st:St}{a:Act}{w:World}(h:arE F w0 N own st a w):arE F w0 N own st a { w with drawn:=w.drawn+1}:=
 ⟨h.size,h.defers,h.hp.asx (Kk own w) λ_ _ _ _ _=>rfl,h.fr.drew,λt=>(h.slots t).mono (Kk own w)⟩
def Td (G:Cons)(ops:List Oper)(d:Option Nat)(st:St)(next:St->Prop)(Z:Value->St->Prop):Option (Nat×Bool)->OR->Prop
 |none,r=>oi G d st next Z r|some g,r=>stepG G ops g d st next Z r
variable {Q:Exit->Act->World->Prop}
theorem f7{K:Act->World->Prop}{u:Value}{E:Result Next}(O:E=.ok (.value u) w'\/(E=.ok .skip w'/\u=undef))(h:K (a.put o.dst u) w'):
  o.uponIn (rd ro) nd P a K Q E:=by
 rcases O with rfl| ⟨rfl,rfl⟩ <;>exact h
theorem FB {ops:List Oper}{t:List (Nat×SV)}:∀ (n:Nat) (g:Nat×Bool),dY ops t n g->yu ops t n g->False
 |0,_,_,h=>h
 |n+1,(j,want),h1,h2=>by
  simp[dY]at h1;simp[yu]at h2;split at h1
  rename_i d hd;rw[hd]at h2;simp at h2;split at h1
  grind
  rename_i O b x E;rw[E]at h2;rcases h2 with h2|h2;exact FB n (O,b) h1.1 h2;grind
  grind
  grind
theorem UR {α:Type}{l:List α}(h:l.Nodup){i j:Nat}{x:α}(hi:l[i]? =some x)(E:l[j]? =some x):i=j:=by
 grind [List.pairwise_iff_getElem]
theorem adZ {h:List Ob}(hp:Hp F own w h){id:Nat}{hd:Hd}{b:Nat}(e1:own id=some hd)(e2:hd.p=some b){V n:Nat}{left:List Nat}{cur:Option Nat}(ho:ap h id=.mi (some V) n left cur)
  {kk X:Tag} {l:List (kk.T×X.T)} (hm:ap h V=.mp kk X l (some (id,none))) (hn:n=l.length) (ty:TypeId):
  (left=[]/\(Instr.next (.pointer (some ⟨b,0,none⟩)) false ty).run P w=.ok (.tuple #[.bool false]) w)\/
  ∃ j∈left,∃ u w',(Instr.next (.pointer (some ⟨b,0,none⟩)) false ty).run P w=.ok u w'/\Step F own w (cW h id (.mi (some V) n (left.erase j) (some j))) own w'/\
   Rel F own w' (.tup [.v (.bool true),svT kk (l.getD j (fg kk,fg X)).1,svT X (l.getD j (fg kk,fg X)).2]) u:=by
 obtain⟨hd',e1',b',p1,p2,p3⟩:=hp.at ho rfl;rw[e1]at e1';cases e1';rw[e2]at p1;cases p1;obtain⟨hdm,bm,seen,c0,ss,k1,k2,k3,k4,k5,k6,k7,k8⟩:=p3 _ rfl;obtain⟨hdm',Y,bm',es,clk,m1,m2,m3,m4,m5,hd2,t1,t2⟩:=hp.at hm rfl;rw[k1]at Y;cases Y;rw[k2]at m1;cases m1;rw[e1]at t1;cases t1;obtain⟨hc0,hss⟩:=S5 (k4.symm.trans t2);subst hc0;subst hss;have hes:es.size=l.length:=by simpa[fT]using m4.1
 have hget:∀ i (hi:i<es.size),(lX es)[i]? =some es[i].born:=λi hi=>by simp[lX,hi]
 have W:∀ x∈es.toList,x.born<c0:=λx hx=>m5.2 _ (apZ hx);rcases LS (P:=P) (ty:=ty) k3 m3 W (aom _)with⟨h1,h2⟩ | ⟨e,h1,w1,h2,h3⟩;refine .inl ⟨?_,h2⟩;cases hl:left with
 |nil=>rfl
 |cons k r=>
  have⟨s9,hs9,hn9⟩:=(k7 k).1 (by rw[hl];simp);have hke:k<es.size:=g6
  have E:es[k]∈leftOf es seen:=by
   grind [leftOf]
  grind
 have E:e∈es/\¬e.born∈seen.toList:=by
  grind [leftOf]
 obtain⟨j,hj,hje⟩:=ara E.1;have hb:(lX es)[j]? =some e.born:=g6
 have hjl:j∈left:=(k7 j).2 ⟨_,hb,E.2⟩;have hh:w1.heap=w.heap:=by rcases h2 with rfl|rfl <;>rfl
 have st:Step F own w (cW h id (.mi (some V) n (left.erase j) (some j))) own { w1 with heap:=w1.heap.setIfInBounds b (.mapIter (some bm) c0 (seen.push e.born) c0)}:=by
  refine q_ hp e1 (b:=b) (by rw[p2];simp) ?_ (λk O=>?_) ?_ ?_ ?_ _ λg=>⟨b,e2,p2,λi hi=>?_⟩;grind
  grind
  rcases h2 with rfl|rfl <;>rfl;rcases h2 with rfl|rfl <;>rfl;rcases h2 with rfl|rfl <;>rfl;cases hi;refine⟨hdm,bm,seen.push e.born,c0,lX es,k1,k2,?_,k4,k5,k6.erase j,λk=>?_,λj' hj'=>?_⟩;grind
  rw[k6.mem_erase_iff,k7 k,Array.toList_push];constructor
  rintro⟨a,s,b,c⟩;refine⟨s,b,λh=>?_⟩;rcases aoQ.1 h with h|h;exact c h;simp at h;subst h;exact a (UR m5.1 b hb);grind
  grind
 refine .inr ⟨j,hjl,_,_,h3,st,.tup rfl λk s O=>?_⟩;have hgd:l.getD j (fg kk,fg X)=l[j]:=g6
 rw[hgd]at O;have⟨e3,g1,_,g3,g4⟩:=m4.2 j l[j] (by simp[fT]);rw[apR hj,hje]at g1;cases g1;match k,O with
 |0,O=>cases O;exact .v _|1,O=>cases O;exact g3.mono st.fr.asx|2,O=>cases O;exact g4.mono st.fr.asx
variable {Z:Value->St->Prop}
theorem Te(hts:ts.ok P)(hG:arD P G)(hr:ROk N ops)(hE:∀ k,E' k↔E k\/k=n)(X:¬E n)(ho:ops[n]? =some o)(W:∀ j b,o.guard=some (j,b)->E j)
  (hi:ase F w0 N ops E own st a w)  {K:Act->World->Prop} {next:St->Prop}  (hZ:∀ x own st a w,arE F w0 N own st a w->Z x st->Q (.panic [{ v:=x,recovered:=false}]) a w)
  (O:Td G ops o.dst st next Z o.guard (opS ⟨ts,ops,o.guard,st,st.h.length⟩ o.op)) (hK:∀ own st a w,ase F w0 N ops E' own st a w->next st->K a w):
  (GOk ops a o.guard->(∀ c,o.op≠ .defer c)/\o.uponIn (rd ro) nd P a K Q ((execOp a.eval o).run P w))/\(¬GOk ops a o.guard->K (a.put o.dst undef) w):=by
 cases hg:o.guard with
 |none=>
  have hnd:∀ c,o.op≠ .defer c:=C9 (cx:=⟨ts,ops,o.guard,st,st.h.length⟩) (λe=>by rw[e,hg]at O;exact O);refine⟨λ_=>⟨hnd,?_⟩,λh=>absurd trivial h⟩;rw[hg]at O;have V:GOk ops a o.guard:=g6
  have h:=Rd (P:=P) (ts:=ts) (ops:=ops) (g:=none) (t:=st.t) (h:=st.h) (nx:=st.h.length) hts hi.hp hi.hp.nx (a:=a) (o:=o) (LV hi trivial (λk c e=>by cases e)) (λc x y _=>⟨λhc=>zx (g:=none) hi trivial (λk c e=>by cases e) c x true hc,λhc=>zx (g:=none) hi trivial (λk c e=>by cases e) c y false hc⟩);generalize opS ⟨ts,ops,none,⟨st.t,st.h⟩,st.h.length⟩ o.op=r at h O;cases r with
  |bad=>exact O.elim
  |val s=>
   have⟨u,e1,e2⟩:=h;exact f7 (.inl e1) (hK _ _ _ _ (hi.as4 hr hE X ho W V (Below.refl _ _) e2).1 O)
  |chk c s=>
   have⟨u,e1,e2⟩:=h O.1;exact f7 (.inl e1) (hK _ _ _ _ (hi.as4 hr hE X ho W V (Below.refl _ _) e2).1 O.2)
  |asm c s=>
   have⟨hc,u,e1,e2⟩:=h;exact f7 (.inl e1) (hK _ _ _ _ (hi.as4 hr hE X ho W V (Below.refl _ _) e2).1 (O hc))
  |asD s=>
   have⟨u,cs,ty,e1,e2⟩:=h;exact f7 (.inl e1) (hK _ _ _ _ (hi.as4 hr hE X ho W V (sd _ _) e2).1 O)
  |amb p=>
   have⟨b,h1,h2⟩:=h;exact f7 (.inl h2) (hK _ _ _ _ (hi.as4 hr hE X ho W V (Below.refl _ _) (.v _)).1 (O b h1))
  |nxt id=>
   have⟨hd,b,e1,e2,ty,hrun⟩:=h;change aaB id o.dst st next (ap st.h id)at O
   cases hob:ap st.h id with
   |mi mid n' left cur=>
    rw[hob]at O;cases mid with
    |none=>exact O.elim
    |some mid=>
     change Wx id mid n' left o.dst st next (ap st.h mid)at O
     cases hm:ap st.h mid with
     |mp kk vk l asE=>
      rw[hm]at O;cases asE with
      |none=>exact O.elim
      |some q=>
      have⟨it,q⟩:=q;cases q with
      |some _=>exact O.elim
      |none=>
       have⟨⟨x0,x1⟩,x2,x3⟩:=O;subst x0;rcases adZ (P:=P) hi.hp e1 e2 hob hm x1 ty with⟨q1,q2⟩ | ⟨j,q1,u,w',q2,q3,q4⟩;exact f7 (.inl (hrun _ _ q2)) (hK _ _ _ _ (hi.as4 hr hE X ho W V (Below.refl _ _) (.tup rfl λk s hk=>by
        match k,hk with
        |0,hk=>cases hk;exact .v _)).1 (x2 q1))
       exact f7 (.inl (hrun _ _ q2)) (hK _ _ _ _ (hi.as0 hr hE X ho W V q3.hp q3.fr q4).1 (x3 j q1))
     |_=>rw[hm]at O;exact O.elim
   |_=>rw[hob]at O;exact O.elim
  |eff c ac ups s=>
   have⟨hc,O⟩:=O;have⟨ha,u,ee,w',e1,e2,e3⟩:=h hc;exact f7 e1 (hK _ _ _ _ (hi.as0 hr hE X ho W V e3.hp e3.fr e2).1 (O ha))
  |call f args=>
   have⟨vs,e1,e2⟩:=h;change yw (args.all (dM 3)) (reach st.h 64 (args.flatMap (gu 3)) []) o.dst st next Z (G.o f (args.map (ren (inN (reach st.h 64 (args.flatMap (gu 3)) [])) 6)) (vN st.h (reach st.h 64 (args.flatMap (gu 3)) []))) (G.p f (args.map (jq st.h 6)))at O
   have hx2:BA (reach st.h 64 (args.flatMap (gu 3)) []) o.dst st next Z (G.o f (args.map (ren (inN (reach st.h 64 (args.flatMap (gu 3)) [])) 6)) (vN st.h (reach st.h 64 (args.flatMap (gu 3)) [])))\/∃ c,G.p f (args.map (jq st.h 6))=some c/\yw (args.all (dM 3)) (reach st.h 64 (args.flatMap (gu 3)) []) o.dst st next Z (G.o f (args.map (ren (inN (reach st.h 64 (args.flatMap (gu 3)) [])) 6)) (vN st.h (reach st.h 64 (args.flatMap (gu 3)) []))) (some c)/\¬ (∃ p s,c=.det p s/\(args.all (dM 3) ||kf 3 s)=false):=by
    cases hc:G.p f (args.map (jq st.h 6))with
    |none=>rw[hc]at O;exact .inl O
    |some c=>
     rw[hc]at O;by_cases hdet:∃ p s,c=.det p s/\(args.all (dM 3) ||kf 3 s)=false
     obtain⟨p,s,rfl,hb⟩:=hdet;change (bif args.all (dM 3) ||kf 3 s then _ else _)at O;grind
     grind
   rcases hx2 with O| ⟨c,hc,O,hdet⟩;have atc:=GC hi.hp e1;have hn:=sh st.h 64 (args.flatMap (gu 3)) [] apL;generalize reach st.h 64 (args.flatMap (gu 3)) []=ids at O atc hn;cases ho2:G.o f (args.map (ren (inN ids) 6)) (vN st.h ids)with
   |none=>rw[ho2]at O;exact O.elim
   |some c=>
    rw[ho2]at O;have⟨hpre,O⟩:=O;have⟨k1,k2⟩:=Oo hG hi.hp e1 hn ho2 hpre atc;rw[e2,k1];refine⟨λh=>(by cases h),?_⟩;refine CallsIn.mono (oC k2) ?_;rintro e w' ⟨r,ee,hr1,hr2⟩;have O:=O r hr1;cases hres:c.res r with
    |ret s h'=>
     rw[hres]at hr2 O;obtain⟨⟨u,rfl,asX⟩,hp',hfr⟩:=hr2;exact hK _ _ _ _ (hi.as0 hr hE X ho W V hp' hfr asX).1 O
    |pan x h'=>
     rw[hres]at hr2 O;obtain⟨rfl,hp',hfr⟩:=hr2;exact hZ x ee ⟨asC st.t,oh ids st.h.length st.h 0 h'⟩ a w' (hi.out.atH hp' hfr) O
   ·have hcall:an c/\(args.all (dM 3)=true\/∀ s,eA c s->kf 3 s=true)/\(∀ s,eA c s->next (St.put ⟨st.t,st.h++aZ 3 s⟩ o.dst (j_ 3 st.h.length s)))/\∀ x,lK c x->Z x ⟨asC st.t,st.h⟩:=by
     cases c with
     |det p s=>
      change (bif args.all (dM 3) ||kf 3 s then _ else _)at O;cases hb:args.all (dM 3) ||kf 3 s with
      |false=>grind
      |true=>
       rw[hb]at O;have⟨hp,O⟩:=O;refine⟨hp,?_,λs' hs'=>by cases hs';exact O,λx h=>h.elim⟩;rw[aoN]at hb;exact hb.imp id (λh s' hs'=>by cases hs';exact h)
     |rel α pre post out=>
      have⟨hp,O⟩:=O;cases hb:args.all (dM 3)with
      |false=>grind
      |true=>
       rw[hb]at O;refine⟨hp,.inl rfl,λs' hs'=>?_,λx h=>h.elim⟩;obtain⟨r,h1,rfl⟩:=hs';exact O r h1
     |may ok s x=>
      change (bif args.all (dM 3) ||kf 3 s then(ok=true->next (St.put ⟨st.t,st.h++aZ 3 s⟩ o.dst (j_ 3 st.h.length s)))/\(ok=false->Z x ⟨asC st.t,st.h⟩)else False)at O;cases hb:args.all (dM 3) ||kf 3 s with
      |false=>grind
      |true=>
       rw[hb]at O;refine⟨trivial,?_,λs' hs'=>by have⟨h1,rfl⟩:=hs';exact O.1 h1,λx' hs'=>by have⟨h1,rfl⟩:=hs';exact O.2 h1⟩;rw[aoN]at hb;exact hb.imp id (λh s' hs'=>by have⟨_,rfl⟩:=hs';exact h)
    have⟨q1,q2,q3,q4⟩:=hcall;have⟨k1,k2⟩:=Fz (P:=P) hG hi.hp e1 hc q1 q2;rw[e2,k1];refine⟨λh=>(by cases h),?_⟩;refine CallsIn.mono (oC k2) ?_;rintro e w' (⟨s,u,X2,m1,rfl,m2,m3,m4,m5⟩ | ⟨x,m1,rfl,m4⟩);exact hK _ _ _ _ (hi.as0 hr hE X ho W V m2 m3 m4).1 (q3 s m1);exact hZ x own ⟨asC st.t,st.h⟩ a w' (hi.out.atH (hi.hp.below m4) (GD own m4)) (q4 x m1)
  |yld id args=>
   have⟨hd,e0,vs,e1,e2⟩:=h;change (bif args.all (dM 3)then QR id o.dst st next (LG G args (ap st.h id))else False)at O;cases hb:args.all (dM 3)with
   |false=>grind
   |true=>
    rw[hb]at O;cases hob:ap st.h id with
    |ab r=>
     rw[hob]at O;change QR id o.dst st next (G.y args r)at O
     cases hc:G.y args r with
     |none=>rw[hc]at O;exact O.elim
     |some c=>
      rw[hc]at O;have⟨hpre,O⟩:=O;have mono:∀ (w':World) a' X2,c.post a'->Hp F X2 w' (cW st.h id (.ab (c.res a').2))->Fr { w:=w,own:=own} X2 w'->K (a.put o.dst (.bool (c.res a').1)) w':=by
       intro w' a' X2 m1 m2 m3;exact hK _ _ _ _ (hi.as0 hr hE X ho W V m2 m3 (.v _)).1 (O a' m1)
      rcases Oq hG hi.hp e0 e1 hb hob hc hpre with⟨f,as,k1,k2⟩ | ⟨l,f,tmps,as,bd,k1,k2⟩;rw[e2,k1];exact⟨λh=>(by cases h),CallsIn.mono (oC k2) g6⟩;rw[e2,k1];exact⟨λh=>(by cases h),RoundIn.mono (Om k2) g6⟩
    |_=>rw[hob]at O;exact O.elim
  |pan x=>
   rw[show(execOp a.eval o).run P w=.halt (.panic x) w from h];exact hZ x own ⟨asC st.t,st.h⟩ a w hi.out O
 |some g=>
  rw[hg]at O;have hlt:=hr.lt n o g.1 g.2 ho hg;have hrf:oB ops g.1:=⟨n,o,g.2,ho,hg⟩;have hjE:E g.1:=W g.1 g.2 hg;refine⟨λatL=>?_,λatL=>?_⟩
  ·have V:GOk ops a o.guard:=g6
   have hgp:dY ops st.t ops.length g:=wl hi n (λ_ _ _ _ _ _ _ _=>rfl) hr.lt _ g hlt hjE hrf atL;have hnd:∀ c,o.op≠ .defer c:=C9 (cx:=⟨ts,ops,o.guard,st,st.h.length⟩) (λe=>by rw[hg]at e;rw[show(opS ⟨ts,ops,some g,⟨st.t,st.h⟩,st.h.length⟩ o.op)=.bad from e]at O;exact FB _ _ hgp O.1);refine⟨hnd,?_⟩;have hgn:∀ k c,some g=some (k,c)->E k/\oB ops k:=λk c e=>g6
   have h:=Rd (P:=P) (ts:=ts) (ops:=ops) (g:=some g) (t:=st.t) (h:=st.h) (nx:=st.h.length) hts hi.hp hi.hp.nx (a:=a) (o:=o) (LV hi atL hgn) (λc x y _=>⟨λhc=>zx hi atL hgn c x true hc,λhc=>zx hi atL hgn c y false hc⟩);generalize opS ⟨ts,ops,some g,⟨st.t,st.h⟩,st.h.length⟩ o.op=r at h O;cases r with
   |bad=>exact(FB _ _ hgp O.1).elim|pan x=>exact O.elim|nxt id=>exact O.elim|amb p=>exact O.elim
   |val s=>
    have⟨u,e1,e2⟩:=h;exact f7 (.inl e1) (hK _ _ _ _ ((hi.as4 hr hE X ho W V (Below.refl _ _) e2).2 g hg) O)
   |chk c s=>
    have⟨u,e1,e2⟩:=h (O.1 hgp);exact f7 (.inl e1) (hK _ _ _ _ ((hi.as4 hr hE X ho W V (Below.refl _ _) e2).2 g hg) O.2)
   |asm c s=>
    have⟨_,u,e1,e2⟩:=h;exact f7 (.inl e1) (hK _ _ _ _ ((hi.as4 hr hE X ho W V (Below.refl _ _) e2).2 g hg) O)
   |asD s=>
    have⟨u,cs,ty,e1,e2⟩:=h;exact f7 (.inl e1) (hK _ _ _ _ ((hi.as4 hr hE X ho W V (sd _ _) e2).2 g hg) O)
   |eff c ac ups s=>
    have⟨hc,O⟩:=O.1 hgp;have⟨ha,u,ee,w',e1,e2,e3⟩:=h hc;exact f7 e1 (hK _ _ _ _ ((hi.as0 hr hE X ho W V e3.hp e3.fr e2).2 g hg) (O ha))
   |call f args=>
    have⟨vs,e1,e2⟩:=h;change F9 (args.all (dM 3)) (reach st.h 64 (args.flatMap (gu 3)) []) ops g o.dst st next Z (G.o f (args.map (ren (inN (reach st.h 64 (args.flatMap (gu 3)) [])) 6)) (vN st.h (reach st.h 64 (args.flatMap (gu 3)) []))) (G.p f (args.map (jq st.h 6)))at O
    cases hc:G.p f (args.map (jq st.h 6))with
    |none=>
     rw[hc]at O;have atc:=GC hi.hp e1;have hn:=sh st.h 64 (args.flatMap (gu 3)) [] apL;generalize reach st.h 64 (args.flatMap (gu 3)) []=ids at O atc hn;cases ho2:G.o f (args.map (ren (inN ids) 6)) (vN st.h ids)with
     |none=>rw[ho2]at O;exact(FB _ _ hgp O.1).elim
     |some c=>
      rw[ho2]at O;have⟨hpre,O⟩:=O.1 hgp;have⟨k1,k2⟩:=Oo hG hi.hp e1 hn ho2 hpre atc;rw[e2,k1];refine⟨λh=>(by cases h),?_⟩;refine CallsIn.mono (oC k2) ?_;rintro e w' ⟨r,ee,hr1,hr2⟩;have O:=O r hr1;cases hres:c.res r with
      |ret s h'=>
       rw[hres]at hr2 O;obtain⟨⟨u,rfl,asX⟩,hp',hfr⟩:=hr2;exact hK _ _ _ _ ((hi.as0 hr hE X ho W V hp' hfr asX).2 g hg) O
      |pan x h'=>
       rw[hres]at hr2 O;obtain⟨rfl,hp',hfr⟩:=hr2;exact hZ x ee ⟨asC st.t,oh ids st.h.length st.h 0 h'⟩ a w' (hi.out.atH hp' hfr) O
    |some c=>
     rw[hc]at O;cases c with
     |rel=>exact O.elim|may=>exact O.elim
     |det p s=>
      have⟨hp,O⟩:=O;cases hb:(args.all (dM 3) ||kf 3 s)&&(aZ 3 s).isEmpty with
      |false=>grind
      |true=>
       rw[hb]at O;rw[aoj,aoN]at hb;have⟨k1,k2⟩:=Fz (P:=P) hG hi.hp e1 hc (hp hgp) (hb.1.imp id (λh s' hs'=>by cases hs';exact h));rw[e2,k1];refine⟨λh=>(by cases h),?_⟩;refine CallsIn.mono (oC k2) ?_;rintro e w' (⟨s',u,X2,rfl,rfl,m2,m3,m4,m5⟩ | ⟨x,m1,_⟩);have hz:aZ 3 s'=[]:=List.isEmpty_iff.1 hb.2;rw[hz,aoC]at m2;rw[Eh 3 _ s' hz]at m4;exact hK _ _ _ _ ((hi.as0 hr hE X ho W V m2 m3 m4).2 g hg) O;exact m1.elim
   |yld id args=>
    have⟨hd,e0,vs,e1,e2⟩:=h;change (bif args.all (dM 3)then N1 id ops g o.dst st next (LG G args (ap st.h id))else False)at O;cases hb:args.all (dM 3)with
    |false=>grind
    |true=>
     rw[hb]at O;cases hob:ap st.h id with
     |ab r=>
      rw[hob]at O;change N1 id ops g o.dst st next (G.y args r)at O
      cases hc:G.y args r with
      |none=>rw[hc]at O;exact O.elim
      |some c=>
       rw[hc]at O;have⟨hpre,O⟩:=O.1 hgp;have mono:∀ (w':World) a' X2,c.post a'->Hp F X2 w' (cW st.h id (.ab (c.res a').2))->Fr { w:=w,own:=own} X2 w'->K (a.put o.dst (.bool (c.res a').1)) w':=by
        intro w' a' X2 m1 m2 m3;exact hK _ _ _ _ ((hi.as0 hr hE X ho W V m2 m3 (.v _)).2 g hg) (O a' m1)
       rcases Oq hG hi.hp e0 e1 hb hob hc hpre with⟨f,as,k1,k2⟩ | ⟨l,f,tmps,as,bd,k1,k2⟩;rw[e2,k1];exact⟨λh=>(by cases h),CallsIn.mono (oC k2) g6⟩;rw[e2,k1];exact⟨λh=>(by cases h),RoundIn.mono (Om k2) g6⟩
     |_=>rw[hob]at O;exact O.elim
  ·have V:¬GOk ops a o.guard:=g6
   have hgN:gK ops st.t ops.length g:=C8 hi _ g hjE hrf atL;have Y:=λs=>hi.skip hr hE X ho W V hg (s:=s);generalize opS ⟨ts,ops,some g,⟨st.t,st.h⟩,st.h.length⟩ o.op=r at O;cases r with
   |bad=>exact hK _ _ _ _ (Y .any) O.2|pan x=>exact O.elim|nxt id=>exact O.elim|amb p=>exact O.elim|val s=>exact hK _ _ _ _ (Y _) O|chk c s=>exact hK _ _ _ _ (Y _) O.2|asm c s=>exact hK _ _ _ _ (Y _) O|asD s=>exact hK _ _ _ _ (Y _) O|eff c ac ups s=>exact hK _ _ _ _ (Y _) (O.2 hgN)
   |call f args=>
    change F9 (args.all (dM 3)) (reach st.h 64 (args.flatMap (gu 3)) []) ops g o.dst st next Z (G.o f (args.map (ren (inN (reach st.h 64 (args.flatMap (gu 3)) [])) 6)) (vN st.h (reach st.h 64 (args.flatMap (gu 3)) []))) (G.p f (args.map (jq st.h 6)))at O
    cases hc:G.p f (args.map (jq st.h 6))with
    |none=>
     rw[hc]at O;generalize reach st.h 64 (args.flatMap (gu 3)) []=ids at O;cases ho2:G.o f (args.map (ren (inN ids) 6)) (vN st.h ids)with
     |none=>rw[ho2]at O;exact hK _ _ _ _ (Y .any) O.2
     |some c=>
      rw[ho2]at O;exact hK _ _ _ _ (Y .any) (O.2 hgN)
    |some c=>
     rw[hc]at O;cases c with
     |rel=>exact O.elim|may=>exact O.elim
     |det p s=>
      have⟨hp,O⟩:=O;grind
   |yld id args=>
    change (bif args.all (dM 3)then N1 id ops g o.dst st next (LG G args (ap st.h id))else False)at O;cases hb:args.all (dM 3)with
    |false=>grind
    |true=>
     rw[hb]at O;cases hc:LG G args (ap st.h id)with
     |none=>rw[hc]at O;exact O.elim|some c=>rw[hc]at O;exact hK _ _ _ _ (Y .any) (O.2 hgN)
theorem ase.congr{O:Nat->Prop}(h:∀ k,E k↔O k){st:St}(hi:ase F w0 N ops E own st a w):ase F w0 N ops O own st a w:=by
 have:E=O:=funext λk=>propext (h k);grind
theorem ase.all {st:St}(hr:ROk N ops){n:Nat}(hn:ops.length<=n)(hi:ase F w0 N ops (· <n) own st a w):ase F w0 N ops (· <ops.length) own st a w:=by
 refine⟨hi.size,hi.defers,hi.hp,hi.fr,λt=>?_,λk o d j b s W=>hi.tags k o d j b s g5,λk o j b W E X=>by have:=hr.lt k o j b E X;omega,λk o b W O E hy=>hi.chain k o b g5 O E hy⟩;have:=hi.slots t;cases V:lk t st.t with
 |gd j b s=>
  rw[V]at this;have⟨_,⟨i,o,b',h1,h2⟩,h3⟩:=this;exact⟨by have:=hr.lt i o j b' h1 h2;grind,⟨i,o,b',h1,h2⟩,h3⟩
 |_=>rw[V]at this;exact this
theorem L2{ts:Tis}{G:Cons}{ops rest:List Oper}{st:St}{K:St->Prop}(h:kw ts G ops (o::rest) st K Z):
  Td G ops o.dst st (λst'=>kw ts G ops rest st' K Z) Z o.guard (opS ⟨ts,ops,o.guard,st,st.h.length⟩ o.op):=by
 simp[kw]at h;cases E:o.guard <;>rw[E]at h <;>exact h
theorem Rf (E:ts.ok P)(hG:arD P G)(hr:ROk N ops){Q:Exit->Act->World->Prop}{K:St->Prop}{Z:Value->St->Prop}(hZ:∀ x own st a w,arE F w0 N own st a w->Z x st->Q (.panic [{ v:=x,recovered:=false}]) a w):
  ∀ (rest:List Oper) (n:Nat) (own:Own) (st:St) (a:Act) (w:World),ops.drop n=rest->ase F w0 N ops (· <n) own st a w->kw ts G ops rest st K Z->
  (∀ own st a w,ase F w0 N ops (· <ops.length) own st a w->K st->Q .normal a w)->wpListIn (rd ro) nd P ops.toArray Q rest a w
 | [],n,own,st,a,w,hd,hi,W,V=>by
  have hn:ops.length<=n:=by
   simp_all
  exact V own st a w (hi.all hr hn) W
 |o::rest,n,own,st,a,w,hd,hi,W,V=>by
  have⟨ho,hd'⟩:=GB hd;have ih:=λee st' a' w' (X:ase F w0 N ops (· <n+1) ee st' a' w') Y=>Rf E hG hr hZ rest (n+1) ee st' a' w' hd' X Y V;have⟨h1,h2⟩:=Te (ro:=ro) (nd:=nd) E hG hr (vv n) (apt n) ho (λj b e=>hr.lt n o j b ho e) hi hZ (L2 W) ih;by_cases O:GOk ops a o.guard
  unfold wpListIn;rw[if_pos (nY.2 O)];refine⟨λ_ _=>trivial,?_⟩;grind [Oper.semAt_eq];grind [nY,wpListIn]
end
def aiK (o:Ob):Prop:=o=.dead\/o=.fwd none
def as8 (o a:Ob):Prop:=o=a\/(∃ (kk vk:Tag) (l:List (kk.T×vk.T)) (p p':Option (Nat×Option kk.T)),o=.mp kk vk l p/\a=.mp kk vk l p')\/(aiK o/\aiK a)
theorem as8.refl (o:Ob):as8 o o:=.inl rfl
theorem as8.symm {a b:Ob}(h:as8 a b):as8 b a:=by
 rcases h with rfl| ⟨kk,E,l,p,p',O,V⟩ | ⟨h1,h2⟩;exact .inl rfl;exact .inr (.inl ⟨kk,E,l,p',p,V,O⟩);exact .inr (.inr ⟨h2,h1⟩)
theorem as8.trans {a b c:Ob}(h:as8 a b)(h':as8 b c):as8 a c:=by
 rcases h with rfl| ⟨kk,vk,l,p,p',e1,W⟩ | ⟨h1,h2⟩;exact h';rcases h' with rfl| ⟨V,O,l',q,X,E,e4⟩ | ⟨h3,Y⟩;exact .inr (.inl ⟨kk,vk,l,p,p',e1,W⟩);rw[W]at E;cases E;exact .inr (.inl ⟨kk,vk,l,p,X,e1,e4⟩);rw[W]at h3;rcases h3 with h3|h3 <;>cases h3;rcases h' with rfl| ⟨V,O,l',q,X,E,e4⟩ | ⟨h3,Y⟩;exact .inr (.inr ⟨h1,h2⟩);rw[E]at h2;rcases h2 with h2|h2 <;>cases h2;exact .inr (.inr ⟨h1,Y⟩)
theorem Kl (a b:List Up):fS (a++b)=fS a++fS b:=by
 induction a with
 |nil=>rfl|cons x r E=>simp[fS,E]
section
variable {h h':List Ob}
theorem Ot (ti:TI){s:SV}(E:∀ id∈gI s,ap h id=ap h' id):tq ti h s=tq ti h' s:=by
 cases s <;>first|rfl|(simp only[gI,ao6,forall_eq]at E;simp only[tq,E])
theorem BP (n:Nat){s:SV}(l:Option (List SV))(E:∀ id∈gI s,ap h id=ap h' id):sR n h s l=sR n h' s l:=by
 cases l <;>cases s <;>first|rfl|(simp only[gI,ao6,forall_eq]at E;simp only[sR,E])
theorem L3 (n nx:Nat){s E:SV}(V:∀ id∈gI s++gI E,ap h id=ap h' id):uf n nx h s E=uf n nx h' s E:=by
 have h1:∀ id∈gI s,ap h id=ap h' id:=λid hi=>V id (aqG _ hi);unfold uf;split
 rename_i sz id i off O;have W:=h1 id (by simp[gI]);have X:=V O (by simp[gI]);rw[BP n _ h1];simp_all [F0];exact BP _ _ h1
theorem L4 (ti:TI)(n:Nat){s:SV}(i:SV)(E:∀ id∈gI s,ap h id=ap h' id):jk ti n h s i=jk ti n h' s i:=by
 cases i with
 |v x=>cases x <;>cases s <;>first|rfl|(simp only[gI,ao6,forall_eq]at E;simp only[jk,E])
 |_=>cases s <;>rfl
theorem L5 (ti:TI)(n nx:Nat){s:SV}(lo hi:Option SV)(E:Bool)(O:∀ id∈gI s,ap h id=ap h' id):pc ti n nx h lo hi E s=pc ti n nx h' lo hi E s:=by
 cases s <;>first|rfl|simp_all [gI,pc]
theorem Ou (ti:TI)(ok:Bool)(key:SV){s:SV}(E:∀ id∈gI s,ap h id=ap h' id):ve ti h ok key s=ve ti h' ok key s:=by
 cases s <;>first|rfl|(rename_i x;cases x <;>first|rfl|(rename_i y;cases y <;>rfl)) |simp_all [gI,ve]
theorem Rg (ti:TI)(key:SV){s:SV}(E:∀ id∈gI s,as8 (ap h id) (ap h' id)):ve ti h false key s=ve ti h' false key s:=by
 cases s with
 |os id=>
  simp[gI,ao6,forall_eq]at E;simp[ve];rcases E with e| ⟨kk,W,l,p,p',O,V⟩ | ⟨h1,h2⟩;rw[e];rw[O,V];simp[SX,aoS,aq3];rcases h1 with h1|h1 <;>rcases h2 with h2|h2 <;>rw[h1,h2] <;>rfl
 |v x=>cases x <;>first|rfl|(rename_i y;cases y <;>rfl)
 |_=>rfl
theorem GF (ti:TI)(key v:SV){s:SV}(E:∀ id∈gI s,ap h id=ap h' id):EO ti h key v s=EO ti h' key v s:=by
 cases s <;>first|rfl|simp_all [gI,EO]
theorem Rh (ti:TI)(nx:Nat){h h':List Ob}{s:SV}(h1:∀ id∈gI s,ap h id=ap h' id):LA ti nx h s=LA ti nx h' s:=by
 cases s with
 |os id=>grind [LA,gI]|_=>rfl
theorem Ov {h h':List Ob}{s:SV}(h1:∀ id∈gI s++Wu h s,ap h id=ap h' id):D_ h s=D_ h' s:=by
 cases s with
 |ptr id off=>
  cases off with
  |zero=>
   have e:=h1 id (by simp[gI]);simp[D_];rw[<-e];cases V:ap h id with
   |mi E n left O=>
    cases E with
    |none=>rfl
    |some E=>
     cases O with
     |none=>rfl
     |some j=>
      grind [SY,Wu,Wt]
   |_=>rfl
  |succ n=>rfl
 |_=>rfl
theorem Ri (ti:TI)(nx:Nat)(key:SV){s:SV}(E:∀ id∈gI s,ap h id=ap h' id):Bx ti nx h key s=Bx ti nx h' key s:=by
 cases s <;>first|rfl|simp_all [gI,Bx]
theorem Rj (ti:TI)(v:SV){s:SV}(n:SV)(E:∀ id∈gI s,ap h id=ap h' id):Lz ti h v s n=Lz ti h' v s n:=by
 cases n with
 |os x=>cases s <;>first|rfl|simp_all [gI,Lz]
 |_=>cases s <;>rfl
theorem Rk (ti te:TI)(l:List SV)(E:∀ id∈qR l,ap h id=ap h' id):AG ti te h l=AG ti te h' l:=by
 match l with
 | [] =>rfl
 | [x] =>cases x <;>first|rfl|grind [AG,qR,LB,gI]
 |x::_::_=>cases x <;>rfl
theorem Rl (ti:TI)(l:List SV)(E:∀ id∈qR l,ap h id=ap h' id):AH ti h l=AH ti h' l:=by
 match l with
 | [] =>rfl| [x] =>cases x <;>rfl
 | [x,y] =>cases x <;>first|rfl|grind [AH,qR,LB,gI]
 |x::_::_::_=>cases x <;>rfl
theorem Rm (ti:TI)(l:List SV)(E:∀ id∈qR l,ap h id=ap h' id):vM ti h l=vM ti h' l:=by
 match l with
 | [] =>rfl
 | [x] =>
  cases x <;>first|rfl|(rename_i y;cases y <;>first|rfl|(rename_i a n c;cases a <;>cases n <;>cases c <;>rfl)) |(simp only[qR,LB,gI,aoC,ao6,forall_eq]at E;simp only[vM,E])
 |x::_::_=>cases x <;>first|rfl|(rename_i y;cases y <;>first|rfl|(rename_i a n c;cases a <;>cases n <;>cases c <;>rfl))
theorem L6 (id:Nat)(r:List SV):id∈qR (.os id::r):=by simp[qR,LB,gI]
theorem Tf (x:SV)(z id:Nat)(r:List SV):id∈qR (x:: .ls z [.os id]::r):=by simp[qR,LB]
theorem WV (x:SV)(id:Nat)(r:List SV):id∈qR (x:: .os id::r):=by simp[qR,LB,gI]
theorem WW (x:SV)(s id:Nat)(lo hi:Int)(r:List SV):id∈qR (x:: .vw s id lo hi::r):=by simp[qR,LB,gI]
theorem GG (k:Tag)(x s:SV)(r:List SV)(E:∀ id∈qR (x::s::r),ap h id=ap h' id):v_ k h s=v_ k h' s:=by
 cases s with
 |os id=>grind [v_,WV]|vw s id lo hi=>grind [v_,WW]
 |v y=>cases y <;>first|rfl|(rename_i a n c;cases a <;>cases n <;>cases c <;>rfl)
 |_=>rfl
theorem Ro (te:TI)(nx:Nat)(l:List SV)(O:∀ id∈qR l,ap h id=ap h' id):nU te nx h l=nU te nx h' l:=by
 have V:∀ (E:List Up) (s x:SV) (o:Ob),(∀ id∈qR [x,s],ap h id=ap h' id)->x8 te nx E h s o=x8 te nx E h' s o:=by
  intro E s x o O;cases o with
  |row k l=>simp[x8];rw[GG k x s [] O]|_=>rfl
 have W:∀ (id2:Nat) (E:List Up) (o:Ob),ap h id2=ap h' id2->F6 nx te.bytes h id2 E o=F6 nx te.bytes h' id2 E o:=by
  simp_all [F6]
 have X:∀ (s x:SV) (o:Option Tag),(∀ id∈qR [x,s],ap h id=ap h' id)->wU te nx h s o=wU te nx h' s o:=by
  intro s x o O;cases o with
  |none=>rfl|some k=>exact V [] s x (.row k []) O
 unfold nU;split
 rename_i id id2;rw[W id2 _ _ (O id2 (Tf _ _ _ _)),O id (L6 _ _)];rename_i id2;rw[O id2 (Tf _ _ _ _)];rename_i id id2;rw[V _ (.os id2) _ _ O,O id (L6 _ _)];rename_i id s _ _;rw[V _ s _ _ O,O id (L6 _ _)];rename_i s _;exact X s _ _ O;rename_i s;exact X s _ _ O;rename_i k l s;unfold aas;rw[GG k _ s [] O];rfl
end
theorem uo {ts:Tis}{ops:List Oper}{g:Option (Nat×Bool)}{h h':List Ob}{nx nx':Nat}{t t':List (Nat×SV)}:∀ (l:List Operand),(∀ x∈l,raw t x=raw t' x)->dO ⟨ts,ops,g,⟨t,h⟩,nx⟩ l=dO ⟨ts,ops,g,⟨t',h'⟩,nx'⟩ l
 | [],_=>rfl
 |x::r,E=>by
  simp only[dO];rw[uo r λy hy=>E y (by simp[hy])];have:val ⟨ts,ops,g,⟨t,h⟩,nx⟩ x=val ⟨ts,ops,g,⟨t',h'⟩,nx'⟩ x:=by show bT ops g (raw t x)=bT ops g (raw t' x);rw[E x (by simp)]
  rw[this]
theorem vz {ts:Tis}{ops:List Oper}{g:Option (Nat×Bool)}{h h':List Ob}{nx nx':Nat}{t t':List (Nat×SV)}:∀ (l:List (Nat×Operand)),(∀ x∈l,raw t x.2=raw t' x.2)->kv ⟨ts,ops,g,⟨t,h⟩,nx⟩ l=kv ⟨ts,ops,g,⟨t',h'⟩,nx'⟩ l
 | [],_=>rfl
 |(i,x)::r,E=>by
  simp only[kv];rw[vz r λy hy=>E y (by simp[hy])];have:val ⟨ts,ops,g,⟨t,h⟩,nx⟩ x=val ⟨ts,ops,g,⟨t',h'⟩,nx'⟩ x:=by show bT ops g (raw t x)=bT ops g (raw t' x);rw[E (i,x) (by simp)]
  rw[this]
variable {ops:List Oper}{g:Option (Nat×Bool)}{h h':List Ob}{nx':Nat}{t t':List (Nat×SV)}
theorem uq{ts:Tis}{nx:Nat}(o:Option Operand)(E:∀ x∈o,raw t x=raw t' x):pZ ⟨ts,ops,g,⟨t,h⟩,nx⟩ o=pZ ⟨ts,ops,g,⟨t',h'⟩,nx'⟩ o:=by
 cases o with
 |none=>rfl
 |some x=>show some (bT ops g (raw t x))=some (bT ops g (raw t' x));rw[E x rfl]
theorem US{ts:Tis}{nx:Nat}(op:Op)(W:∀ x∈op.operands.toList,raw t x=raw t' x)
  (h1:∀ id∈(fpO ⟨ts,ops,g,⟨t,h⟩,nx⟩ op).1,ap h id=ap h' id) (h2:∀ id∈(fpO ⟨ts,ops,g,⟨t,h⟩,nx⟩ op).2,as8 (ap h id) (ap h' id)):
  opS ⟨ts,ops,g,⟨t,h⟩,nx⟩ op=opS ⟨ts,ops,g,⟨t',h'⟩,nx⟩ op:=by
 have E:∀ x∈op.operands.toList,val ⟨ts,ops,g,⟨t',h'⟩,nx⟩ x=val ⟨ts,ops,g,⟨t,h⟩,nx⟩ x:=λx Y=>by
  show bT ops g (raw t' x)=bT ops g (raw t x);rw[W x Y]
 cases op with
 |call c=>
  have⟨callee,args,tys⟩:=c;have V:dO ⟨ts,ops,g,⟨t',h'⟩,nx⟩ args.toList=dO ⟨ts,ops,g,⟨t,h⟩,nx⟩ args.toList:=(uo _ λx Y=>W x (by grind [Op.operands,Call.operands])).symm;cases callee with
  |value f=>
   have hf:=E f (by simp[Op.operands,Call.operands]);show Bv _ _=Bv _ _;rw[V,hf]
  |invoke f m=>rfl
  |builtin b=>
   cases b <;>first|rfl|skip
   show(match tys.toList with| [t1,t2] =>aO ts t1 λti=>aO ts t2 λX=>aO ts ti.elem λte=>bif ti.isSlice&&X.isSlice then nU te nx h (dO ⟨ts,ops,g,⟨t,h⟩,nx⟩ args.toList)else .bad|_=>.bad)=(match tys.toList with| [t1,t2] =>aO ts t1 λti=>aO ts t2 λX=>aO ts ti.elem λte=>bif ti.isSlice&&X.isSlice then nU te nx h' (dO ⟨ts,ops,g,⟨t',h'⟩,nx⟩ args.toList)else .bad|_=>.bad);rw[V];have e:∀ te:TI,nU te nx h (dO ⟨ts,ops,g,⟨t,h⟩,nx⟩ args.toList)=nU te nx h' (dO ⟨ts,ops,g,⟨t,h⟩,nx⟩ args.toList):=λte=>Ro te nx _ h1;simp[e];show(match tys.toList with| [t1] =>aO ts t1 λti=>aO ts ti.elem λte=>AG ti te h (dO ⟨ts,ops,g,⟨t,h⟩,nx⟩ args.toList) |_=>.bad)=(match tys.toList with| [t1] =>aO ts t1 λti=>aO ts ti.elem λte=>AG ti te h' (dO ⟨ts,ops,g,⟨t',h'⟩,nx⟩ args.toList) |_=>.bad);rw[V];have e:∀ ti te:TI,AG ti te h (dO ⟨ts,ops,g,⟨t,h⟩,nx⟩ args.toList)=AG ti te h' (dO ⟨ts,ops,g,⟨t,h⟩,nx⟩ args.toList):=λti te=>Rk ti te _ h1;simp[e];show(match tys.toList with|t1::_=>aO ts t1 λti=>AH ti h (dO ⟨ts,ops,g,⟨t,h⟩,nx⟩ args.toList) |_=>.bad)=(match tys.toList with|t1::_=>aO ts t1 λti=>AH ti h' (dO ⟨ts,ops,g,⟨t',h'⟩,nx⟩ args.toList) |_=>.bad);rw[V];have e:∀ ti:TI,AH ti h (dO ⟨ts,ops,g,⟨t,h⟩,nx⟩ args.toList)=AH ti h' (dO ⟨ts,ops,g,⟨t,h⟩,nx⟩ args.toList):=λti=>Rl ti _ h1;simp[e];show(match tys.toList with| [t''] =>aO ts t'' λti=>vM ti h (dO ⟨ts,ops,g,⟨t,h⟩,nx⟩ args.toList) |_=>.bad)=(match tys.toList with| [t''] =>aO ts t'' λti=>vM ti h' (dO ⟨ts,ops,g,⟨t',h'⟩,nx⟩ args.toList) |_=>.bad);rw[V];have e:∀ ti:TI,vM ti h (dO ⟨ts,ops,g,⟨t,h⟩,nx⟩ args.toList)=vM ti h' (dO ⟨ts,ops,g,⟨t,h⟩,nx⟩ args.toList):=λti=>Rm ti _ h1;simp[e];show Lx _=Lx _;rw[V];show Lw _=Lw _;rw[V]
 |build ty O=>
  have V:kv ⟨ts,ops,g,⟨t',h'⟩,nx⟩ O.toList=kv ⟨ts,ops,g,⟨t,h⟩,nx⟩ O.toList:=(vz _ λx Y=>W x.2 (by grind [Op.operands])).symm;grind [opS]
 |buildSlice ty n O=>
  have V:kv ⟨ts,ops,g,⟨t',h'⟩,nx⟩ O.toList=kv ⟨ts,ops,g,⟨t,h⟩,nx⟩ O.toList:=(vz _ λx Y=>W x.2 (by grind [Op.operands])).symm;grind [opS]
 |makeFunc fn first caps=>
  have V:dO ⟨ts,ops,g,⟨t',h'⟩,nx⟩ caps.toList=dO ⟨ts,ops,g,⟨t,h⟩,nx⟩ caps.toList:=(uo _ λx Y=>W x (by grind [Op.operands])).symm;have hb:dO ⟨ts,ops,g,⟨t',h'⟩,nx⟩ first.toList=dO ⟨ts,ops,g,⟨t,h⟩,nx⟩ first.toList:=(uo _ λx Y=>W x (by grind [Op.operands])).symm
  grind [opS]
 |pick c x y=>
  grind [Op.operands,opS]
 |move x=>grind [opS,Op.operands]|assign x=>grind [opS,Op.operands]|box ty x=>grind [opS,Op.operands]
 |load ty x=>
  simp[opS,E x (by simp[Op.operands])];exact congrArg _ (funext λti=>Ot ti h1)
 |store ty x y=>
  simp[opS,E x (by simp[Op.operands]),E y (by simp[Op.operands])];exact congrArg _ (funext λti=>L3 _ _ h1)
 |nilCheck x=>grind [opS,Op.operands]|binOp op xt x y yt=>grind [opS,Op.operands]|unOp op xt x=>grind [opS,Op.operands]|convert a b x=>grind [opS,Op.operands]|panic x=>grind [opS,Op.operands]|makeInterface ty x=>grind [opS,Op.operands]|typeAssert x st ty ok=>grind [opS,Op.operands]|fieldAddr ty x f=>grind [opS,Op.operands]|field ty x f=>grind [opS,Op.operands]
 |indexAddr ty x y=>
  simp[opS,E x (by simp[Op.operands]),E y (by simp[Op.operands])];exact congrArg _ (funext λti=>congrArg _ (funext λte=>L4 _ _ _ h1))
 |extract x i=>grind [opS,Op.operands]|makeSlice ty n c=>grind [opS,Op.operands]
 |slice ty x lo hi mx=>
  cases mx with
  |some m=>
   have e1:pZ ⟨ts,ops,g,⟨t',h'⟩,nx⟩ lo=pZ ⟨ts,ops,g,⟨t,h⟩,nx⟩ lo:=(uq lo λy hy=>W y (by simp_all [Op.operands])).symm;have e2:pZ ⟨ts,ops,g,⟨t',h'⟩,nx⟩ hi=pZ ⟨ts,ops,g,⟨t,h⟩,nx⟩ hi:=(uq hi λy hy=>W y (by simp_all [Op.operands])).symm;grind [opS,Op.operands]
  |none=>
   have e1:pZ ⟨ts,ops,g,⟨t',h'⟩,nx⟩ lo=pZ ⟨ts,ops,g,⟨t,h⟩,nx⟩ lo:=(uq lo λy hy=>W y (by simp_all [Op.operands])).symm;have e2:pZ ⟨ts,ops,g,⟨t',h'⟩,nx⟩ hi=pZ ⟨ts,ops,g,⟨t,h⟩,nx⟩ hi:=(uq hi λy hy=>W y (by simp_all [Op.operands])).symm;simp[opS,E x (by simp[Op.operands]),e1,e2];exact congrArg _ (funext λti=>congrArg _ (funext λte=>L5 _ _ _ _ _ _ h1))
 |makeMap ty n=>cases n <;>rfl
 |lookup ty m k ok=>
  simp[opS,E m (by simp[Op.operands]),E k (by simp[Op.operands])];refine congrArg _ (funext λti=>?_);cases ok with
  |true=>exact Ou ti _ _ h1|false=>exact Rg ti _ h2
 |mapUpdate ty m k v=>
  simp[opS,E m (by simp[Op.operands]),E k (by simp[Op.operands]),E v (by simp[Op.operands])];exact congrArg _ (funext λti=>GF ti _ _ h1)
 |insert ty m k v=>
  simp[opS,E m (by simp[Op.operands]),E k (by simp[Op.operands]),E v (by simp[Op.operands])];exact congrArg _ (funext λti=>GF ti _ _ h1)
 |mapEntry ty m k=>
  simp[opS,E m (by simp[Op.operands]),E k (by simp[Op.operands])];exact congrArg _ (funext λti=>Ri ti _ _ h1)
 |entryStore ty m s v=>
  simp[opS,E m (by simp[Op.operands]),E s (by simp[Op.operands]),E v (by simp[Op.operands])];exact congrArg _ (funext λti=>Rj ti _ _ h1)
 |range ty x=>
  simp[opS,E x (by simp[Op.operands])];exact congrArg _ (funext λti=>Rh ti nx h1)
 |next it isS=>cases isS <;>simp only[opS,E it (by simp[Op.operands])]
 |entry it=>
  simp[opS,E it (by simp[Op.operands])];exact Ov h1
 |_=>rfl
structure DOk (ops:List Oper):Prop where
 back:∀ (i:Nat) (o:Oper) (e:Edge),ops[i]? =some o->e∈o.after->Region.binds .any e=true->e.on<i
 uniq:∀ (i k:Nat) (o q:Oper) (d:Nat),ops[i]? =some o->ops[k]? =some q->o.dst=some d->q.dst=some d->i=k
 look:∀ (i k:Nat) (o q:Oper) (d:Nat),ops[i]? =some o->ops[k]? =some q->q.dst=some d->d∈o.looksAt ops.toArray->k=i\/(k<i/\qT o k=true)\/(i<k/\qT q i=true)
theorem ad0(h:QT ops.toArray=true):DOk ops:=by
 have h':∀ (i:Nat) (o:Oper),ops[i]? =some o->(o.after.toList.all λe=>!(Region.binds .any e) ||Nat.blt e.on i)=true/\
   ∀ (k:Nat) (q:Oper),ops[k]? =some q->∀ d,q.dst=some d->(Nat.beq k i|| !(o.dst==some d))=true/\(!((o.looksAt ops.toArray).contains d) ||Nat.beq k i||(Nat.blt k i&&qT o k) ||(Nat.blt i k&&qT q i))=true:=by
  intro i o E;unfold QT at h;rw[ao4]at h;have:=h i g6;simp[iu]at this;grind
 refine⟨λi o e E W X=>?_,λi k o q d E O hd V=>?_,λi k o q d E O hd Y=>?_⟩;have:=(h' i o E).1;rw[ao4]at this;have:=this e g6;simp_all;have:=((h' i o E).2 k q O d V).1;simp_all;have:=((h' i o E).2 k q O d hd).2;simp[aoN]at this;rcases this with(h1|h1) |h1 <;>simp_all
theorem ad1{ts:Tis}{st:St}{nx:Nat}{op:Op}{r:OR}(h:opS ⟨ts,ops,g,st,nx⟩ op=r)(hn:∀ c a ups s,r=.eff c a ups s->nx ∉ fS ups):opS ⟨ts,ops,g,st,nx'⟩ op=r:=by
 have hv:∀ x,val ⟨ts,ops,g,st,nx'⟩ x=val ⟨ts,ops,g,st,nx⟩ x:=λx=>rfl;have W:∀ l,dO ⟨ts,ops,g,st,nx'⟩ l=dO ⟨ts,ops,g,st,nx⟩ l:=λl=>uo l λ_ _=>rfl;have hps:∀ l,kv ⟨ts,ops,g,st,nx'⟩ l=kv ⟨ts,ops,g,st,nx⟩ l:=λl=>vz l λ_ _=>rfl;have hvo:∀ o,pZ ⟨ts,ops,g,st,nx'⟩ o=pZ ⟨ts,ops,g,st,nx⟩ o:=λo=>uq o λ_ _=>rfl;have O:∀ (t:TypeId) (k k':TI->OR),aO ts t k=r->(∀ ti,k ti=r->k' ti=r)->aO ts t k'=r:=by
  grind [aO]
 have hNew:∀ l,Lv nx l=r->Lv nx' l=r:=by
  intro l e;cases l with
  |none=>exact e
  |some l=>exact absurd (by simp[fS]) (hn _ _ _ _ e.symm)
 cases op with
 |alloc t=>exact O _ _ _ h λti e=>hNew _ e
 |box t x=>exact hNew _ h
 |store t x y=>
  refine O _ _ _ h λti e=>?_;change uf ti.size nx' st.h (val ⟨ts,ops,g,st,nx⟩ x) (val ⟨ts,ops,g,st,nx⟩ y)=r;unfold uf at e |-;split at e
  rename_i sz id i off rid _ _;cases hg:Lu (ap st.h id)with
  |false=>grind
  |true=>
   rw[hg]at e;cases hc:Nat.beq ti.size 1&&Nat.beq sz 1&&Nat.beq off 0&& !(Nat.beq id rid)with
   |false=>grind
   |true=>
    rw[hc]at e;cases ho:ap st.h id with
    |ar2 k l=>
     rw[ho]at e;simp[F0]at e |-;cases hr:QN k (ap st.h rid)with
     |none=>rw[hr]at e;exact e
     |some m=>rw[hr]at e;exact absurd (by simp[fS]) (hn _ _ _ _ e.symm)
    |_=>rw[ho]at e;exact e
  exact e
 |makeSlice t n c=>
  refine O _ _ _ h λti e=>O _ _ _ e λte e=>?_;cases Y:ti.isSlice with
  |false=>grind
  |true=>
   rw[Y]at e;cases hb2:te.isSlice with
   |true=>
    rw[hb2]at e;refine O _ _ _ e λtr e=>?_;change Ly nx' te tr (val ⟨ts,ops,g,st,nx⟩ n) (val ⟨ts,ops,g,st,nx⟩ c)=r;unfold Ly at e |-;split at e
    cases ht:tr.tag with
    |none=>rw[ht]at e;exact e
    |some k=>
     grind [aau,fS]
    exact e
   |false=>
   rw[hb2]at e;change mkS nx' te (val ⟨ts,ops,g,st,nx⟩ n) (val ⟨ts,ops,g,st,nx⟩ c)=r;unfold mkS at e |-;split at e
   cases ht:te.tag with
   |none=>rw[ht]at e;exact e
   |some k=>rw[ht]at e;exact absurd (by simp[fS]) (hn _ _ _ _ e.symm)
   exact e
 |slice t x lo hi m=>
  cases m with
  |some m=>
   refine O _ _ _ h λti e=>O _ _ _ e λte e=>?_;grind
  |none=>
   refine O _ _ _ h λti e=>O _ _ _ e λte e=>?_;change pc ti te.size nx' st.h _ _ _ (val ⟨ts,ops,g,st,nx⟩ x)=r;unfold pc at e |-;split at e
   exact e
   ·cases Y:ti.isSlice with
    |false=>grind
    |true=>
     rw[Y]at e;cases hv:(J3 hi&&NU ops)with
     |true=>grind
     |false=>
     rw[hv]at e;unfold aax at e |-;split at e
     rename_i k l _;cases Y:Nat.beq te.size (aa k)with
     |false=>grind
     |true=>
      unfold aaw at e |-;grind [fS]
     exact e
   exact e
 |makeMap t n=>
  cases n with
  |some n=>exact h
  |none=>
   refine O _ _ _ h λti e=>?_;unfold mmR at e |-;grind [fS]
 |call c=>
  have⟨callee,args,tys⟩:=c;cases callee with
  |value f=>rw[<-h];show Bv _ _=Bv _ _;rw[W];rfl
  |invoke f m=>exact h
  |builtin b=>
   cases b <;>first|exact h|skip
   ·change (match tys.toList with| [t1,t2] =>aO ts t1 λti=>aO ts t2 λX=>aO ts ti.elem λte=>bif ti.isSlice&&X.isSlice then nU te nx st.h (dO ⟨ts,ops,g,st,nx⟩ args.toList)else .bad|_=>.bad)=r at h;show(match tys.toList with| [t1,t2] =>aO ts t1 λti=>aO ts t2 λX=>aO ts ti.elem λte=>bif ti.isSlice&&X.isSlice then nU te nx' st.h (dO ⟨ts,ops,g,st,nx'⟩ args.toList)else .bad|_=>.bad)=r;rw[W];split at h
    ·refine O _ _ _ h λti e=>O _ _ _ e λX e=>O _ _ _ e λte e=>?_;cases Y:ti.isSlice&&X.isSlice with
     |false=>grind
     |true=>
      rw[Y]at e;have hR:∀ k b E l m,aaq k nx b E l m=r->aaq k nx' b E l m=r:=by
       intro k b E l m e;cases m with
       |none=>exact e
       |some m=>exact absurd (by grind [Kl,fS]) (hn _ _ _ _ e.symm)
      have hGs:∀ k b id2 E l m,NX k nx b id2 E l m=r->NX k nx' b id2 E l m=r:=by
       intro k b id2 E l m e;cases m with
       |none=>exact e
       |some m=>exact absurd (by grind [Kl,fS]) (hn _ _ _ _ e.symm)
      have hO:∀ E V o,x8 te nx E st.h V o=r->x8 te nx' E st.h V o=r:=by
       intro E V o e;cases o with
       |row k l=>
        grind [x8]
       |_=>exact e
      have hT2:∀ V o,wU te nx st.h V o=r->wU te nx' st.h V o=r:=by
       intro V o e;cases o with
       |none=>exact e|some k=>exact hO [] V (.row k []) e
      generalize dO ⟨ts,ops,g,st,nx⟩ args.toList=l at e |-;unfold nU at e |-;split at e
      rename_i id id2;cases Y:Nat.beq te.size 1&&Nat.beq (sz te.zero) 1&&Nat.ble 1 te.bytes&& !(Nat.beq id id2)with
      |false=>
       grind
      |true=>
       unfold F6 at e |-;grind
      cases Y:Nat.beq te.size 1&&Nat.beq (sz te.zero) 1&&Nat.ble 1 te.bytes with
      |false=>grind
      |true=>
       unfold adL at e |-;grind
      grind
      grind
      grind
      grind
      exact e;exact e
    exact h
   rw[<-h];show(match tys.toList with| [t1] =>aO ts t1 λti=>aO ts ti.elem λte=>AG ti te st.h (dO ⟨ts,ops,g,st,nx'⟩ args.toList) |_=>.bad)=(match tys.toList with| [t1] =>aO ts t1 λti=>aO ts ti.elem λte=>AG ti te st.h (dO ⟨ts,ops,g,st,nx⟩ args.toList) |_=>.bad);rw[W];rw[<-h];show(match tys.toList with|t1::_=>aO ts t1 λti=>AH ti st.h (dO ⟨ts,ops,g,st,nx'⟩ args.toList) |_=>.bad)=(match tys.toList with|t1::_=>aO ts t1 λti=>AH ti st.h (dO ⟨ts,ops,g,st,nx⟩ args.toList) |_=>.bad);rw[W];rw[<-h];show(match tys.toList with| [t''] =>aO ts t'' λti=>vM ti st.h (dO ⟨ts,ops,g,st,nx'⟩ args.toList) |_=>.bad)=(match tys.toList with| [t''] =>aO ts t'' λti=>vM ti st.h (dO ⟨ts,ops,g,st,nx⟩ args.toList) |_=>.bad);rw[W];rw[<-h];show Lx _=Lx _;rw[W];rw[<-h];show Lw _=Lw _;rw[W]
 |build ty parts=>grind [opS]
 |buildSlice ty n parts=>
  refine O _ _ _ h λti e=>O _ _ _ e λte e=>?_;unfold NV at e |-;grind [fS]
 |makeFunc fn first caps=>grind [opS]
 |range ty x=>
  refine O _ _ _ h λti e=>?_;rw[hv];generalize val ⟨ts,ops,g,st,nx⟩ x=s at e |-;cases s with
  |os id=>
   simp[LA]at e |-;cases ho:ap st.h id with
   |mp kk vk l asE=>
    grind [aay,fS]
   |_=>rw[ho]at e;exact e
  |_=>exact e
 |mapEntry ty m k=>
  refine O _ _ _ h λti e=>?_;rw[hv,hv];generalize val ⟨ts,ops,g,st,nx⟩ m=s at e |-;cases s with
  |os id=>
   simp[Bx]at e |-;cases ho:ap st.h id with
   |mp kk vk l asE=>
    simp[Um]at e |-;cases Y:mP kk ti.mkt&&mP vk ti.mvt&&noE asE with
    |false=>grind
    |true=>
     unfold Ul at e |-;grind [fS]
   |_=>rw[ho]at e;exact e
  |_=>exact e
 |next it isS=>cases isS <;>exact h|entry it=>exact h|_=>exact h
end Go.Sx
end
