/- Part of the proof that the law JudgementSitSpec returns true and leaves its arguments as they were, for all arguments of bulk at most 1048576 (the Upto form). -/
import Derived.Test.YtnanafpgfihjfaaGreatJ601
import Derived.Laws.Entries
import Derived.Laws.Tables
import Derived.Laws.StructEq
import Derived.Laws.MakeOwn
import Derived.ChangeKeysEq
set_option linter.all false
set_option maxHeartbeats 4000000
set_option maxRecDepth 100000
section
namespace Go.Sx
open Go.RowKit
theorem nbl {n m:Nat}(h:Nat.ble n m=true):n<=m:=Nat.le_of_ble_eq_true h
theorem wx {k:Tag}{x:k.T}{j:Nat}{s:SV}(h:(cellsOf k x)[j]? =some s):(∃ y,s=.v y/\q_ y=true)\/(∃ (k':Tag) (l:List k'.T),s=.rs k' l/\rank k'<rank k)\/(∃ (k' k2:Tag) (l:List (k'.T×k2.T)),s=.rm k' k2 l/\rank k'<rank k/\rank k2<rank k)\/∃ f,s=.fn f [] []/\rank k≠0:=by
 have hm:=List.mem_of_getElem? h;cases k <;>simp only[cellsOf,List.mem_cons,List.not_mem_nil,or_false]at hm <;>
  (repeat' (rcases hm with hm|hm)) <;>first|exact .inl ⟨_,rfl,rfl⟩ |exact .inr (.inl ⟨_,_,rfl,by decide⟩) |exact .inr (.inr (.inl ⟨_,_,_,rfl,by decide,by decide⟩)) |(cases x <;>first|exact .inl ⟨_,rfl,rfl⟩ |exact .inr (.inr (.inr ⟨_,rfl,by decide⟩)))
section
variable {P:Program}{F:Nat->Prop}{own:Own}{w:World}
theorem bF {x v:Value}(h:Rel F own w (.v x) v):v=x:=by cases h;rfl
theorem EM {k:Tag}{x:k.T}{j:Nat}{s:SV}{u:Value}(h:(cellsOf k x)[j]? =some s)(hr:Rel F own w s u):q_ u=true:=by
 rcases wx h with⟨y,rfl,hy⟩ | ⟨k',l,rfl,_⟩ | ⟨k',k2,l,rfl,_⟩ | ⟨f,rfl,_⟩
 ·rw[bF hr];exact hy
 ·cases hr <;>rfl
 ·cases hr <;>rfl
 ·cases hr <;>rfl
def RowAt (F:Nat->Prop)(own:Own)(w:World)(k:Tag)(l:List k.T)(o:Nat)(cs:Array Value):Prop:=
 ∀ (i:Nat) (x:k.T),l[i]? =some x->∀ (j:Nat) (s:SV),(cellsOf k x)[j]? =some s->∃ u,cs[o+i*ae k+j]? =some u/\Rel F own w s u
def RowRel (F:Nat->Prop)(own:Own)(w:World)(k:Tag)(l:List k.T)(v:Value)(bs:List Nat):Prop:=
 (∃ a,v=.slice a 0 0/\l=[]/\bs=[])\/
 ∃ b o cap cs ty,v=.slice (some ⟨b,o,none⟩) l.length cap/\bs=[b]/\w.heap[b]? =some (.cells cs ty (0,0))/\o+cap*ae k<=cs.size/\l.length<=cap/\l.length<=aA/\RowAt F own w k l o cs
def MpAt (F:Nat->Prop)(own:Own)(w:World)(kk vk:Tag)(l:List (kk.T×vk.T))(es:Array MapEntry):Prop:=
 es.size=l.length/\∀ (i:Nat) (x:kk.T×vk.T),l[i]? =some x->∃ e,es[i]? =some e/\True/\Rel F own w (svT kk x.1) e.key/\Rel F own w (svT vk x.2) e.val
def dL (kk vk:Tag)(l:List (kk.T×vk.T)):Option (Nat×Option kk.T)->List (kk.T×vk.T)
 |some (_,some x) =>if(nu l x).isSome then l else l++[(x,fS vk)]
 |_=>l
theorem kT {kk vk:Tag}{l:List (kk.T×vk.T)}{p:Option (Nat×Option kk.T)}(h:noE p=true):dL kk vk l p=l:=by
 cases p with
 |none=>rfl
 |some q=>obtain⟨i,q⟩:=q;cases q with
  |none=>rfl
  |some x=>cases h
def ii (es:Array MapEntry):List Nat:=es.toList.map (·.born)
def Stamped (es:Array MapEntry)(clock:Nat):Prop:=(ii es).Nodup/\∀ n∈ii es,n<clock
def stV (ss:List Nat)(clock:Nat):List Value:=.int .i64 clock::ss.map fun n=>.int .i64 (n:Nat)
def PendOk (own:Own)(kk vk:Tag)(l:List (kk.T×vk.T))(es:Array MapEntry)(clock:Nat):Option (Nat×Option kk.T)->Prop
 |none=>True
 |some (nx,some x) =>∃ hd2 e,own nx=some hd2/\es[r9 kk vk l x]? =some e/\hd2.v=.int .i64 e.born
 |some (nx,none) =>∃ hd2,own nx=some hd2/\hd2.vs=stV (ii es) clock
def GridIn (F:Nat->Prop)(own:Own)(w:World)(k:Tag):List (List k.T)->List Value->List Nat->Prop
 | [],[],bs=>bs=[]
 |l::ls,v::vs,bs=>∃ b1 b2,bs=b1++b2/\q_ v=true/\RowRel F own w k l v b1/\GridIn F own w k ls vs b2
 |_,_,_=>False
def ObRel (F:Nat->Prop)(own:Own)(w:World)(hd:Hd):Ob->Prop
 | .cells l=>∃ b cs ty,hd.p=some b/\hd.bs=[b]/\w.heap[b]? =some (.cells cs ty (0,0))/\cs.size=l.length/\∀ (j:Nat) (s:SV),l[j]? =some s->Rel F own w s (cs.getD j undef)
 | .dead=>True
 | .row k l=>RowRel F own w k l hd.v hd.bs
 | .mp kk vk l pend=>∃ b es clock,hd.v=.map (some b)/\hd.bs=[b]/\w.heap[b]? =some (.map es clock)/\MpAt F own w kk vk (dL kk vk l pend) es/\Stamped es clock/\PendOk own kk vk l es clock pend
 | .grid k l=>(hd.v=.slice none 0 0/\l=[]/\hd.vs=[]/\hd.bs=[])\/
   ∃ b o cap cs ty bs,hd.v=.slice (some ⟨b,o,none⟩) l.length cap/\hd.bs=b::bs/\hd.bs.Nodup/\w.heap[b]? =some (.cells cs ty (0,0))/\o+cap<=cs.size/\l.length<=cap/\l.length<=aA/\
    (∀ (i:Nat) (v:Value),hd.vs[i]? =some v->cs[o+i]? =some v)/\GridIn F own w k l hd.vs bs
 | .ab r=>hd.v=r.yv/\r.R (fun b=>bM F own b/\b ∉ hd.bs) hd.bs w
 | .raw o=>∃ b,hd.p=some b/\hd.bs=[b]/\w.heap[b]? =some o
 | .mi mid n left cur=>∃ b,hd.p=some b/\hd.bs=[b]/\∀ i,mid=some i->∃ (hdm:Hd) (bm:Nat) (seen:Array Nat) (c:Nat) (ss:List Nat),own i=some hdm/\hdm.v=.map (some bm)/\w.heap[b]? =some (.mapIter (some bm) c seen c)/\hd.vs=stV ss c/\ss.length=n/\left.Nodup/\(∀ k,k∈left↔∃ s,ss[k]? =some s/\¬s∈seen.toList)/\∀ j,cur=some j->∃ s,ss[j]? =some s/\seen.back? =some s
 | .fwd n=>∀ i,n=some i->∃ hd2,own i=some hd2/\hd2.v=hd.v/\q_ hd.v=true
 | .fz k l=>Rel F own w (.rs k l) hd.v
variable {F':Nat->Prop}{own':Own}{w':World}
theorem RowAt.carry (g:Carries F own w F' own' w'){k:Tag}{l:List k.T}{o:Nat}{cs:Array Value}(h:RowAt F own w k l o cs):RowAt F' own' w' k l o cs:=
 fun i x hi j s hj=>by obtain⟨u,h1,h2⟩:=h i x hi j s hj;exact⟨u,h1,h2.carry g⟩
theorem RowRel.carry (g:Carries F own w F' own' w'){k:Tag}{l:List k.T}{v:Value}{bs:List Nat}(hb:∀ b∈bs,w'.heap[b]? =w.heap[b]?)(h:RowRel F own w k l v bs):RowRel F' own' w' k l v bs:=by
 rcases h with h| ⟨b,o,cap,cs,ty,h1,h2,h3,h4,h5,h6,h7⟩
 ·exact .inl h
 ·exact .inr ⟨b,o,cap,cs,ty,h1,h2,by rw[hb b (by simp[h2])];exact h3,h4,h5,h6,h7.carry g⟩
theorem GridIn.carry (g:Carries F own w F' own' w'){k:Tag}:∀ {l:List (List k.T)} {vs:List Value} {bs:List Nat},(∀ b∈bs,w'.heap[b]? =w.heap[b]?)->GridIn F own w k l vs bs->GridIn F' own' w' k l vs bs
 | [],[],bs,_,h=>h
 |l::ls,v::vs,bs,hb,⟨b1,b2,h1,h0,h2,h3⟩ =>⟨b1,b2,h1,h0,h2.carry g fun b hbb=>hb b (by simp[h1,hbb]),GridIn.carry g (fun b hbb=>hb b (by simp[h1,hbb])) h3⟩
 | [],_::_,_,_,h=>h.elim
 |_::_,[],_,_,h=>h.elim
theorem MpAt.carry (g:Carries F own w F' own' w'){kk vk:Tag}{l:List (kk.T×vk.T)}{es:Array MapEntry}(h:MpAt F own w kk vk l es):MpAt F' own' w' kk vk l es:=
 ⟨h.1,fun i x hi=>by obtain⟨e,h1,h2,h3,h4⟩:=h.2 i x hi;exact⟨e,h1,h2,h3.carry g,h4.carry g⟩⟩
theorem PendOk.ids (g:∀ (id:Nat) (hd:Hd),own id=some hd->∃ hd',own' id=some hd'/\hd.like hd'){kk vk:Tag}{l:List (kk.T×vk.T)}{es:Array MapEntry}{clock:Nat}{p:Option (Nat×Option kk.T)}(h:PendOk own kk vk l es clock p):PendOk own' kk vk l es clock p:=by
 cases p with
 |none=>trivial
 |some q=>
  obtain⟨i,q⟩:=q;cases q with
  |some x=>
   obtain⟨hd2,e,h1,h2,h3⟩:=h;obtain⟨hd',e1,e2⟩:=g _ _ h1;exact⟨hd',e,e1,h2,e2.2.1.trans h3⟩
  |none=>
   obtain⟨hd2,h1,h2⟩:=h;obtain⟨hd',e1,e2⟩:=g _ _ h1;exact⟨hd',e1,e2.2.2.trans h2⟩
theorem ObRel.carry (g:Carries F own w F' own' w')(hsz:w.heap.size<=w'.heap.size){hd:Hd}(hb:∀ b∈hd.bs,w'.heap[b]? =w.heap[b]?){o:Ob}(h:ObRel F own w hd o):ObRel F' own' w' hd o:=by
 cases o with
 |cells l=>obtain⟨b,cs,ty,h1,h2,h3,h4,h5⟩:=h;exact⟨b,cs,ty,h1,h2,by rw[hb b (by simp[h2])];exact h3,h4,fun j s hj=>(h5 j s hj).carry g⟩
 |dead=>trivial
 |row k l=>exact RowRel.carry g hb h
 |mp kk vk l pend=>obtain⟨b,es,clock,h1,h2,h3,h4,h5,h6⟩:=h;exact⟨b,es,clock,h1,h2,by rw[hb b (by simp[h2])];exact h3,h4.carry g,h5,h6.ids g.ids⟩
 |grid k l=>
  rcases h with h| ⟨b,o,cap,cs,ty,bs,h1,h2,h3,h4,h5,h6,h7,h8,h9⟩
  ·exact .inl h
  ·exact .inr ⟨b,o,cap,cs,ty,bs,h1,h2,h3,by rw[hb b (by simp[h2])];exact h4,h5,h6,h7,h8,h9.carry g fun b' hb'=>hb b' (by simp[h2,hb'])⟩
 |ab r=>
  refine⟨h.1,r.loc _ _ _ w w' h.2 hsz (fun b hbl hn=>?_) (fun b hbl hn=>⟨?_,hn.2⟩)⟩
  ·by_cases hm:b∈hd.bs
   ·exact hb b hm
   ·exact(g.keep b hbl fun ho=>hn ⟨ho,hm⟩).2
  ·exact Classical.byContradiction fun ho=>(g.keep b hbl ho).1 hn.1
 |raw o=>obtain⟨b,h1,h2,h3⟩:=h;exact⟨b,h1,h2,by rw[hb b (by simp[h2])];exact h3⟩
 |mi mid n left cur=>
  obtain⟨b,h1,h2,h3⟩:=h;refine⟨b,h1,h2,fun i hi=>?_⟩;obtain⟨hdm,bm,seen,c,ss,k1,k2,k3,k4⟩:=h3 i hi;obtain⟨hd',e1,e2⟩:=g.ids _ _ k1;exact⟨hd',bm,seen,c,ss,e1,e2.2.1.trans k2,by rw[hb b (by simp[h2])];exact k3,k4⟩
 |fwd n=>
  intro i hi;obtain⟨hd2,k1,k2,k3⟩:=h i hi;obtain⟨hd',e1,e2⟩:=g.ids _ _ k1;exact⟨hd',e1,e2.2.1.trans k2,k3⟩
 |fz k l=>exact Rel.carry g h
structure Hp (F:Nat->Prop)(own:Own)(w:World)(h:List Ob):Prop where
 dom:∀ (id:Nat) (hd:Hd),own id=some hd->id<h.length
 foreign:∀ b,F b->b<w.heap.size
 apart:∀ (id:Nat) (hd:Hd) (b:Nat),own id=some hd->b∈hd.bs->¬F b
 inj:∀ (i j:Nat) (hi hj:Hd) (b:Nat),own i=some hi->own j=some hj->b∈hi.bs->b∈hj.bs->i=j
 lt:∀ (id:Nat) (hd:Hd) (b:Nat),own id=some hd->b∈hd.bs->b<w.heap.size
 obs:∀ (id:Nat),co (al h id)=false->∃ hd,own id=some hd/\ObRel F own w hd (al h id)
theorem Hp.at {h:List Ob}(hp:Hp F own w h){id:Nat}{o:Ob}(ho:al h id=o)(hd:co o=false):∃ hd,own id=some hd/\ObRel F own w hd o:=by
 subst ho;exact hp.obs id hd
theorem Hp.upd {h h':List Ob}(hp:Hp F own w h)(g:Goes F own w own' w')(U:Nat->Prop)(hlen:h.length<=h'.length)
  (same:∀ id,¬U id->own' id=own id/\al h' id=al h id/\∀ hd b,own id=some hd->b∈hd.bs->w'.heap[b]? =w.heap[b]?)
  (new:∀ id hd,U id->own' id=some hd->id<h'.length/\∀ b∈hd.bs,b<w'.heap.size/\¬F b/\∀ j hj,j≠id->own' j=some hj->b ∉ hj.bs)
  (obs:∀ id,U id->co (al h' id)=false->∃ hd,own' id=some hd/\ObRel F own' w' hd (al h' id)):Hp F own' w' h':=by
 refine⟨fun id hd h1=>?_,fun b hb=>Nat.lt_of_lt_of_le (hp.foreign b hb) g.size,fun id hd b h1 h2=>?_,fun i j hi hj b h1 h2 h3 h4=>?_,fun id hd b h1 h2=>?_,fun id hd=>?_⟩
 ·by_cases hu:U id
  ·exact(new id hd hu h1).1
  ·rw[(same id hu).1]at h1;exact Nat.lt_of_lt_of_le (hp.dom id hd h1) hlen
 ·by_cases hu:U id
  ·exact((new id hd hu h1).2 b h2).2.1
  ·rw[(same id hu).1]at h1;exact hp.apart id hd b h1 h2
 ·by_cases hui:U i
  ·exact Classical.byContradiction fun hne=>((new i hi hui h1).2 b h3).2.2 j hj (fun e=>hne e.symm) h2 h4
  ·by_cases huj:U j
   ·exact Classical.byContradiction fun hne=>((new j hj huj h2).2 b h4).2.2 i hi (fun e=>hne e) h1 h3
   ·rw[(same i hui).1]at h1;rw[(same j huj).1]at h2;exact hp.inj i j hi hj b h1 h2 h3 h4
 ·by_cases hu:U id
  ·exact((new id hd hu h1).2 b h2).1
  ·rw[(same id hu).1]at h1;exact Nat.lt_of_lt_of_le (hp.lt id hd b h1 h2) g.size
 ·by_cases hu:U id
  ·exact obs id hu hd
  ·obtain⟨e1,e2,e3⟩:=same id hu;rw[e2]at hd |-;obtain⟨hdd,q1,q2⟩:=hp.obs id hd;exact⟨hdd,by rw[e1];exact q1,q2.carry g.carries g.size fun b hb=>e3 hdd b q1 hb⟩
theorem Hp.goes {h:List Ob}(hp:Hp F own w h)(g:Goes F own w own w')(hown:∀ (id:Nat) (hd:Hd) (b:Nat),own id=some hd->b∈hd.bs->w'.heap[b]? =w.heap[b]?):Hp F own w' h:=
 hp.upd g (fun _=>False) (Nat.le_refl _) (fun id _=>⟨rfl,rfl,fun hd b h1 h2=>hown id hd b h1 h2⟩) (fun _ _ hu=>hu.elim) (fun _ hu=>hu.elim)
theorem Hp.below {h:List Ob}(hp:Hp F own w h)(hb:Below w.heap.size w w'):Hp F own w' h:=
 hp.goes (Goes.below F own hb) fun id hd b h1 h2=>hb.block b (hp.lt id hd b h1 h2)
structure NxOk (own:Own)(h:List Ob)(nx:Nat):Prop where
 none:own nx=none
 dead:al h nx=.dead
theorem Hp.nx {h:List Ob}(hp:Hp F own w h):NxOk own h h.length:=by
 refine⟨?_,pe (Nat.le_refl _)⟩;cases ho:own h.length with
 |none=>rfl
 |some hd=>exact absurd (hp.dom _ _ ho) (Nat.lt_irrefl _)
def Own.set (own:Own)(id:Nat)(hd:Hd):Own:=fun j=>if j=id then some hd else own j
theorem Own.set_same (own:Own)(id:Nat)(hd:Hd):own.set id hd id=some hd:=by simp[Own.set]
theorem Own.set_other (own:Own){id j:Nat}(hd:Hd)(h:j≠id):own.set id hd j=own j:=by simp[Own.set,h]
structure Step (F:Nat->Prop)(own:Own)(w:World)(h':List Ob)(own':Own)(w':World):Prop where
 hp:Hp F own' w' h'
 fr:Fr { w:=w,own:=own} own' w'
 fresh:∀ id,own id=none->co (al h' id)=true->own' id=none
theorem uB {h:List Ob}(hp:Hp F own w h){nx:Nat}(hn:NxOk own h nx){w1:World}(hw1:w1.heap=w.heap/\w1.os=w.os/\w1.tape=w.tape/\w1.output=w.output)(o:Obj)(ob:Ob)(hd:Hd)(hbs:hd.bs=[w.heap.size])
  (hob:∀ own':Own,Goes F own w own' (w1.alloc o)->ObRel F own' (w1.alloc o) hd ob) (hnd:co ob=false:=by rfl):Step F own w (aW h nx ob) (own.set nx hd) (w1.alloc o):=by
 obtain⟨q1,q2,q3,q4⟩:=hw1;have hheap:(w1.alloc o).heap=w.heap.push o:=by show w1.heap.push o=_;rw[q1]
 have hold:∀ b,b<w.heap.size->(w1.alloc o).heap[b]? =w.heap[b]?:=fun b hb=>by rw[hheap,Array.getElem?_push_lt hb];simp[hb]
 have hsz:(w1.alloc o).heap.size=w.heap.size+1:=by rw[hheap];simp
 have ids:∀ (id:Nat) (hdd:Hd),own id=some hdd->∃ hd',own.set nx hd id=some hd'/\hdd.like hd':=fun id hdd h1=>by
  have hne:id≠nx:=fun e=>by rw[e,hn.none]at h1;cases h1
  exact⟨hdd,by rw[Own.set_other _ _ hne];exact h1,.refl _⟩
 have fr:Fr { w:=w,own:=own} (own.set nx hd) (w1.alloc o):=Fr.of_step ids (fun id hdd b h1 h2=>by
   by_cases hid:id=nx
   ·subst hid;rw[Own.set_same]at h1;cases h1;rw[hbs]at h2;simp at h2;exact .inr (by omega)
   ·rw[Own.set_other _ _ hid]at h1;exact .inl ⟨id,hdd,h1,h2⟩) (fun b hb _=>hold b hb) (by omega) q2 q3 q4
 have g:Goes F own w (own.set nx hd) (w1.alloc o):=fr.goes;refine⟨hp.upd g (· =nx) (by rw[bC];split <;>omega) (fun id hid=>⟨Own.set_other _ _ hid,by rw[b4,if_neg (fun e=>hid e.symm)],fun hdd b h1 h2=>hold b (hp.lt id hdd b h1 h2)⟩) (fun id hdd hid h1=>?_) (fun id hid _=>?_),fr,fun id h1 h2=>?_⟩
 rotate_left 2
 ·by_cases e:id=nx
  ·subst e;rw[b4,if_pos rfl,hnd]at h2;cases h2
  ·rw[Own.set_other _ _ e];exact h1
 ·subst hid;rw[Own.set_same]at h1;cases h1;refine⟨by rw[bC];split <;>omega,fun b hb=>?_⟩;rw[hbs]at hb;simp at hb;subst hb;refine⟨by omega,fun hf=>Nat.lt_irrefl _ (hp.foreign _ hf),fun j hj hne h2 h3=>?_⟩;rw[Own.set_other _ _ hne]at h2;exact Nat.lt_irrefl _ (hp.lt j hj _ h2 h3)
 ·subst hid;refine⟨hd,Own.set_same _ _ _,?_⟩;rw[b4,if_pos rfl];exact hob _ g
theorem qt {h:List Ob}(hp:Hp F own w h){id:Nat}{hd:Hd}(h1:own id=some hd){b:Nat}(hb:b∈hd.bs)(hsz:w'.heap.size=w.heap.size)(hold:∀ k,k≠b->w'.heap[k]? =w.heap[k]?)(q2:w'.os=w.os)(q3:w'.tape=w.tape)(q4:w'.output=w.output)(ob:Ob)
  (hob:Goes F own w own w'->ObRel F own w' hd ob):Step F own w (aW h id ob) own w':=by
 have hlt:=hp.dom id hd h1;have fr:Fr { w:=w,own:=own} own w':=Fr.of_step (fun _ hdd h=>⟨hdd,h,.refl _⟩) (fun id hdd b h1 h2=>.inl ⟨id,hdd,h1,h2⟩) (fun k _ hn=>hold k fun e=>hn ⟨id,hd,h1,e▸hb⟩) (by omega) q2 q3 q4;refine⟨hp.upd fr.goes (· =id) (by rw[bC,if_pos hlt];omega) (fun j hj=>⟨rfl,by rw[b4,if_neg (fun e=>hj e.symm)],fun hdd b' h2 h3=>hold b' fun e=>hj (hp.inj j id hdd hd b' h2 h1 h3 (e▸hb))⟩) (fun j hdd hj h2=>?_) (fun j hj _=>?_),fr,fun _ h1 _=>h1⟩
 ·subst hj;rw[h1]at h2;cases h2;exact⟨by rw[bC,if_pos hlt];exact hlt,fun b' hb'=>⟨by rw[hsz];exact hp.lt j hd b' h1 hb',hp.apart j hd b' h1 hb',fun i hi hne h3 h4=>hne (hp.inj i j hi hd b' h3 h1 h4 hb')⟩⟩
 ·subst hj;refine⟨hd,h1,?_⟩;rw[b4,if_pos rfl];exact hob fr.goes
theorem DL {h:List Ob}(hp:Hp F own w h){id:Nat}{hd:Hd}(h1:own id=some hd)(ob:Ob)(hob:ObRel F own w hd ob):Step F own w (aW h id ob) own w:=by
 have hlt:=hp.dom id hd h1;have fr:Fr { w:=w,own:=own} own w:=Fr.of_step (fun _ hdd h=>⟨hdd,h,.refl _⟩) (fun id hdd b h1 h2=>.inl ⟨id,hdd,h1,h2⟩) (fun _ _ _=>rfl) (Nat.le_refl _) rfl rfl rfl;refine⟨hp.upd fr.goes (· =id) (by rw[bC,if_pos hlt];omega) (fun j hj=>⟨rfl,by rw[b4,if_neg (fun e=>hj e.symm)],fun _ _ _ _=>rfl⟩) (fun j hdd hj h2=>?_) (fun j hj _=>?_),fr,fun _ h1 _=>h1⟩
 ·subst hj;rw[h1]at h2;cases h2;exact⟨by rw[bC,if_pos hlt];exact hlt,fun b' hb'=>⟨hp.lt j hd b' h1 hb',hp.apart j hd b' h1 hb',fun i hi hne h3 h4=>hne (hp.inj i j hi hd b' h3 h1 h4 hb')⟩⟩
 ·subst hj;exact⟨hd,h1,by rw[b4,if_pos rfl];exact hob⟩
theorem JM {ss ss':List Nat}{c c':Nat}(h:stV ss c=stV ss' c'):c=c'/\ss=ss':=by
 unfold stV at h;simp only[List.cons.injEq,Value.int.injEq,true_and]at h;refine⟨by omega,?_⟩;have h2:=h.2;clear h;induction ss generalizing ss' with
 |nil=>cases ss' with
  |nil=>rfl
  |cons a r=>cases h2
 |cons a r ih=>cases ss' with
  |nil=>cases h2
  |cons a' r'=>
   simp only[List.map_cons,List.cons.injEq,Value.int.injEq,true_and]at h2;rw[ih h2.2,show a=a' by omega]
theorem bv {t:TypeId}{ti:TI}(h:cw P t=some ti):∃ i d z,P.info? t=some i/\P.underlying t=some d/\i.zero=some z/\wp P d=true/\ti=c5 P t i d:=by
 unfold cw at h;split at h
 ·rename_i i d hi hd;cases hz:i.zero with
  |none=>simp[hz]at h
  |some z=>
   simp only[hz,Option.isSome_some,Bool.true_and]at h;cases hq:wp P d with
   |false=>simp[hq]at h
   |true=>simp[hq]at h;exact⟨i,d,z,hi,hd,hz,hq,h.symm⟩
 ·cases h
theorem dn {t:TypeId}{i:TypeInfo}(h:P.info? t=some i):(sizeOf t).run P w=.ok i.size w:=by
 simp[sizeOf,typeInfo,h]
theorem xr {t:TypeId}{d:TypeDesc}(h:P.underlying t=some d):(isAgg t).run P w=.ok (kS P t) w:=by
 simp only[isAgg,Sem.run_bind,run_underlying h,Result.andThen_ok,kS,h];cases d <;>simp
theorem ov (b o n:Nat):Addr.add ⟨b,o,none⟩ n=⟨b,o+n,none⟩:=by unfold Addr.add;split <;>simp_all
theorem dq {b:Nat}{cs:Array Value}{ty:TypeId}{fr:Nat×Nat}(h:w.heap[b]? =some (.cells cs ty fr))(j:Nat):w.cell? ⟨b,j,none⟩=cs[j]?:=by
 simp[World.cell?,h]
theorem BM {b:Nat}{cs:Array Value}{ty:TypeId}(h:w.heap[b]? =some (.cells cs ty (0,0)))(j:Nat):w.frozen? ⟨b,j,none⟩=false:=by
 simp[World.frozen?,h]
theorem yO {t:TypeId}{ti:TI}(ht:cw P t=some ti){l:List SV}{b o off:Nat}(c:Nat->Value)
  (hc:∀ (j:Nat) (s:SV),l[j]? =some s->w.cell? ⟨b,o+j,none⟩=some (c j)/\Rel F own w s (c j)) {s':SV} (hp:rM ti.agg ti.size l off=some s'):
  ∃ u,(loadVar t ⟨b,o+off,none⟩).run P w=.ok u w/\Rel F own w s' u:=by
 obtain⟨i,d,z,hi,hd,hz,hq,rfl⟩:=bv ht;simp only[c5]at hp;simp only[loadVar,Sem.run_bind,xr hd,Result.andThen_ok];cases ha:kS P t with
 |true=>
  simp only[rM,ha,cond_true,se,EL,A9]at hp;cases hb:Nat.ble (off+i.size) l.length with
  |false=>simp[hb]at hp
  |true=>
   simp only[hb,cond_true,Option.some.injEq]at hp;subst hp;have hle:off+i.size<=l.length:=nbl hb;simp only[if_true,Sem.run_bind,dn hi,Result.andThen_ok];rw[run_loadCells w ⟨b,o+off,none⟩ i.size (fun j=>c (off+j)) (fun j hj=>by
    have:=(hc (off+j) _ (List.getElem?_eq_getElem (by omega))).1;rw[ov,show o+off+j=o+(off+j) by omega];exact this)]
   refine⟨_,rfl,.agg (by simp;omega) fun j s hj=>?_⟩;have hj':j<i.size:=by
    rcases Nat.lt_or_ge j i.size with h|h
    ·exact h
    ·rw[List.getElem?_take,if_neg (by omega)]at hj;cases hj
   rw[List.getElem?_take,if_pos hj',List.getElem?_drop]at hj;simp only[Array.getD_eq_getD_getElem?];simp[hj'];exact(hc (off+j) s hj).2
 |false=>
  simp only[rM,ha,cond_false,fU]at hp;obtain⟨h1,h2⟩:=hc _ _ hp;refine⟨c off,?_,h2⟩;simp[h1]
theorem vh {o:Option SV}{s:SV}(h:uA o=.val s):o=some s:=by
 cases o with
 |none=>simp[uA]at h
 |some x=>simp[uA]at h;rw[h]
theorem rh {α:Type}{l:List α}{i:Nat}{d:α}(h:i<l.length):l[i]? =some (l.getD i d):=by simp[List.getD,h]
theorem RowAt.get {k:Tag}{l:List k.T}{o:Nat}{cs:Array Value}(h:RowAt F own w k l o cs){i:Nat}(hi:i<l.length){j:Nat}{s:SV}(hj:(cellsOf k (l.getD i (fS k)))[j]? =some s):
  cs[o+i*ae k+j]? =some (cs.getD (o+i*ae k+j) undef)/\Rel F own w s (cs.getD (o+i*ae k+j) undef):=by
 obtain⟨u,h1,h2⟩:=h i _ (rh hi) j s hj;have:cs.getD (o+i*ae k+j) undef=u:=by simp[Array.getD_eq_getD_getElem?,h1]
 rw[this];exact⟨h1,h2⟩
theorem GridIn.get {k:Tag}:∀ {l:List (List k.T)} {vs:List Value} {bs:List Nat} {i:Nat} {v:Value},GridIn F own w k l vs bs->vs[i]? =some v->∃ b1,q_ v=true/\i<l.length/\RowRel F own w k (l.getD i []) v b1/\∀ b∈b1,b∈bs
 | [],[],bs,i,v,_,h=>by simp at h
 |l::ls,u::vs,bs,0,v,⟨b1,b2,h1,h0,h2,h3⟩,h=>by simp at h;subst h;exact⟨b1,h0,by simp,h2,fun b hb=>by simp[h1,hb]⟩
 |l::ls,u::vs,bs,i+1,v,⟨b1,b2,h1,h0,h2,h3⟩,h=>by
  obtain⟨b3,q1,q2,q3,q4⟩:=GridIn.get h3 (by simpa using h);exact⟨b3,q1,by simp;omega,by simpa using q3,fun b hb=>by simp[h1,q4 b hb]⟩
 | [],_::_,_,_,_,h,_=>h.elim
 |_::_,[],_,_,_,h,_=>h.elim
theorem GridIn.len {k:Tag}:∀ {l:List (List k.T)} {vs:List Value} {bs:List Nat},GridIn F own w k l vs bs->vs.length=l.length
 | [],[],_,_=>rfl
 |l::ls,u::vs,bs,⟨b1,b2,h1,h0,h2,h3⟩ =>by simp[GridIn.len h3]
 | [],_::_,_,h=>h.elim
 |_::_,[],_,h=>h.elim
theorem Gi {h:List Ob}(hp:Hp F own w h){t:TypeId}{ti:TI}(ht:cw P t=some ti){s s':SV}{v:Value}(hr:Rel F own w s v)(hl:qZ ti h s=.val s'):
  ∃ u,(Instr.loadAt t v).run P w=.ok u w/\Rel F own w s' u:=by
 cases hr with
 |ptr h1 h2=>
  rename_i id off b hd;simp only[qZ]at hl;cases ho:al h id with
  |cells l=>
   rw[ho]at hl;have hpo:=vh hl;obtain⟨hd',e0,b',cs,ty,e1,e2,e3,e4,e5⟩:=hp.at ho rfl;rw[h1]at e0;cases e0;rw[h2]at e1;cases e1;have:=yO (P:=P) (w:=w) (F:=F) (own:=own) (b:=b) (o:=0) (off:=off) ht (fun j=>cs.getD j undef) (fun j s hj=>by
    refine⟨?_,e5 j s hj⟩;have hjl:j<cs.size:=by rw[e4];exact(List.getElem?_eq_some_iff.1 hj).1
    rw[Nat.zero_add,dq e3];simp[hjl]) hpo
   simpa[Instr.loadAt,Instr.sureAddr]using this
  |_=>rw[ho]at hl;simp[yH]at hl
 |ep c h1 h2=>
  rename_i cells off b o;simp only[qZ]at hl;have hpo:=vh hl;have:=yO (P:=P) (w:=w) (F:=F) (own:=own) (b:=b) (o:=o) (off:=off) ht c (fun j s hj=>⟨(h1 j s hj).2,h2 j s hj⟩) hpo;simpa[Instr.loadAt,Instr.sureAddr]using this
 |rp h1 h2 h3=>
  rename_i szt id off n cap b o i hd;simp only[qZ]at hl;cases ho:al h id with
  |row k l=>
   rw[ho]at hl;simp only[Bv]at hl;cases hb:Nat.beq szt (ae k)with
   |false=>rw[hb]at hl;cases hl
   |true=>
    rw[hb]at hl;have hsz:=Nat.eq_of_beq_eq_true hb;have hpo:=vh hl;obtain⟨hd',e0,e⟩:=hp.at ho rfl;rw[h1]at e0;cases e0;rcases e with⟨a,e1,_⟩ | ⟨b',o',cap',cs,ty,e1,e2,e3,e4,e5,e6,e7⟩
    ·rw[h2]at e1;cases e1;omega
    ·rw[h2]at e1;simp only[Value.slice.injEq,Option.some.injEq,Addr.mk.injEq]at e1;obtain⟨⟨rfl,rfl,_⟩,rfl,rfl⟩:=e1;have:=yO (P:=P) (w:=w) (F:=F) (own:=own) (b:=b) (o:=o+i.toNat*szt) (off:=off) ht (fun j=>cs.getD (o+i.toNat*ae k+j) undef) (fun j s hj=>by
      have:=e7.get h3 hj;rw[dq e3,hsz];exact this) hpo
     simpa[Instr.loadAt,Instr.sureAddr]using this
  |grid k l=>
   rw[ho]at hl;simp only[Bv]at hl;cases hb:Nat.beq szt 1&&Nat.beq off 0&& !ti.agg with
   |false=>rw[hb]at hl;cases hl
   |true=>
    rw[hb]at hl;simp only[Bool.and_eq_true,Bool.not_eq_true']at hb;have hs1:=Nat.eq_of_beq_eq_true hb.1.1;have hs2:=Nat.eq_of_beq_eq_true hb.1.2;subst hs1;subst hs2;simp only[cond_true,OR.val.injEq]at hl;subst hl;obtain⟨hd',e0,e⟩:=hp.at ho rfl;rw[h1]at e0;cases e0;rcases e with⟨e1,_⟩ | ⟨b',o',cap',cs,ty,bs,e1,e2,e3,e4,e5,e6,e7,e8,e9⟩
    ·rw[h2]at e1;cases e1
    ·rw[h2]at e1;simp only[Value.slice.injEq,Option.some.injEq,Addr.mk.injEq]at e1;obtain⟨⟨rfl,rfl,_⟩,rfl,rfl⟩:=e1;have hlen:=e9.len;have hv:hd.vs[i.toNat]? =some (hd.vs.getD i.toNat undef):=rh (by rw[hlen];exact h3);obtain⟨b1,q1,q2,q3,q4⟩:=e9.get hv;refine⟨_,?_,.gr h1 hv q1⟩;obtain⟨i',d,z,hi,hdd,hz,hq,rfl⟩:=bv ht;have hcell:w.cell? ⟨b,o+i.toNat,none⟩=some (hd.vs.getD i.toNat undef):=by rw[dq e4];exact e8 _ _ hv
     have hag:kS P t=false:=hb.2;simp[Instr.loadAt,Instr.sureAddr,loadVar,xr hdd,hag,hcell]
  |_=>rw[ho]at hl;simp[Bv]at hl
 |gp h1 h2 h3=>
  rename_i szt id off n cap b o i j hd;simp only[qZ]at hl;cases ho:al h id with
  |grid k l=>
   rw[ho]at hl;simp only[zL]at hl;cases hb:Nat.beq szt (ae k)with
   |false=>rw[hb]at hl;cases hl
   |true=>
    rw[hb]at hl;have hsz:=Nat.eq_of_beq_eq_true hb;have hpo:=vh hl;obtain⟨hd',e0,e⟩:=hp.at ho rfl;rw[h1]at e0;cases e0;rcases e with⟨_,_,e1,_⟩ | ⟨b',o',cap',cs,ty,bs,e1,e2,e3,e4,e5,e6,e7,e8,e9⟩
    ·rw[e1]at h2;simp at h2
    ·obtain⟨b1,q1,q2,q3,q4⟩:=e9.get h2;rcases q3 with⟨a,k1,_⟩ | ⟨b2,o2,cap2,cs2,ty2,k1,k2,k3,k4,k5,k6,k7⟩
     ·cases k1;omega
     ·simp only[Value.slice.injEq,Option.some.injEq,Addr.mk.injEq]at k1;obtain⟨⟨rfl,rfl,_⟩,rfl,rfl⟩:=k1;have:=yO (P:=P) (w:=w) (F:=F) (own:=own) (b:=b) (o:=o+j.toNat*szt) (off:=off) ht (fun q=>cs2.getD (o+j.toNat*ae k+q) undef) (fun q s hj=>by
       have:=k7.get h3 hj;rw[dq k3,hsz];exact this) hpo
      simpa[Instr.loadAt,Instr.sureAddr]using this
  |_=>rw[ho]at hl;simp[zL]at hl
 |_=>simp[qZ]at hl
theorem JN {t:TypeId}{ti:TI}(ht:cw P t=some ti){f:Nat}{x:Nat×Nat×Bool}(hf:nth ti.fields f=some x):
  ∃ fs fd,P.underlying t=some (.struct fs)/\fs[f]? =some fd/\x=(fd.offset,n_ P fd.type,kS P fd.type):=by
 obtain⟨i,d,z,hi,hd,hz,hq,rfl⟩:=bv ht;simp only[c5,fU]at hf;cases d <;>simp at hf;rename_i fs;obtain⟨fd,h1,h2⟩:=hf;exact⟨fs,fd,hd,h1,h2.symm⟩
theorem PL {s s':SV}{v:Value}{n:Nat}(hr:Rel F own w s v)(h:yI n s=.val s'):
  ∃ b o,v=.pointer (some ⟨b,o,none⟩)/\Rel F own w s' (.pointer (some ⟨b,o+n,none⟩)):=by
 cases hr with
 |ptr h1 h2=>simp only[yI,OR.val.injEq]at h;subst h;exact⟨_,_,rfl,.ptr h1 h2⟩
 |ep c h1 h2=>simp only[yI,OR.val.injEq]at h;subst h;exact⟨_,_,rfl,by rw[Nat.add_assoc];exact .ep c h1 h2⟩
 |rp h1 h2 h3=>simp only[yI,OR.val.injEq]at h;subst h;exact⟨_,_,rfl,by rw[Nat.add_assoc];exact .rp h1 h2 h3⟩
 |gp h1 h2 h3=>simp only[yI,OR.val.injEq]at h;subst h;exact⟨_,_,rfl,by rw[Nat.add_assoc];exact .gp h1 h2 h3⟩
 |_=>simp[yI]at h
theorem EN {t:TypeId}{ti:TI}(ht:cw P t=some ti){f o n:Nat}{g:Bool}(hf:nth ti.fields f=some (o,n,g))(hn:1<=n){s s':SV}{v:Value}
  (hr:Rel F own w s v) (h:yI o s=.val s'):∃ u,(Instr.fieldAt t v f).run P w=.ok u w/\Rel F own w s' u:=by
 obtain⟨fs,fd,hu,hfd,he⟩:=JN ht hf;obtain⟨b,q,rfl,hs⟩:=PL hr h;simp only[Prod.mk.injEq]at he;obtain⟨rfl,rfl,rfl⟩:=he;refine⟨_,?_,hs⟩;have hsz:(sizeOf fd.type).run P w=.ok (n_ P fd.type) w:=by
  cases hi:P.info? fd.type with
  |none=>simp[n_,hi]at hn
  |some i=>simp[dn hi,n_,hi]
 simp only[Instr.fieldAt,Sem.run_bind,run_underlying hu,Result.andThen_ok,hfd,Instr.sureAddr,Sem.run_pure,fieldPlace,hsz];rw[if_neg (by omega)];simp[ov]
theorem Lm {t:TypeId}{ti:TI}(ht:cw P t=some ti){f:Nat}{s s':SV}{v:Value}(hr:Rel F own w s v)(h:sM (nth ti.fields f) (yF s)=.val s'):
  ∃ u,(Instr.field t v f).run P w=.ok u w/\Rel F own w s' u:=by
 cases hf:nth ti.fields f with
 |none=>simp[hf,sM]at h
 |some x=>
  obtain⟨o,n,g⟩:=x;obtain⟨fs,fd,hu,hfd,he⟩:=JN ht hf;simp only[Prod.mk.injEq]at he;obtain⟨rfl,rfl,rfl⟩:=he;obtain⟨i,d,z,hi,hd,hz,hq,rfl⟩:=bv ht;rw[hd]at hu;cases hu;have hq':(P.info? fd.type).isSome/\(P.underlying fd.type).isSome:=by
   simp only[wp,List.all_eq_true,Bool.and_eq_true]at hq;exact hq fd (by have:=Array.mem_of_getElem? hfd;simpa using this)
  obtain⟨fi,hfi⟩:=Option.isSome_iff_exists.1 hq'.1;obtain⟨fd',hfu⟩:=Option.isSome_iff_exists.1 hq'.2;have key:∀ (l:List SV) (vs:Array Value),vs.size=l.length->(∀ (j:Nat) (s:SV),l[j]? =some s->Rel F own w s (vs.getD j undef))->sM (some (fd.offset,n_ P fd.type,kS P fd.type)) (some l)=.val s'->
    ∃ u,(part fd.type vs fd.offset).run P w=.ok u w/\Rel F own w s' u:=by
   intro l vs hl hrel hfs;simp only[sM]at hfs;cases hp:rM (kS P fd.type) (n_ P fd.type) l fd.offset with
   |none=>simp[hp,uA]at hfs
   |some q=>
    simp only[hp,uA,OR.val.injEq]at hfs;subst hfs;simp only[n_,hfi]at hp;simp only[part,Sem.run_bind,xr hfu,Result.andThen_ok];cases ha:kS P fd.type with
    |true=>
     simp only[rM,ha,cond_true,se,EL,A9]at hp;cases hb:Nat.ble (fd.offset+fi.size) l.length with
     |false=>simp[hb]at hp
     |true=>
      simp only[hb,cond_true,Option.some.injEq]at hp;subst hp;have hle:=nbl hb;simp only[if_true,Sem.run_bind,dn hfi,Result.andThen_ok,Sem.run_pure];refine⟨_,rfl,.agg (by simp;omega) fun j s hj=>?_⟩;have hj':j<fi.size:=by
       rcases Nat.lt_or_ge j fi.size with h|h
       ·exact h
       ·rw[List.getElem?_take,if_neg (by omega)]at hj;cases hj
      rw[List.getElem?_take,if_pos hj',List.getElem?_drop]at hj;have:=hrel (fd.offset+j) s hj;simp only[Array.getD_eq_getD_getElem?]at this |-;rw[Array.getElem?_extract_of_lt (by omega)]
      rwa[Array.getElem?_eq_getElem (by omega)]at this
    |false=>
     simp only[rM,ha,cond_false,fU]at hp;have h1:=hrel _ _ hp;have hlt:fd.offset<vs.size:=by rw[hl];exact(List.getElem?_eq_some_iff.1 hp).1
     refine⟨vs.getD fd.offset undef,?_,h1⟩;simp[hlt]
  cases hr with
  |agg h0 h1=>
   simp only[yF]at h;rw[hf]at h;obtain⟨u,hu,hru⟩:=key _ _ h0 h1 h;exact⟨u,by simp only[Instr.field,Sem.run_bind,run_underlying hd,Result.andThen_ok,hfd,asAgg,Sem.run_pure,hu],hru⟩
  |v x=>
   cases v with
   |agg cs=>
    simp only[yF]at h;rw[hf]at h;obtain⟨u,hu,hru⟩:=key (cs.toList.map .v) cs (by simp) (fun j s hj=>by
     simp at hj;obtain⟨z,hz,rfl⟩:=hj;simp[hz];exact .v _) h
    exact⟨u,by simp only[Instr.field,Sem.run_bind,run_underlying hd,Result.andThen_ok,hfd,asAgg,Sem.run_pure,hu],hru⟩
   |_=>simp[yF,sM]at h
  |_=>simp[yF,sM]at h
end
section
variable {P:Program}{F:Nat->Prop}{own:Own}{w:World}
theorem tQ (k:IntKind)(n:Int):(asIntOf (.int k n)).run P w=.ok (k,n) w:=rfl
theorem ri {t:TypeId}{e:TypeId}{ie:TypeInfo}(hd:P.underlying t=some (.slice e))(hie:P.info? e=some ie){b o n cap:Nat}{k:IntKind}{i:Int}(h0:0<=i)(h1:i.toNat<n):
  (Instr.indexAt t (.slice (some ⟨b,o,none⟩) n cap) (.int k i)).run P w=.ok (.pointer (some ⟨b,o+i.toNat*ie.size,none⟩)) w:=by
 simp only[Instr.indexAt,Sem.run_bind,tQ,Result.andThen_ok,run_underlying hd,Sem.run_pure];rw[Sem.run_ite,if_pos (by omega)];simp[dn hie,ov]
theorem zN {t:TypeId}{e:TypeId}{len:Nat}{ie:TypeInfo}(hd:P.underlying t=some (.array len e))(hie:P.info? e=some ie){b o:Nat}{k:IntKind}{i:Int}(hc:0<=i/\i< (len:Int)):
  (Instr.indexAt t (.pointer (some ⟨b,o,none⟩)) (.int k i)).run P w=.ok (.pointer (some ⟨b,o+i.toNat*ie.size,none⟩)) w:=by
 simp only[Instr.indexAt,Sem.run_bind,tQ,Result.andThen_ok,run_underlying hd,Instr.sureAddr,Sem.run_pure];rw[Sem.run_ite,if_pos hc];simp[dn hie,ov]
theorem Ln {h:List Ob}(hp:Hp F own w h){t:TypeId}{ti te:TI}(ht:cw P t=some ti)(hte:cw P ti.elem=some te){s si:SV}{v vi:Value}{r:OR}
  (hr:Rel F own w s v) (hri:Rel F own w si vi) (he:hM ti te.size h s si=r) (hne:r≠ .bad):
  ∃ c s',r=.chk c s'/\(c->∃ u,(Instr.indexAt t v vi).run P w=.ok u w/\Rel F own w s' u):=by
 obtain⟨i,d,z,hi,hd,hz,hq,rfl⟩:=bv ht;obtain⟨ie,de,ze,hie,hde,hze,hqe,hte'⟩:=bv hte;have hes:te.size=ie.size:=by rw[hte'];rfl
 have key:∀ k n,si=.v (.int k n)->∃ c s',r=.chk c s'/\(c->∃ u,(Instr.indexAt t v (.int k n)).run P w=.ok u w/\Rel F own w s' u):=by
  rintro k n rfl;have slice:(c5 P t i d).isSlice=true->∃ e,d=.slice e/\P.info? e=some ie:=fun hs=>by
   cases d <;>simp[c5]at hs;exact⟨_,rfl,by simpa[c5]using hie⟩
  have arr:(c5 P t i d).isArr=true->∃ len e,d=.array len e/\P.info? e=some ie/\(c5 P t i d).len=len:=fun hs=>by
   cases d <;>simp[c5]at hs;exact⟨_,_,rfl,by simpa[c5]using hie,rfl⟩
  cases hr with
  |rs cf h0 h0' h1 h2=>
   rename_i kt l b o cap;simp only[hM]at he;cases hb:(c5 P t i d).isSlice&&Nat.beq te.size (ae kt)with
   |false=>rw[hb]at he;exact absurd he.symm hne
   |true=>
    rw[hb]at he;simp only[cond_true]at he;simp only[Bool.and_eq_true]at hb;obtain⟨e,rfl,hie'⟩:=slice hb.1;have hsz:te.size=ae kt:=Nat.eq_of_beq_eq_true hb.2;refine⟨_,_,he.symm,fun hc=>⟨_,ri hd hie' hc.1 (by omega),?_⟩⟩;have hlt:n.toNat<l.length:=by omega
    have:=Rel.ep (F:=F) (own:=own) (w:=w) (cells:=cellsOf kt (l.getD n.toNat (fS kt))) (off:=0) (b:=b) (o:=o+n.toNat*ae kt) (cf n.toNat)
     (fun j s hj=>h1 n.toNat _ (rh hlt) j s hj) (fun j s hj=>h2 n.toNat _ (rh hlt) j s hj)
    rw[<-hes,hsz];exact this
  |rs0=>
   rename_i kt a cap;simp only[hM]at he;cases hb:(c5 P t i d).isSlice&&Nat.beq te.size (ae kt)with
   |false=>rw[hb]at he;exact absurd he.symm hne
   |true=>
    rw[hb]at he;simp only[cond_true]at he;exact⟨_,_,he.symm,fun hc=>by simp at hc;omega⟩
  |os h1 h2=>
   rename_i id hdd;simp only[hM]at he;cases hb:(c5 P t i d).isSlice with
   |false=>rw[hb]at he;exact absurd he.symm hne
   |true=>
    rw[hb]at he;simp only[cond_true]at he;obtain⟨e,rfl,hie'⟩:=slice hb;cases ho:al h id with
    |row kt l=>
     rw[ho]at he;simp only[Bw]at he;cases hbe:Nat.beq te.size (ae kt)with
     |false=>rw[hbe]at he;exact absurd he.symm hne
     |true=>
      rw[hbe]at he;simp only[cond_true]at he;obtain⟨hd',e0,e1⟩:=hp.at ho rfl;rw[h1]at e0;cases e0;refine⟨_,_,he.symm,fun hc=>?_⟩;rcases e1 with⟨a,q1,rfl,_⟩ | ⟨b,o,cap,cs,ty,q1,q2,q3,q4,q5,q6,q7⟩
      ·simp at hc;omega
      ·rw[q1];refine⟨_,ri hd hie' hc.1 (by omega),?_⟩;have:=Rel.rp (F:=F) (own:=own) (w:=w) (sz:=te.size) (off:=0) (i:=n) h1 q1 (by omega);rw[<-hes];simpa using this
    |grid kt l=>
     rw[ho]at he;simp only[Bw]at he;cases hbe:Nat.beq te.size 1 with
     |false=>rw[hbe]at he;exact absurd he.symm hne
     |true=>
      rw[hbe]at he;simp only[cond_true]at he;have hsz:=Nat.eq_of_beq_eq_true hbe;obtain⟨hd',e0,e1⟩:=hp.at ho rfl;rw[h1]at e0;cases e0;refine⟨_,_,he.symm,fun hc=>?_⟩;rcases e1 with⟨q1,rfl,_⟩ | ⟨b,o,cap,cs,ty,bs,q1,q2,q3,q4,q5,q6,q7,q8,q9⟩
      ·simp at hc;omega
      ·rw[q1];refine⟨_,ri hd hie' hc.1 (by omega),?_⟩;have:=Rel.rp (F:=F) (own:=own) (w:=w) (sz:=1) (off:=0) (i:=n) h1 q1 (by omega);rw[<-hes,hsz];simpa using this
    |_=>rw[ho]at he;exact absurd he.symm hne
  |gr h1 h2 h3=>
   rename_i id q hdd;simp only[hM]at he;cases hb:(c5 P t i d).isSlice with
   |false=>rw[hb]at he;exact absurd he.symm hne
   |true=>
    rw[hb]at he;simp only[cond_true]at he;obtain⟨e,rfl,hie'⟩:=slice hb;cases ho:al h id with
    |grid kt l=>
     rw[ho]at he;simp only[Ez]at he;cases hbe:Nat.beq te.size (ae kt)with
     |false=>rw[hbe]at he;exact absurd he.symm hne
     |true=>
      rw[hbe]at he;simp only[cond_true]at he;obtain⟨hd',e0,e1⟩:=hp.at ho rfl;rw[h1]at e0;cases e0;refine⟨_,_,he.symm,fun hc=>?_⟩;rcases e1 with⟨_,_,q1,_⟩ | ⟨b,o,cap,cs,ty,bs,q1,q2,q3,q4,q5,q6,q7,q8,q9⟩
      ·rw[q1]at h2;simp at h2
      ·obtain⟨b1,k1,k2,k3,k4⟩:=q9.get h2;rcases k3 with⟨a,m1,m2,_⟩ | ⟨b2,o2,cap2,cs2,ty2,m1,m2,m3,m4,m5,m6,m7⟩
       ·rw[m2]at hc;simp at hc;omega
       ·subst m1;refine⟨_,ri hd hie' hc.1 (by omega),?_⟩;have:=Rel.gp (F:=F) (own:=own) (w:=w) (sz:=te.size) (off:=0) (i:=q) (j:=n) h1 h2 (by omega);rw[<-hes];simpa using this
    |_=>rw[ho]at he;exact absurd he.symm hne
  |ls cf h0 h1 h2=>
   rename_i l b o cap;simp only[hM]at he;cases hb:(c5 P t i d).isSlice&&Nat.beq te.size 1 with
   |false=>rw[hb]at he;exact absurd he.symm hne
   |true=>
    rw[hb]at he;simp only[cond_true]at he;simp only[Bool.and_eq_true]at hb;obtain⟨e,rfl,hie'⟩:=slice hb.1;have hsz:=Nat.eq_of_beq_eq_true hb.2;rw[fU]at he;cases hx:l[n.toNat]? with
    |none=>rw[hx]at he;exact absurd he.symm hne
    |some x=>
     rw[hx]at he;have hlt:=(List.getElem?_eq_some_iff.1 hx).1;refine⟨_,_,he.symm,fun hc=>⟨_,ri hd hie' hc hlt,?_⟩⟩;have:=Rel.ep (F:=F) (own:=own) (w:=w) (cells:=[x]) (off:=0) (b:=b) (o:=o+n.toNat) (fun _=>cf n.toNat)
      (fun j s hj=>by cases j with
       |zero=>simp at hj;subst hj;exact h1 _ _ hx
       |succ j=>simp at hj) (fun j s hj=>by cases j with
       |zero=>simp at hj;subst hj;exact h2 _ _ hx
       |succ j=>simp at hj)
     rw[<-hes,hsz];simpa using this
  |ptr h1 h2=>
   simp only[hM]at he;cases hb:(c5 P t i d).isArr with
   |false=>rw[hb]at he;exact absurd he.symm hne
   |true=>
    rw[hb]at he;simp only[cond_true]at he;obtain⟨len,e,rfl,hie',hl⟩:=arr hb;exact⟨_,_,he.symm,fun hc=>⟨_,zN hd hie' hc,by rw[<-hes];exact .ptr h1 h2⟩⟩
  |ep cf h1 h2=>
   simp only[hM]at he;cases hb:(c5 P t i d).isArr with
   |false=>rw[hb]at he;exact absurd he.symm hne
   |true=>
    rw[hb]at he;simp only[cond_true]at he;obtain⟨len,e,rfl,hie',hl⟩:=arr hb;exact⟨_,_,he.symm,fun hc=>⟨_,zN hd hie' hc,by rw[<-hes,Nat.add_assoc];exact .ep cf h1 h2⟩⟩
  |rp h1 h2 h3=>
   simp only[hM]at he;cases hb:(c5 P t i d).isArr with
   |false=>rw[hb]at he;exact absurd he.symm hne
   |true=>
    rw[hb]at he;simp only[cond_true]at he;obtain⟨len,e,rfl,hie',hl⟩:=arr hb;exact⟨_,_,he.symm,fun hc=>⟨_,zN hd hie' hc,by rw[<-hes,Nat.add_assoc];exact .rp h1 h2 h3⟩⟩
  |_=>simp only[hM]at he;exact absurd he.symm hne
 cases hri with
 |v=>
  cases vi with
  |int k n=>exact key k n rfl
  |_=>cases s <;>first|(simp only[hM]at he;exact absurd he.symm hne) |(exact absurd he.symm hne)
 |_=>cases s <;>first|(simp only[hM]at he;exact absurd he.symm hne) |(exact absurd he.symm hne)
theorem Ic {k k':IntKind}(h:Nat.beq (kN k) (kN k')=true):k=k':=by
 cases k <;>cases k' <;>simp[kN]at h <;>rfl
theorem Gj {op:BinOp}{k k':IntKind}(h:yG op k k'=true)(h1:op≠ .shl)(h2:op≠ .shr):k=k':=by
 cases op <;>simp only[yG]at h <;>first|exact Ic h|exact absurd rfl h1|exact absurd rfl h2
theorem Lo {op:BinOp}{k k':IntKind}{a b:Int}{s:SV}{ty:TypeId}(hs:yG op k k'=true)(h:uz op k a b=.val s):∃ u,(binOp op ty (.int k a) (.int k' b)).run P w=.ok u w/\s=.v u:=by
 by_cases h1:op=.shl
 ·subst h1;simp[uz]at h
 ·by_cases h2:op=.shr
  ·subst h2;simp[uz]at h
  ·obtain rfl:=Gj hs h1 h2;cases op <;>simp[uz]at h <;>subst h <;>exact⟨_,by simp[binOp,Op.intArith,Op.intCmp,Op.intBits,wa,orI,XD,nv],rfl⟩
theorem Lp {op:BinOp}{k k':IntKind}{a b:Int}{s:SV}{ty:TypeId}{c:Prop}(hs:yG op k k'=true)(h:uz op k a b=.chk c s)(hc:c):∃ u,(binOp op ty (.int k a) (.int k' b)).run P w=.ok u w/\s=.v u:=by
 by_cases ho:op=.shr
 ·subst ho;simp only[uz,OR.chk.injEq]at h;obtain⟨rfl,rfl⟩:=h;refine⟨.int k (XC k a b),?_,rfl⟩;simp only[binOp];unfold Op.shift;rw[if_neg (Int.not_lt.2 hc)];rfl
 ·by_cases h1:op=.shl
  ·subst h1;simp only[uz,OR.chk.injEq]at h;obtain⟨rfl,rfl⟩:=h;refine⟨.int k (zK k a b),?_,rfl⟩;simp only[binOp];unfold Op.shift;rw[if_neg (Int.not_lt.2 hc)];rfl
  ·obtain rfl:=Gj hs h1 ho;cases op <;>simp only[uz,OR.chk.injEq,reduceCtorEq]at h <;>first|exact absurd rfl ho|exact absurd rfl h1|(obtain⟨rfl,rfl⟩:=h;exact⟨_,by simp[binOp,Op.intDiv,hc],rfl⟩)
theorem uC {k k':Tag}(h:Nat.beq (yD k) (yD k')=true):k=k':=by
 have h':=Nat.eq_of_beq_eq_true h;cases k <;>cases k' <;>first|rfl|(simp[yD]at h';done)
theorem Aq (op:BinOp)(t:TypeId)(x y:Operand)(k k':IntKind)(a b:Int):(eqGuard op t x y (.int k a) (.int k' b)).run P w=.ok () w:=by
 cases op <;>simp[eqGuard]
theorem Id {op:BinOp}{k k':IntKind}{a b:Int}{r:OR}(h:S7 op (.v (.int k a)) (.v (.int k' b))=r)(hr:r≠ .bad):yG op k k'=true/\r=uz op k a b:=by
 unfold S7 at h;simp only at h;cases hb:yG op k k' with
 |false=>simp[hb]at h;exact absurd h.symm hr
 |true=>simp[hb]at h;exact⟨rfl,h.symm⟩
end
def RelL (F:Nat->Prop)(own:Own)(w:World)(l:List SV)(vs:Array Value):Prop:=vs.size=l.length/\∀ (j:Nat) (s:SV),l[j]? =some s->Rel F own w s (vs.getD j undef)
section
variable {P:Program}{F:Nat->Prop}{own:Own}{w:World}
theorem RelL.mono {own':Own}{w':World}(g:Goes F own w own' w'){l:List SV}{vs:Array Value}(h:RelL F own w l vs):RelL F own' w' l vs:=⟨h.1,fun j s hj=>(h.2 j s hj).mono g⟩
theorem DM (off:Nat):∀ (l:List Value) (k:Nat) (cs:Array Value),off+k+l.length<=cs.size->
  ((l.zipIdx k).foldl (fun(cs:Array Value) (x:Value×Nat) =>cs.setIfInBounds (off+x.2) x.1) cs).size=cs.size/\
  ∀ j,((l.zipIdx k).foldl (fun(cs:Array Value) (x:Value×Nat) =>cs.setIfInBounds (off+x.2) x.1) cs)[j]? =if off+k<=j/\j<off+k+l.length then l[j - off - k]? else cs[j]?
 | [],k,cs,_=>by
  refine⟨by simp,fun j=>?_⟩;simp only[List.zipIdx_nil,List.foldl_nil,List.length_nil];rw[if_neg (by omega)]
 |x::xs,k,cs,h=>by
  simp only[List.length_cons]at h;obtain⟨h1,h2⟩:=DM off xs (k+1) (cs.setIfInBounds (off+k) x) (by simp;omega);simp only[List.zipIdx_cons,List.foldl_cons];refine⟨by rw[h1];simp,fun j=>?_⟩;rw[h2];by_cases hj:off+(k+1)<=j/\j<off+(k+1)+xs.length
  ·rw[if_pos hj,if_pos (by simp;omega),show j - off - k=(j - off - (k+1))+1 by omega,List.getElem?_cons_succ]
  ·rw[if_neg hj,Array.getElem?_setIfInBounds];by_cases hjo:off+k=j
   ·subst hjo;rw[if_pos rfl,if_pos (by omega),if_pos (by simp)];simp
   ·rw[if_neg hjo,if_neg (by simp;omega)]
theorem Gk (v:Value)(off:Nat)(cs:Array Value)(h:off+v.cells.size<=cs.size):
  (v.cells.zipIdx.foldl (fun cs (c,j) =>cs.setIfInBounds (off+j) c) cs).size=cs.size/\
  ∀ j,(v.cells.zipIdx.foldl (fun cs (c,j) =>cs.setIfInBounds (off+j) c) cs)[j]? =if off<=j/\j<off+v.cells.size then v.cells[j - off]? else cs[j]?:=by
 have:=DM off v.cells.toList 0 cs (by simpa using h);rw[<-Array.foldl_toList,Array.toList_zipIdx];simpa using this
theorem mE {vs ws:Array Value}{i j:Nat}(h:vs[i]? =ws[j]?):vs.getD i undef=ws.getD j undef:=by
 simp only[Array.getD_eq_getD_getElem?,h]
theorem A_ {place place':Nat->Option (Nat×Nat)}(hpl:∀ i,place' i=place i):∀ (ps:List (Nat×SV)) (vps:List (Nat×Value)) (cells l:List SV) (vs:Array Value),RelL F own w cells vs->
  (ps.map (·.1)=vps.map (·.1))->(∀ (j:Nat) (x:Nat×SV) (y:Nat×Value),ps[j]? =some x->vps[j]? =some y->Rel F own w x.2 y.2)->mA place cells ps=some l->
  ∃ vs',Instr.fill place' vs vps=some vs'/\RelL F own w l vs'
 | [],[],cells,l,vs,hr,_,_,h=>by
  simp[mA]at h;subst h;exact⟨vs,rfl,hr⟩
 | [],_::_,_,_,_,_,h,_,_=>by simp at h
 |_::_,[],_,_,_,_,h,_,_=>by simp at h
 |(i,s)::ps,(i',v)::vps,cells,l,vs,hr,hm,hrel,h=>by
  simp only[List.map_cons,List.cons.injEq]at hm;obtain⟨rfl,hm⟩:=hm;have h0:Rel F own w s v:=hrel 0 _ _ rfl rfl;simp only[mA]at h;cases hp:place i with
  |none=>simp[hp]at h
  |some os=>
   obtain⟨off,size⟩:=os;cases hf:qh s with
   |none=>simp[hp,hf]at h
   |some xs=>
    simp only[hp,hf]at h;cases hb:Nat.beq (sz xs) size&&Nat.ble (off+size) (sz cells)with
    |false=>rw[hb]at h;simp at h
    |true=>
     rw[hb]at h;simp only[cond_true]at h;simp only[Bool.and_eq_true,se]at hb;have e1:xs.length=size:=Nat.eq_of_beq_eq_true hb.1;have e2:off+size<=cells.length:=nbl hb.2;obtain⟨f1,f2⟩:=BL h0 hf;have hle:off+v.cells.size<=vs.size:=by rw[hr.1];omega
     obtain⟨g1,g2⟩:=Gk v off vs hle;have hr':RelL F own w (gT cells off xs) (v.cells.zipIdx.foldl (fun cs (c,j) =>cs.setIfInBounds (off+j) c) vs):=by
      refine⟨by rw[g1,ou];exact hr.1,fun j x hj=>?_⟩;rw[pd _ _ _ (by omega)]at hj;by_cases hjr:off<=j/\j<off+xs.length
      ·rw[if_pos hjr]at hj;have:=f2 _ _ hj
       rwa[mE (j:=j - off) (ws:=v.cells) (by rw[g2,if_pos (by omega)])]
      ·rw[if_neg hjr]at hj;have:=hr.2 _ _ hj
       rwa[mE (j:=j) (ws:=vs) (by rw[g2,if_neg (by omega)])]
     obtain⟨vs',q1,q2⟩:=A_ hpl ps vps _ l _ hr' hm (fun j x y hx hy=>hrel (j+1) x y hx hy) h;refine⟨vs',?_,q2⟩;simp only[Instr.fill,hpl,hp];rw[if_neg (by simp;omega)];exact q1
theorem pf {k:Kd}{s:SV}{v:Value}(h:Rel F own w s v):Rel F own w (FY k s) v:=by
 unfold FY;split
 ·have:=bF h;subst this;exact .rs0
 ·cases h;exact .rs0
 ·have:=bF h;subst this;exact .rm0
 ·exact h
theorem yP:∀ (ks:List Kd) (l:List SV),(xD ks l).length=l.length
 | [],l=>by simp[xD]
 |k::ks,[] =>by simp[xD]
 |k::ks,s::r=>by simp[xD,yP ks r]
theorem uD:∀ (ks:List Kd) (l:List SV) (j:Nat) (s:SV),(xD ks l)[j]? =some s->∃ s0,l[j]? =some s0/\(s=s0\/∃ k,s=FY k s0)
 | [],l,j,s,h=>⟨s,by simpa[xD]using h,.inl rfl⟩
 |k::ks,[],j,s,h=>by simp[xD]at h
 |k::ks,x::r,0,s,h=>by simp[xD]at h;exact⟨x,rfl,.inr ⟨k,h.symm⟩⟩
 |k::ks,x::r,j+1,s,h=>by simp[xD]at h;simpa using uD ks r j s h
theorem RelL.nrm {ks:List Kd}{l:List SV}{vs:Array Value}(h:RelL F own w l vs):RelL F own w (xD ks l) vs:=
 ⟨by rw[yP];exact h.1,fun j s hj=>by
  obtain⟨s0,e1,e2| ⟨k,e2⟩⟩:=uD _ _ _ _ hj
  ·subst e2;exact h.2 j _ e1
  ·subst e2;exact pf (h.2 j _ e1)⟩
theorem DN {place:Nat->Option (Nat×Nat)}:∀ (ps:List (Nat×SV)) (cells l:List SV),mA place cells ps=some l->l.length=cells.length
 | [],cells,l,h=>by simp[mA]at h;rw[h]
 |(i,v)::ps,cells,l,h=>by
  simp only[mA]at h;split at h
  ·rename_i off size vs _ _;cases hb:Nat.beq (sz vs) size&&Nat.ble (off+size) (sz cells)with
   |false=>rw[hb]at h;simp at h
   |true=>rw[hb]at h;simp only[cond_true]at h;rw[DN ps _ _ h,ou]
  ·cases h
theorem xu (v:Value):RelL F own w (svs v) v.cells:=by
 refine⟨by simp[svs],fun j s hj=>?_⟩;simp[svs]at hj;obtain⟨z,hz,rfl⟩:=hj;simp[hz];exact .v _
theorem Gl {fs:List Field}:(fs.all fun f=>(P.info? f.type).isSome&&(P.underlying f.type).isSome)=true->
  fs.mapM (fun f=>(P.info? f.type).map fun i=>(f.offset,i.size))=some (fs.map fun f=>(f.offset,n_ P f.type)):=by
 induction fs with
 |nil=>intro _;rfl
 |cons f fs ih=>
  intro h;simp only[List.all_cons,Bool.and_eq_true]at h;obtain⟨i,hi⟩:=Option.isSome_iff_exists.1 h.1.1;have ih':=ih (by simpa using h.2);simp[List.mapM_cons,hi,ih',n_]
theorem MY {t:TypeId}{ti:TI}(ht:cw P t=some ti){ps:List (Nat×SV)}{vps:Array (Nat×Value)}{l:List SV}(hm:ps.map (·.1)=vps.toList.map (·.1))
  (hrel:∀ (j:Nat) (x:Nat×SV) (y:Nat×Value),ps[j]? =some x->vps.toList[j]? =some y->Rel F own w x.2 y.2)
  (h:(ti.isArr=true/\∃ te,cw P ti.elem=some te/\mA (fun i=>some (i*te.size,te.size)) ti.zero ps=some l)\/
     (ti.isArr=false/\ti.agg=true/\mA (fun i=>(nth ti.fields i).map fun f=>(f.1,f.2.1)) ti.zero ps=some l)):
  ∃ u,(Instr.build t vps).run P w=.ok u w/\Rel F own w (.agg l) u:=by
 obtain⟨i,d,z,hi,hd,hz,hq,rfl⟩:=bv ht;have hzero:(c5 P t i d).zero=svs z:=by simp[c5,hz]
 rcases h with⟨ha,te,hte,hf⟩ | ⟨ha,hg,hf⟩
 ·obtain⟨ie,de,ze,hie,hde,hze,hqe,he⟩:=bv hte;cases d <;>simp[c5]at ha;rename_i len e;simp only[c5]at hie;rw[hzero]at hf;have hes:te.size=ie.size:=by rw[he];rfl
  obtain⟨vs',q1,q2⟩:=A_ (place':=fun i=>some (i*ie.size,ie.size)) (fun i=>by rw[hes]) ps vps.toList _ l z.cells (xu z) hm hrel hf;exact⟨.agg vs',run_build w t vps vs' (by simp only[Program.built,hi,hd,hz,hie];exact q1),.agg q2.1 q2.2⟩
 ·cases d with
  |struct fs=>
   rw[hzero]at hf;have hmp:=Gl (P:=P) (fs:=fs.toList) (by simpa[wp]using hq);obtain⟨vs',q1,q2⟩:=A_ (place':=fun i=>(fs.toList.map fun f=>(f.offset,n_ P f.type)).toArray[i]?) (fun i=>by
    simp[c5,fU];rfl) ps vps.toList _ l z.cells (xu z) hm hrel hf
   exact⟨.agg vs',run_build w t vps vs' (by simp only[Program.built,hi,hd,hz,hmp];exact q1),.agg q2.1 q2.2⟩
  |array len e=>simp[c5]at ha
  |_=>simp[c5,kS,hd]at hg
theorem Gm (z:List SV)(hz:0<z.length):∀ (n i:Nat),(AI n z)[i]? =if i<n*z.length then z[i % z.length]? else none
 |0,i=>by simp[AI]
 |n+1,i=>by
  rw[AI,List.getElem?_append];by_cases hi:i<z.length
  ·rw[if_pos hi,if_pos (by rw[Nat.succ_mul];omega),Nat.mod_eq_of_lt hi]
  ·rw[if_neg hi,Gm z hz n];rw[Nat.succ_mul];by_cases hj:i - z.length<n*z.length
   ·rw[if_pos hj,if_pos (by omega)];congr 1
    rw[<-Nat.mod_eq_sub_mod (by omega)]
   ·rw[if_neg hj,if_neg (by omega)]
theorem wy (z:List SV):∀ n,(AI n z).length=n*z.length
 |0=>by simp[AI]
 |n+1=>by rw[AI,List.length_append,wy z n,Nat.succ_mul];omega
theorem DO {s:SV}(h:fit .s s=true): .v (.string (toS s))=s:=by
 cases s <;>simp only[fit,Bool.false_eq_true]at h;rename_i x;cases x <;>simp only[fit,Bool.false_eq_true]at h;rfl
theorem DP {s:SV}(h:fit .b s=true): .v (.bool (toB s))=s:=by
 cases s <;>simp only[fit,Bool.false_eq_true]at h;rename_i x;cases x <;>simp only[fit,Bool.false_eq_true]at h;rfl
theorem PM {k k':IntKind}(h:Nat.beq (kN k) (kN k')=true):k=k':=by
 cases k <;>cases k' <;>first|rfl|(simp[kN]at h;done)
theorem DQ {k:IntKind}{s:SV}(h:fit (.n k) s=true): .v (.int k (toI s))=s:=by
 cases s <;>simp only[fit,Bool.false_eq_true]at h;rename_i x;cases x <;>simp only[fit,Bool.false_eq_true]at h;have:=PM h;subst this;rfl
theorem iI {k:Tag}{s:SV}(h:fit (.r k) s=true):∃ l,s=.rs k l:=by
 cases s <;>simp only[fit,Bool.false_eq_true]at h;rename_i k' l;have:=uC h;subst this;exact⟨l,rfl⟩
theorem R9 {k k2:Tag}{s:SV}(h:fit (.m k k2) s=true):∃ l,s=.rm k k2 l:=by
 cases s <;>simp only[fit,Bool.false_eq_true]at h;rename_i k' k2' l;simp only[Bool.and_eq_true]at h;have e1:=uC h.1;have e2:=uC h.2;subst e1;subst e2;exact⟨l,rfl⟩
theorem Ie {s:SV}(h:fit (.r .reach) s=true): .rs .reach (zC s)=s:=by obtain⟨l,rfl⟩:=iI h;rfl
theorem Lq {s:SV}(h:fit (.r .farm) s=true): .rs .farm (Bj s)=s:=by obtain⟨l,rfl⟩:=iI h;rfl
theorem Lr {s:SV}(h:fit (.r .crop) s=true): .rs .crop (Bk s)=s:=by obtain⟨l,rfl⟩:=iI h;rfl
theorem If {s:SV}(h:fit (.r .right) s=true): .rs .right (zD s)=s:=by obtain⟨l,rfl⟩:=iI h;rfl
theorem Ls {s:SV}(h:fit (.r .duty) s=true): .rs .duty (Bl s)=s:=by obtain⟨l,rfl⟩:=iI h;rfl
theorem MZ {s:SV}(h:fit (.r .int) s=true): .rs .int (l9 s)=s:=by obtain⟨l,rfl⟩:=iI h;rfl
theorem Lt {s:SV}(h:fit (.r .well) s=true): .rs .well (Bm s)=s:=by obtain⟨l,rfl⟩:=iI h;rfl
theorem Ig {s:SV}(h:fit (.r .claim) s=true): .rs .claim (DC s)=s:=by obtain⟨l,rfl⟩:=iI h;rfl
theorem BN {s:SV}(h:fit (.r .judgement) s=true): .rs .judgement (xI s)=s:=by obtain⟨l,rfl⟩:=iI h;rfl
theorem Lu {s:SV}(h:fit (.r .case) s=true): .rs .case (Bn s)=s:=by obtain⟨l,rfl⟩:=iI h;rfl
theorem Gn {s:SV}(h:fit (.r .clause) s=true): .rs .clause (sL s)=s:=by obtain⟨l,rfl⟩:=iI h;rfl
theorem Lv {s:SV}(h:fit (.r .suit) s=true): .rs .suit (FT s)=s:=by obtain⟨l,rfl⟩:=iI h;rfl
theorem Lw {s:SV}(h:fit (.r .bool) s=true): .rs .bool (FU s)=s:=by obtain⟨l,rfl⟩:=iI h;rfl
theorem Ih {s:SV}(h:fit (.r .order) s=true): .rs .order (DD s)=s:=by obtain⟨l,rfl⟩:=iI h;rfl
theorem M0 {s:SV}(h:fit (.r .fnc) s=true): .rs .fnc (Jv s)=s:=by obtain⟨l,rfl⟩:=iI h;rfl
theorem vj {s:SV}(h:fit (.r .precedentsDecided) s=true): .rs .precedentsDecided (lR s)=s:=by obtain⟨l,rfl⟩:=iI h;rfl
theorem Gp {s:SV}(h:fit (.r .reason) s=true): .rs .reason (Bo s)=s:=by obtain⟨l,rfl⟩:=iI h;rfl
theorem Lx {s:SV}(h:fit (.r .int2) s=true): .rs .int2 (FV s)=s:=by obtain⟨l,rfl⟩:=iI h;rfl
theorem yi {s:SV}(h:fit (.r .timetableSlot) s=true): .rs .timetableSlot (tK s)=s:=by obtain⟨l,rfl⟩:=iI h;rfl
theorem Ly {s:SV}(h:fit (.r .tank) s=true): .rs .tank (FW s)=s:=by obtain⟨l,rfl⟩:=iI h;rfl
theorem Dh {s:SV}(h:fit (.r .district) s=true): .rs .district (yE s)=s:=by obtain⟨l,rfl⟩:=iI h;rfl
theorem Ii {s:SV}(h:fit (.r .cases) s=true): .rs .cases (DE s)=s:=by obtain⟨l,rfl⟩:=iI h;rfl
theorem Lz {s:SV}(h:fit (.r .plea) s=true): .rs .plea (FX s)=s:=by obtain⟨l,rfl⟩:=iI h;rfl
theorem wz {s:SV}(h:fit (.r .precedentsCourt) s=true): .rs .precedentsCourt (r8 s)=s:=by obtain⟨l,rfl⟩:=iI h;rfl
theorem AM {s:SV}(h:fit (.r .pleasCourt) s=true): .rs .pleasCourt (wn s)=s:=by obtain⟨l,rfl⟩:=iI h;rfl
theorem Ij {s:SV}(h:fit (.r .fault) s=true): .rs .fault (DF s)=s:=by obtain⟨l,rfl⟩:=iI h;rfl
theorem Ik {s:SV}(h:fit (.r .ratio) s=true): .rs .ratio (DG s)=s:=by obtain⟨l,rfl⟩:=iI h;rfl
theorem Gq {s:SV}(h:fit (.r .ratio2) s=true): .rs .ratio2 (Bp s)=s:=by obtain⟨l,rfl⟩:=iI h;rfl
theorem Il {s:SV}(h:fit (.r .range) s=true): .rs .range (DH s)=s:=by obtain⟨l,rfl⟩:=iI h;rfl
theorem vn {s:SV}(h:fit (.r .acequiaref51State) s=true): .rs .acequiaref51State (qk s)=s:=by obtain⟨l,rfl⟩:=iI h;rfl
theorem M1 {s:SV}(h:fit (.r .str) s=true): .rs .str (Jw s)=s:=by obtain⟨l,rfl⟩:=iI h;rfl
theorem Di {s:SV}(h:fit (.m .int .bool) s=true): .rm .int .bool (u7 s)=s:=by obtain⟨l,rfl⟩:=R9 h;rfl
theorem EO {s:SV}(h:fit (.m .int .int) s=true): .rm .int .int (wo s)=s:=by obtain⟨l,rfl⟩:=R9 h;rfl
theorem XM {s:SV}(h:fit .f s=true):fnV (toF s)=s:=by
 unfold fit at h;split at h <;>first|rfl|simp_all
theorem qu {k:Kd}{ks:List Kd}{l:List SV}(h:uv (k::ks) l=true):∃ x r,l=x::r/\fit k x=true/\uv ks r=true:=by
 cases l with
 |nil=>simp[uv]at h
 |cons x r=>simp[uv]at h;exact⟨x,r,rfl,h.1,h.2⟩
theorem uE {l:List SV}(h:uv [] l=true):l=[]:=by
 cases l with
 |nil=>rfl
 |cons x r=>simp[uv]at h
theorem rj {k:Tag}{l:List SV}{x:k.T}(h:uw k l=some x):cellsOf k x=l:=by
 unfold uw at h;cases hf:uv (d6 k) l with
 |false=>simp[hf]at h
 |true=>
  simp only[hf,cond_true,Option.some.injEq]at h;subst h;cases k <;>simp only[d6]at hf <;>
   (repeat (obtain⟨_,_,rfl,_,hf⟩:=qu hf)) <;>(obtain rfl:=uE hf) <;>
   simp_all [cellsOf,mkE,at0,DO,DQ,DP,XM,Ie,Lq,Lr,If,Ls,MZ,Lt,Ig,BN,Lu,Gn,Lv,Lw,Ih,M0,vj,Gp,Lx,yi,Ly,Dh,Ii,Lz,wz,AM,Ij,Ik,Gq,Il,vn,M1
   ,Di,EO
   ]
theorem nB {k:Tag}{l:List SV}{x:k.T}(h:pc k l=some x):cellsOf k x=xD (d6 k) l:=rj h
theorem BO {k:Tag}{l:List SV}{x:k.T}(h:pc k l=some x){vs:Array Value}(hr:RelL F own w l vs):RelL F own w (cellsOf k x) vs:=by
 rw[nB h];exact hr.nrm
theorem Im {k:Tag}{l:List SV}{x:k.T}(h:pc k l=some x):l.length=ae k:=by
 rw[<-bf k x,nB h,yP]
theorem xv {k:Tag}(x:k.T):pc k (cellsOf k x)=some x:=by
 cases k <;>first|rfl|(cases x <;>rfl)
theorem Ar {k:Tag}{x y:k.T}(h:cellsOf k x=cellsOf k y):x=y:=by
 have:=xv x;rw[h,xv y]at this;simpa using this.symm
theorem xO (k:Tag):0<ae k:=by cases k <;>simp[ae]
theorem BP {k:Tag}{size:Nat}(hs:size=ae k):∀ (n:Nat) (l:List SV) (xs:List k.T),sa k size n l=some xs->
  xs.length=n/\∀ (i:Nat) (x:k.T),xs[i]? =some x->∀ (j:Nat) (s:SV),(cellsOf k x)[j]? =some s->∃ s0,l[i*size+j]? =some s0/\(s=s0\/∃ q,s=FY q s0)
 |0,l,xs,h=>by
  simp[sa]at h;subst h;exact⟨rfl,fun i x hx=>by simp at hx⟩
 |n+1,l,xs,h=>by
  simp only[sa,EL,A9]at h;cases he:pc k (l.take size)with
  |none=>simp[he]at h
  |some y=>
   cases hr:sa k size n (l.drop size)with
   |none=>simp[he,hr]at h
   |some ys=>
    simp only[he,hr,Option.some.injEq]at h;subst h;obtain⟨h1,h2⟩:=BP hs n _ _ hr;refine⟨by simp[h1],fun i x hx j s hj=>?_⟩;cases i with
    |zero=>
     simp at hx;subst hx;rw[nB he]at hj;obtain⟨s0,e1,e2⟩:=uD _ _ _ _ hj;rw[List.getElem?_take]at e1;split at e1
     ·exact⟨s0,by simpa using e1,e2⟩
     ·cases e1
    |succ i=>
     simp at hx;obtain⟨s0,e1,e2⟩:=h2 i x hx j s hj;rw[List.getElem?_drop]at e1;refine⟨s0,?_,e2⟩;rw[<-e1];congr 1;rw[Nat.succ_mul];omega
theorem Gr {t:TypeId}{i:TypeInfo}{e:TypeId}{ie:TypeInfo}{ze:Value}(hi:P.info? t=some i)(hd:P.underlying t=some (.slice e))(hie:P.info? e=some ie)(hze:ie.zero=some ze)(hzl:ze.cells.size=ie.size){n:Nat}{ps:List (Nat×SV)}{vps:Array (Nat×Value)}{l:List SV}
  (hm:ps.map (·.1)=vps.toList.map (·.1)) (hrel:∀ (j:Nat) (x:Nat×SV) (y:Nat×Value),ps[j]? =some x->vps.toList[j]? =some y->Rel F own w x.2 y.2)
  (hf:mA (fun i=>some (i*ie.size,ie.size)) (AI n (svs ze)) ps=some l) (hpos:0<ie.size) (hle:n*ie.size<=16777216):
  ∃ vs',(Instr.buildSlice t n vps).run P w=.ok (.slice (some ⟨w.heap.size,0,none⟩) n n) (w.alloc (.cells vs' e))/\RelL F own w l vs'/\vs'.size=n*ie.size:=by
 have hsl:(svs ze).length=ie.size:=by simp[svs,hzl]
 let cz:Array Value:=if n*ie.size=0 then #[]else ze.cells
 have hz0:RelL F own w (AI n (svs ze)) ((Array.range (n*ie.size)).map (cz[· % cz.size]!)):=by
  refine⟨by simp[wy,hsl],fun j s hj=>?_⟩;rw[Gm _ (by omega)]at hj;by_cases hjn:j<n*(svs ze).length
  ·rw[if_pos hjn]at hj;rw[hsl]at hjn hj;have hn0:n*ie.size≠0:=by omega
   have hcz:cz=ze.cells:=by simp only[cz];rw[if_neg hn0]
   rw[hcz];have hm1:j % ze.cells.size<ze.cells.size:=Nat.mod_lt _ (by omega);have:=(xu (F:=F) (own:=own) (w:=w) ze).2 (j % ze.cells.size) s (by rw[hzl];exact hj);simp only[Array.getD_eq_getD_getElem?]at this |-;simp[hjn];rw[show ze.cells[j % ze.cells.size]! =ze.cells[j % ze.cells.size]'hm1 from getElem!_pos ze.cells _ hm1];simpa[hm1]using this
  ·rw[if_neg hjn]at hj;cases hj
 obtain⟨vs',q1,q2⟩:=A_ (place':=fun i=>some (i*ie.size,ie.size)) (fun i=>rfl) ps vps.toList _ l _ hz0 hm hrel hf;refine⟨vs',?_,q2,?_⟩
 ·simp only[Instr.buildSlice,Sem.run_bind,run_underlying hd,Result.andThen_ok,dn hie];have hle':¬ (n*ie.size > 2 ^ 24):=by omega
  simp only[hle',if_false];by_cases hn0:n*ie.size=0
  ·have hcz:cz= #[]:=by simp only[cz];rw[if_pos hn0]
   rw[hcz]at q1;rw[if_pos hn0];simp only[Sem.run_bind,Sem.run_pure,Result.andThen_ok,q1,newRow,run_newObj,World.alloc_eq]
  ·have hcz:cz=ze.cells:=by simp only[cz];rw[if_neg hn0]
   rw[hcz]at q1;rw[if_neg hn0];have hzv:(zeroValue e).run P w=.ok ze w:=by simp[zeroValue,typeInfo,hie,hze]
   simp only[Sem.run_bind,Sem.run_pure,Result.andThen_ok,hzv,q1,newRow,run_newObj,World.alloc_eq]
 ·have h1:=DN _ _ _ hf;rw[q2.1,h1,wy,hsl]
theorem newB {h:List Ob}(hp:Hp F own w h):¬bM F own w.heap.size:=by
 rintro (hf'| ⟨id,hd',hm',he'⟩)
 ·exact Nat.lt_irrefl _ (hp.foreign _ hf')
 ·exact Nat.lt_irrefl _ (hp.lt id hd' _ hm' he')
theorem Tk {h:List Ob}(hp:Hp F own w h){t:TypeId}{ti te:TI}(ht:cw P t=some ti)(hte:cw P ti.elem=some te){n:Nat}{ps:List (Nat×SV)}{vps:Array (Nat×Value)}
  (hm:ps.map (·.1)=vps.toList.map (·.1)) (hrel:∀ (j:Nat) (x:Nat×SV) (y:Nat×Value),ps[j]? =some x->vps.toList[j]? =some y->Rel F own w x.2 y.2) {r:OR}
  (hb:bsS ti te n ps=r) (hr:r≠ .bad):
  ∃ s cs ty u,r=.newr s/\(Instr.buildSlice t n vps).run P w=.ok u (w.alloc (.cells cs ty))/\Rel F own (w.alloc (.cells cs ty)) s u/\∀ (k:Tag) (xs:List k.T),s=.rs k xs->u=.slice (some ⟨w.heap.size,0,none⟩) xs.length xs.length/\xs.length*ae k<=cs.size/\xs.length<=aA/\RowAt F own w k xs 0 cs:=by
 obtain⟨i,d,z,hi,hd,hz,hq,rfl⟩:=bv ht;obtain⟨ie,de,ze,hie,hde,hze,hqe,he⟩:=bv hte;have hes:te.size=ie.size:=by rw[he];rfl
 have hezero:te.zero=svs ze:=by rw[he];simp[c5,hze]
 have hg:∀ cs ty,Goes F own w own (w.alloc (.cells cs ty)):=fun cs ty=>Goes.below F own (rb w _);have hnew:=newB hp;unfold bsS at hb;cases hn:Nat.beq n 0 with
 |true=>
  rw[hn]at hb;have hn0:=Nat.eq_of_beq_eq_true hn;subst hn0;simp only[cond_true]at hb;cases d with
  |slice e=>
   subst hb;have hps:ps=[]:=by
    cases ps with
    |nil=>rfl
    |cons _ _=>simp at hr
   simp only[c5]at hie;have hv:vps= #[]:=by
    subst hps;simp at hm;exact hm
   subst hv;subst hps;refine⟨_,#[],e,.slice (some ⟨w.heap.size,0,none⟩) 0 0,rfl,?_,.e0,fun _ _ e=>(by cases e)⟩;have he0:Array.map (fun(_:Nat) =>(default:Value)) (Array.range 0)= #[]:=Array.eq_empty_of_size_eq_zero (by simp);simp[Instr.buildSlice,run_underlying hd,dn hie,Instr.fill,newRow,World.alloc_eq,he0]
  |_=>simp[c5]at hb;exact absurd hb.symm hr
 |false=>
 rw[hn]at hb;simp only[cond_false]at hb;rw[hes]at hb;cases hf:mA (fun i=>some (i*ie.size,ie.size)) (AI n te.zero) ps with
 |none=>
  rw[hf]at hb;exfalso;unfold bsG at hb;cases htag:Py te.tag with
  |none=>rw[htag]at hb;exact hr hb.symm
  |some k=>rw[htag]at hb;simp only at hb;cases hio:MC ps <;>rw[hio]at hb <;>exact hr hb.symm
 |some l=>
 rw[hf]at hb;have typed:∀ k,bsT k (c5 P t i d) te n (some l)=r->∃ s cs ty u,r=.newr s/\(Instr.buildSlice t n vps).run P w=.ok u (w.alloc (.cells cs ty))/\Rel F own (w.alloc (.cells cs ty)) s u/\∀ (k:Tag) (xs:List k.T),s=.rs k xs->u=.slice (some ⟨w.heap.size,0,none⟩) xs.length xs.length/\xs.length*ae k<=cs.size/\xs.length<=aA/\RowAt F own w k xs 0 cs:=by
  intro k hb;simp only[bsT]at hb;cases hc:Nat.beq te.size (ae k)&&(c5 P t i d).isSlice&&Nat.ble (n*te.size) 16777216&&Nat.beq (sz te.zero) te.size with
  |false=>rw[hc]at hb;exact absurd hb.symm hr
  |true=>
  rw[hc]at hb;simp only[cond_true]at hb;simp only[Bool.and_eq_true,se]at hc;obtain⟨⟨⟨c1,c2⟩,c3⟩,c4⟩:=hc;have c1:=Nat.eq_of_beq_eq_true c1;have c3:=nbl c3;have c4:=Nat.eq_of_beq_eq_true c4;cases hel:sa k te.size n l with
  |none=>rw[hel]at hb;exact absurd hb.symm hr
  |some xs=>
  rw[hel]at hb;simp only[Mx]at hb;subst hb;cases d with
  |slice e=>
   simp only[c5]at hie hde;have hpos:0<te.size:=by rw[c1];exact xO k
   have hzl:ze.cells.size=ie.size:=by rw[<-hes,<-c4,hezero];simp[svs]
   rw[hezero]at hf;obtain⟨vs',q1,q2,q3⟩:=Gr hi hd hie hze hzl hm hrel hf (by omega) (by rw[<-hes];exact c3);obtain⟨x1,x2⟩:=BP c1 n l xs hel;refine⟨_,vs',e,_,rfl,q1,?_,?_⟩
   rotate_left
   ·intro k' xs' e';cases e';refine⟨by rw[x1],?_,by rw[x1];have:n<=n*te.size:=Nat.le_mul_of_pos_right n hpos;unfold aA;omega,fun i x hx j s hj=>?_⟩
    ·by_cases hz:xs.length=0
     ·rw[hz];simp
     ·obtain⟨q,hq⟩:∃ q,xs.length=q+1:=⟨xs.length - 1,by omega⟩;have hxq:xs[q]? =some (xs[q]'(by omega)):=List.getElem?_eq_getElem (by omega);have hsp:=xO k;have hcl:=bf k (xs[q]'(by omega));have hj:(cellsOf k (xs[q]'(by omega)))[ae k - 1]? =some ((cellsOf k (xs[q]'(by omega)))[ae k - 1]'(by omega)):=List.getElem?_eq_getElem (by omega);obtain⟨s0,h1,_⟩:=x2 q _ hxq _ _ hj;rw[c1]at h1;have hlt:q*ae k+(ae k - 1) <vs'.size:=by rw[q2.1];exact(List.getElem?_eq_some_iff.1 h1).1
      rw[hq,Nat.succ_mul];omega
    ·obtain⟨s0,h1,h2⟩:=x2 i x hx j s hj;rw[c1]at h1;have hlt:i*ae k+j<vs'.size:=by rw[q2.1];exact(List.getElem?_eq_some_iff.1 h1).1
     have h3:=q2.2 _ _ h1;refine⟨vs'.getD (i*ae k+j) undef,by rw[Nat.zero_add];simp[Array.getD_eq_getD_getElem?,hlt],?_⟩;rcases h2 with rfl| ⟨q,rfl⟩
     ·exact h3
     ·exact pf h3
   have:=Rel.rs (F:=F) (own:=own) (w:=w.alloc (.cells vs' e)) (k:=k) (l:=xs) (b:=w.heap.size) (o:=0) (cap:=xs.length) (fun i j=>vs'.getD (i*ae k+j) undef) (Nat.le_refl _)
    (by rw[x1];have:n<=n*te.size:=Nat.le_mul_of_pos_right n hpos;unfold aA;omega)
    (fun i x hx j s hj=>⟨hnew,by
     obtain⟨s0,h1,_⟩:=x2 i x hx j s hj;rw[c1]at h1;have hlt:i*ae k+j<vs'.size:=by rw[q2.1];exact(List.getElem?_eq_some_iff.1 h1).1
     rw[Nat.zero_add,World.cell?_alloc_new];simp[hlt]⟩)
    (fun i x hx j s hj=>by
     obtain⟨s0,h1,h2⟩:=x2 i x hx j s hj;rw[c1]at h1;have h3:=(q2.2 _ _ h1).mono (hg vs' e);rcases h2 with rfl| ⟨q,rfl⟩
     ·exact h3
     ·exact pf h3)
   rw[x1]at this;exact this
  |_=>simp[c5]at c2
 have untyped:bsU (c5 P t i d) te n (some l)=r->∃ s cs ty u,r=.newr s/\(Instr.buildSlice t n vps).run P w=.ok u (w.alloc (.cells cs ty))/\Rel F own (w.alloc (.cells cs ty)) s u/\∀ (k:Tag) (xs:List k.T),s=.rs k xs->u=.slice (some ⟨w.heap.size,0,none⟩) xs.length xs.length/\xs.length*ae k<=cs.size/\xs.length<=aA/\RowAt F own w k xs 0 cs:=by
  intro hb;simp only[bsU]at hb;cases hc:Nat.beq te.size 1&&(c5 P t i d).isSlice&&Nat.ble (n*te.size) 16777216&&Nat.beq (sz te.zero) te.size with
  |false=>rw[hc]at hb;exact absurd hb.symm hr
  |true=>
  rw[hc]at hb;simp only[cond_true,lsS]at hb;simp only[Bool.and_eq_true,se]at hc;obtain⟨⟨⟨c1,c2⟩,c3⟩,c4⟩:=hc;have c1:=Nat.eq_of_beq_eq_true c1;have c3:=nbl c3;have c4:=Nat.eq_of_beq_eq_true c4;cases hc2:Nat.beq (sz l) n&&u9 l with
  |false=>rw[hc2]at hb;exact absurd hb.symm hr
  |true=>
  rw[hc2]at hb;simp only[cond_true]at hb;subst hb;simp only[Bool.and_eq_true,se]at hc2;have hln:=Nat.eq_of_beq_eq_true hc2.1;cases d with
  |slice e=>
   simp only[c5]at hie hde;have hzl:ze.cells.size=ie.size:=by rw[<-hes,<-c4,hezero];simp[svs]
   rw[hezero]at hf;obtain⟨vs',q1,q2,q3⟩:=Gr hi hd hie hze hzl hm hrel hf (by omega) (by rw[<-hes];exact c3);refine⟨_,vs',e,_,rfl,q1,?_,fun _ _ e=>(by cases e)⟩;have:=Rel.ls (F:=F) (own:=own) (w:=w.alloc (.cells vs' e)) (l:=l) (b:=w.heap.size) (o:=0) (cap:=l.length) (fun j=>vs'.getD j undef) (Nat.le_refl _)
    (fun j s hj=>⟨hnew,by
     have hlt:j<vs'.size:=by rw[q2.1];exact(List.getElem?_eq_some_iff.1 hj).1
     rw[Nat.zero_add,World.cell?_alloc_new];simp[hlt]⟩)
    (fun j s hj=>(q2.2 _ _ hj).mono (hg vs' e))
   rw[hln]at this;exact this
  |_=>simp[c5]at c2
 unfold bsG at hb;cases htag:Py te.tag with
 |none=>rw[htag]at hb;exact untyped hb
 |some k=>
  rw[htag]at hb;simp only at hb;cases ho:MC ps with
  |true=>rw[ho]at hb;exact untyped hb
  |false=>rw[ho]at hb;exact typed k hb
end
structure Puts (b:Nat)(ty:TypeId)(cs':Array Value)(w w':World):Prop where
 here:w'.heap[b]? =some (.cells cs' ty (0,0))
 size:w'.heap.size=w.heap.size
 other:∀ k,k≠b->w'.heap[k]? =w.heap[k]?
 os:w'.os=w.os
 tape:w'.tape=w.tape
 output:w'.output=w.output
section
variable {P:Program}{F:Nat->Prop}{own:Own}{w:World}
theorem j_ {b o:Nat}{ty:TypeId}:∀ (vs:List Value) (i:Nat) (w:World) (cs:Array Value),w.heap[b]? =some (.cells cs ty (0,0))->o+i+vs.length<=cs.size->(∀ v∈vs,v.oneCell'=true)->
  ∃ cs' w',(storeCells ⟨b,o,none⟩ vs i).run P w=.ok () w'/\Puts b ty cs' w w'/\cs'.size=cs.size/\∀ j,cs'[j]? =if o+i<=j/\j<o+i+vs.length then vs[j - (o+i)]? else cs[j]?
 | [],i,w,cs,hb,_,_=>by
  refine⟨cs,w,by simp[storeCells],⟨hb,rfl,fun _ _=>rfl,rfl,rfl,rfl⟩,rfl,fun j=>?_⟩;rw[if_neg (by simp)]
 |v::vs,i,w,cs,hb,hle,hone=>by
  simp only[List.length_cons]at hle;have hlt:o+i<cs.size:=by omega
  have hcell:w.cell? ⟨b,o+i,none⟩=some cs[o+i]:=by rw[dq hb];simp[hlt]
  have hrun:(store (Addr.add ⟨b,o,none⟩ i) v).run P w=.ok () (w.setCell ⟨b,o+i,none⟩ v):=by
   rw[ov,run_store P w _ v _ (hone v (by simp)),hcell,BM hb];simp
  have hset:=setCell_eq_setRow w b (o+i) cs ty (0,0) v hb;have hb':(w.setCell ⟨b,o+i,none⟩ v).heap[b]? =some (.cells (cs.setIfInBounds (o+i) v) ty (0,0)):=by
   rw[hset];exact setRow_heap w b cs _ ty (0,0) hb
  obtain⟨cs',w',e1,e2,e3,e4⟩:=j_ (o:=o) vs (i+1) _ _ hb' (by simp;omega) (fun v hv=>hone v (by simp[hv]));refine⟨cs',w',?_,⟨e2.here,by rw[e2.size];simp,fun k hk=>?_,by rw[e2.os,hset];rfl,by rw[e2.tape,hset];rfl,by rw[e2.output,hset];rfl⟩,by rw[e3];simp,fun j=>?_⟩
  ·rw[storeCells];simp only[Sem.run_bind,hrun,Result.andThen_ok];exact e1
  ·rw[e2.other k hk,hset];exact setRow_other w b k _ hk
  ·rw[e4];by_cases hj:o+(i+1)<=j/\j<o+(i+1)+vs.length
   ·rw[if_pos hj,if_pos (by simp;omega),show j - (o+i)=(j - (o+(i+1)))+1 by omega,List.getElem?_cons_succ]
   ·rw[if_neg hj,Array.getElem?_setIfInBounds];by_cases hjo:o+i=j
    ·subst hjo;rw[if_pos rfl,if_pos (by omega),if_pos (by simp)];simp
    ·rw[if_neg hjo,if_neg (by simp;omega)]
theorem M2 {s:SV}{v:Value}(h:H0 s=true)(hr:Rel F own w s v):v.oneCell'=true:=by
 cases hr <;>first|rfl|(exact nz (by assumption)) |(simp[H0]at h;done) |(rename_i x;cases x <;>first|rfl|(simp[H0]at h;done)) |(cases v <;>first|rfl|(simp[H0]at h;done))
theorem As:∀ {l:List SV},u9 l=true->∀ (j:Nat) (s:SV),l[j]? =some s->H0 s=true
 | [],_,j,s,h=>by simp at h
 |x::r,h,0,s,hs=>by simp[u9]at h hs;subst hs;exact h.1
 |x::r,h,j+1,s,hs=>by simp[u9]at h hs;exact As h.2 j s hs
theorem xw {t:TypeId}{ti:TI}(ht:cw P t=some ti){sx:SV}{vx:Value}(hrx:Rel F own w sx vx){xs:List SV}(hf:qh sx=some xs)(hsz:xs.length=ti.size)(hone:∀ (j:Nat) (s:SV),xs[j]? =some s->∀ v,Rel F own w s v->v.oneCell'=true)
  {b off:Nat} {cs:Array Value} {ty:TypeId} (hb:w.heap[b]? =some (.cells cs ty (0,0))) (hle:off+xs.length<=cs.size):
  ∃ cs' w',(Instr.storeAt t (.pointer (some ⟨b,off,none⟩)) vx).run P w=.ok () w'/\Puts b ty cs' w w'/\cs'.size=cs.size/\
   (∀ j,off<=j->j<off+xs.length->∃ u,cs'[j]? =some u/\∀ s,xs[j - off]? =some s->Rel F own w s u)/\(∀ j,¬ (off<=j/\j<off+xs.length)->cs'[j]? =cs[j]?):=by
 obtain⟨i,d,z,hi,hd',hz,hq,rfl⟩:=bv ht;obtain⟨f1,f2⟩:=BL hrx hf;obtain⟨cs',w',q1,q2,q3,q4⟩:=j_ (P:=P) (b:=b) (o:=off) (ty:=ty) vx.cells.toList 0 w cs hb (by simp;omega) (fun u hu=>by
  obtain⟨j,hj⟩:=List.getElem?_of_mem hu;have hjl:j<vx.cells.size:=by have:=(List.getElem?_eq_some_iff.1 hj).1;simpa using this
  have hxs:=List.getElem?_eq_getElem (l:=xs) (i:=j) (by omega);have:=hone j _ hxs _ (f2 j _ hxs);rw[Array.getElem?_toList]at hj;simpa[Array.getD_eq_getD_getElem?,hj]using this)
 have hsz2:vx.cells.size=i.size:=by rw[f1,hsz];rfl
 refine⟨cs',w',by simp[Instr.storeAt,Instr.sureAddr,storeVar,dn hi,hsz2,q1],q2,q3,fun j h1 h2=>?_,fun j h1=>?_⟩
 ·have hjl:j - off<vx.cells.size:=by omega
  refine⟨vx.cells[j - off],by rw[q4,if_pos (by simp;omega)];simp[hjl],fun s hs=>?_⟩;have:=f2 _ _ hs;simpa[Array.getD_eq_getD_getElem?,hjl]using this
 ·rw[q4,if_neg (by simp;omega)]
theorem Puts.goes {b:Nat}{ty:TypeId}{cs':Array Value}{w':World}(q:Puts b ty cs' w w')(hown:bM F own b):Goes F own w own w':=
 ⟨fun _ hd h=>⟨hd,h,.refl _⟩,fun k hk hn=>⟨hn,q.other k (fun e=>hn (e▸hown))⟩,by rw[q.size];exact Nat.le_refl _⟩
theorem RowAt.put {own':Own}{w':World}(g:Goes F own w own' w'){k:Tag}{l:List k.T}{o:Nat}{cs cs':Array Value}(h:RowAt F own w k l o cs){i off:Nat}(hi:i<l.length){xs:List SV}{x:k.T}(hx:pc k (gT (cellsOf k (l.getD i (fS k))) off xs)=some x)
  (hle:off+xs.length<=ae k)
  (hin:∀ j,o+i*ae k+off<=j->j<o+i*ae k+off+xs.length->∃ u,cs'[j]? =some u/\∀ s,xs[j - (o+i*ae k+off)]? =some s->Rel F own w s u)
  (hout:∀ j,¬ (o+i*ae k+off<=j/\j<o+i*ae k+off+xs.length)->cs'[j]? =cs[j]?):RowAt F own' w' k (l.set i x) o cs':=by
 intro i' y hy j s hj;rw[List.getElem?_set]at hy;have hjl:j<ae k:=by rw[<-bf k y];exact(List.getElem?_eq_some_iff.1 hj).1
 by_cases hii:i=i'
 ·subst hii;rw[if_pos rfl,if_pos hi]at hy;simp only[Option.some.injEq]at hy;subst hy;rw[nB hx]at hj;obtain⟨s0,e1,e2⟩:=uD _ _ _ _ hj;rw[pd _ _ _ (by rw[bf];exact hle)]at e1;have fin:∀ u,Rel F own w s0 u->Rel F own' w' s u:=fun u hu=>by
   rcases e2 with rfl| ⟨q,rfl⟩
   ·exact hu.mono g
   ·exact pf (hu.mono g)
  by_cases hjr:off<=j/\j<off+xs.length
  ·rw[if_pos hjr]at e1;obtain⟨u,h1,h2⟩:=hin (o+i*ae k+j) (by omega) (by omega);exact⟨u,h1,fin u (h2 s0 (by rw[show o+i*ae k+j - (o+i*ae k+off)=j - off by omega];exact e1))⟩
  ·rw[if_neg hjr]at e1;obtain⟨h1,h2⟩:=h.get hi e1;exact⟨_,by rw[hout _ (by omega)];exact h1,fin _ h2⟩
 ·rw[if_neg hii]at hy;obtain⟨u,h1,h2⟩:=h i' y hy j s hj;refine⟨u,?_,h2.mono g⟩;rw[hout]
  ·exact h1
  ·rcases Nat.lt_or_gt_of_ne hii with hlt|hlt
   ·have:(i+1)*ae k<=i'*ae k:=Nat.mul_le_mul_right _ hlt;rw[Nat.succ_mul]at this;omega
   ·have:(i'+1)*ae k<=i*ae k:=Nat.mul_le_mul_right _ hlt;rw[Nat.succ_mul]at this;omega
theorem JO {cap n i size off m o total:Nat}(h1:o+cap*size<=total)(h2:n<=cap)(h3:i<n)(h4:off+m<=size):o+i*size+off+m<=total:=by
 have h5:(i+1)*size<=cap*size:=Nat.mul_le_mul_right _ (by omega);rw[Nat.succ_mul]at h5;omega
theorem GridIn.put {own':Own}{w':World}(g:Goes F own w own' w'){k:Tag}{l':List k.T}{v:Value}{b:Nat}(hoth:∀ c,c≠b->w'.heap[c]? =w.heap[c]?):
  ∀ {l:List (List k.T)} {vs:List Value} {bs:List Nat} {i:Nat},GridIn F own w k l vs bs->bs.Nodup->vs[i]? =some v->(∀ b1,RowRel F own w k (l.getD i []) v b1->b∈b1)->(∀ b1,RowRel F own w k (l.getD i []) v b1->RowRel F own' w' k l' v b1)->GridIn F own' w' k (l.set i l') vs bs
 | [],[],bs,i,_,_,h,_,_=>by simp at h
 |l::ls,u::vs,bs,0,⟨b1,b2,h1,h0,h2,h3⟩,hn,h,hb,hr=>by
  simp at h;subst h;refine⟨b1,b2,h1,h0,hr b1 h2,h3.carry g.carries fun c hc=>hoth c fun e=>?_⟩;have:=hb b1 h2;rw[h1,List.nodup_append]at hn;exact hn.2.2 _ this _ hc e.symm
 |l::ls,u::vs,bs,i+1,⟨b1,b2,h1,h0,h2,h3⟩,hn,h,hb,hr=>by
  rw[h1]at hn;have hn':=hn;rw[List.nodup_append]at hn;have h':vs[i]? =some v:=by simpa using h
  obtain⟨b3,q1,q2,q3,q4⟩:=h3.get h';have hb3:=hb b3 (by simpa using q3);exact⟨b1,b2,h1,h0,h2.carry g.carries fun c hc=>hoth c fun e=>hn.2.2 _ hc _ (q4 b hb3) e,
   GridIn.put g hoth h3 hn.2.1 h' (fun b1 hb1=>hb b1 (by simpa using hb1)) fun b1 hb1=>hr b1 (by simpa using hb1)⟩
 | [],_::_,_,_,h,_,_,_,_=>h.elim
 |_::_,[],_,_,h,_,_,_,_=>h.elim
theorem DR {k:Tag}{l l':List SV}{x:k.T}{off:Nat}{xs:List SV}(hx:pc k (gT l off xs)=some x)(hl:l.length=ae k)(hle:off+xs.length<=ae k)(j:Nat)(s:SV)(hj:xs[j]? =some s)(v:Value)(hv:Rel F own w s v):v.oneCell'=true:=by
 have hjl:=(List.getElem?_eq_some_iff.1 hj).1;have h1:(gT l off xs)[off+j]? =some s:=by
  rw[pd _ _ _ (by omega),if_pos (by omega),show off+j - off=j by omega];exact hj
 have hc:=nB hx;have hlen:off+j< (cellsOf k x).length:=by rw[bf];omega
 obtain⟨s1,h2⟩:∃ s1,(cellsOf k x)[off+j]? =some s1:=⟨_,List.getElem?_eq_getElem hlen⟩;have h3:=h2;rw[hc]at h3;obtain⟨s0,e1,e2⟩:=uD _ _ _ _ h3;rw[h1]at e1;simp only[Option.some.injEq]at e1;subst e1;have h4:Rel F own w s1 v:=by
  rcases e2 with e2| ⟨q,e2⟩
  ·rw[e2];exact hv
  ·rw[e2];exact pf hv
 exact nz (EM h2 h4)
theorem LA {h:List Ob}(hp:Hp F own w h){t:TypeId}{ti:TI}(ht:cw P t=some ti){s sx:SV}{v vx:Value}(hr:Rel F own w s v)(hrx:Rel F own w sx vx){r:OR}
  (he:rN ti.size h s (qh sx)=r) (hne:r≠ .bad):
  ∃ ups,r=.eff True True ups .any/\∃ w',(Instr.storeAt t v vx).run P w=.ok () w'/\Step F own w (aS h ups) own w':=by
 cases hf:qh sx with
 |none=>rw[hf]at he;cases s <;>exact absurd he.symm hne
 |some xs=>
 rw[hf]at he;cases hr with
 |ptr h1 h2=>
  rename_i id off b hd;simp only[rN]at he;cases hb:Nat.beq (sz xs) ti.size with
  |false=>rw[hb]at he;exact absurd he.symm hne
  |true=>
  rw[hb]at he;simp only[cond_true]at he;cases ho:al h id with
  |cells l=>
   rw[ho]at he;simp only[H2]at he;cases hc:Nat.ble (off+sz xs) (sz l)&&u9 xs with
   |false=>rw[hc]at he;exact absurd he.symm hne
   |true=>
   rw[hc]at he;simp only[cond_true]at he;subst he;simp only[Bool.and_eq_true,se]at hc hb;have hsz:=Nat.eq_of_beq_eq_true hb;have hle:=nbl hc.1;obtain⟨hd',e0,b',cs,ty,e1,e2,e3,e4,e5⟩:=hp.at ho rfl;rw[h1]at e0;cases e0;rw[h2]at e1;cases e1;obtain⟨cs',w',q1,q2,q3,q4,q5⟩:=xw (P:=P) ht hrx hf hsz (fun j s hj v hv=>M2 (As hc.2 j s hj) hv) (off:=off) e3 (by omega);refine⟨_,rfl,w',q1,qt hp h1 (by simp[e2]) q2.size q2.other q2.os q2.tape q2.output _ fun g=>⟨b,cs',ty,h2,e2,q2.here,by rw[q3,e4,ou],fun j s hj=>?_⟩⟩;rw[pd _ _ _ hle]at hj;by_cases hjr:off<=j/\j<off+xs.length
   ·rw[if_pos hjr]at hj;obtain⟨u,k1,k2⟩:=q4 j hjr.1 hjr.2;have:=(k2 s hj).mono g;simpa[Array.getD_eq_getD_getElem?,k1]using this
   ·rw[if_neg hjr]at hj;have:=(e5 j s hj).mono g
    rwa[mE (j:=j) (ws:=cs) (by rw[q5 j hjr])]
  |_=>rw[ho]at he;exact absurd he.symm hne
 |rp h1 h2 h3=>
  rename_i szt id off n cap b o i hd;simp only[rN]at he;cases hb:Nat.beq (sz xs) ti.size with
  |false=>rw[hb]at he;exact absurd he.symm hne
  |true=>
  rw[hb]at he;simp only[cond_true]at he;cases ho:al h id with
  |row k l=>
   rw[ho]at he;simp only[H3]at he;cases hc:Nat.beq szt (ae k)&&Nat.ble (off+sz xs) szt with
   |false=>rw[hc]at he;exact absurd he.symm hne
   |true=>
   rw[hc]at he;simp only[cond_true]at he;simp only[Bool.and_eq_true,se]at hc hb;have hsz:=Nat.eq_of_beq_eq_true hb;have hszt:=Nat.eq_of_beq_eq_true hc.1;have hle:=nbl hc.2;subst hszt;cases hx:pc k (gT (cellsOf k (l.getD i.toNat (fS k))) off xs)with
   |none=>rw[hx]at he;exact absurd he.symm hne
   |some x=>
   rw[hx]at he;simp only[H1]at he;subst he;obtain⟨hd',e0,e⟩:=hp.at ho rfl;rw[h1]at e0;cases e0;rcases e with⟨a,e1,_⟩ | ⟨b',o',cap',cs,ty,e1,e2,e3,e4,e5,e6,e7⟩
   ·rw[h2]at e1;cases e1;omega
   ·have e1':=e1;rw[h2]at e1;simp only[Value.slice.injEq,Option.some.injEq,Addr.mk.injEq]at e1;obtain⟨⟨rfl,rfl,_⟩,rfl,rfl⟩:=e1;obtain⟨cs',w',q1,q2,q3,q4,q5⟩:=xw (P:=P) ht hrx hf hsz (fun j s hj v hv=>DR (l':=[]) hx (bf _ _) hle j s hj v hv) e3 (JO e4 e5 h3 hle);refine⟨_,rfl,w',q1,qt hp h1 (by simp[e2]) q2.size q2.other q2.os q2.tape q2.output _ fun g=>.inr ⟨b,o,cap,cs',ty,by simpa using e1',e2,q2.here,by rw[q3];exact e4,by simpa using e5,by simpa using e6,e7.put g h3 hx hle q4 q5⟩⟩
  |_=>rw[ho]at he;exact absurd he.symm hne
 |gp h1 h2 h3=>
  rename_i szt id off n cap b o i j hd;simp only[rN]at he;cases hb:Nat.beq (sz xs) ti.size with
  |false=>rw[hb]at he;exact absurd he.symm hne
  |true=>
  rw[hb]at he;simp only[cond_true]at he;cases ho:al h id with
  |grid k l=>
   rw[ho]at he;simp only[H4]at he;cases hc:Nat.beq szt (ae k)&&Nat.ble (off+sz xs) szt with
   |false=>rw[hc]at he;exact absurd he.symm hne
   |true=>
   rw[hc]at he;simp only[cond_true]at he;simp only[Bool.and_eq_true,se]at hc hb;have hsz:=Nat.eq_of_beq_eq_true hb;have hszt:=Nat.eq_of_beq_eq_true hc.1;have hle:=nbl hc.2;subst hszt;cases hx:pc k (gT (cellsOf k ((l.getD i.toNat []).getD j.toNat (fS k))) off xs)with
   |none=>rw[hx]at he;exact absurd he.symm hne
   |some x=>
   rw[hx]at he;simp only[EA]at he;subst he;obtain⟨hd',e0,e⟩:=hp.at ho rfl;rw[h1]at e0;cases e0;rcases e with⟨_,_,e1,_⟩ | ⟨b',o',cap',cs,ty,bs,e1,e2,e3,e4,e5,e6,e7,e8,e9⟩
   ·rw[e1]at h2;simp at h2
   ·obtain⟨b1,k1,k2,k3,k4⟩:=e9.get h2;have hrow:∀ b1,RowRel F own w k (l.getD i.toNat []) (.slice (some ⟨b,o,none⟩) n cap) b1->∃ cs ty,b1=[b]/\n=(l.getD i.toNat []).length/\w.heap[b]? =some (.cells cs ty (0,0))/\o+cap*ae k<=cs.size/\(l.getD i.toNat []).length<=cap/\(l.getD i.toNat []).length<=aA/\RowAt F own w k (l.getD i.toNat []) o cs:=by
     rintro b1 (⟨a,m1,_⟩ | ⟨b2,o2,cap2,cs2,ty2,m1,m2,m3,m4,m5,m6,m7⟩)
     ·cases m1;omega
     ·simp only[Value.slice.injEq,Option.some.injEq,Addr.mk.injEq]at m1;obtain⟨⟨rfl,rfl,_⟩,rfl,rfl⟩:=m1;exact⟨cs2,ty2,m2,rfl,m3,m4,m5,m6,m7⟩
    obtain⟨cs2,ty2,m1,rfl,m3,m4,m5,m6,m7⟩:=hrow b1 k3;obtain⟨cs',w',q1,q2,q3,q4,q5⟩:=xw (P:=P) ht hrx hf hsz (fun j s hj v hv=>DR (l':=[]) hx (bf _ _) hle j s hj v hv) m3 (JO m4 m5 h3 hle);have hbb:b∈hd.bs:=by rw[e2];exact List.mem_cons_of_mem _ (k4 b (by simp[m1]))
    have hne:b'≠b:=fun e=>by
     rw[e2,List.nodup_cons]at e3;exact e3.1 (e▸k4 b (by simp[m1]))
    refine⟨_,rfl,w',q1,qt hp h1 hbb q2.size q2.other q2.os q2.tape q2.output _ fun g=>.inr ⟨b',o',cap',cs,ty,bs,by simpa using e1,e2,e3,by rw[q2.other b' hne];exact e4,by simpa using e5,by simpa using e6,by simpa using e7,e8,?_⟩⟩;rw[e2,List.nodup_cons]at e3;refine e9.put g q2.other e3.2 h2 (fun b1 hb1=>?_) fun b1 hb1=>?_
    ·obtain⟨_,_,rfl,_⟩:=hrow b1 hb1;simp
    ·obtain⟨cs3,ty3,rfl,_,n3,n4,n5,n6,n7⟩:=hrow b1 hb1;rw[m3]at n3;cases n3;exact .inr ⟨b,o,cap,cs',ty2,by simp,rfl,q2.here,by rw[q3];exact m4,by simpa using m5,by simpa using m6,m7.put g h3 hx hle q4 q5⟩
  |_=>rw[ho]at he;exact absurd he.symm hne
 |_=>simp only[rN]at he;exact absurd he.symm hne
theorem tR {t:TypeId}(hb:bL (P.underlying t)≠0){xs:Array Value}{n:Nat}(hn:n<xs.size):(part t xs n).run P w=.ok (xs.getD n undef) w:=by
 have:(isAgg t).run P w=.ok false w:=by
  unfold isAgg;cases hd:P.underlying t with
  |none=>rw[hd]at hb;simp[bL]at hb
  |some d=>rw[hd]at hb;cases d <;>simp[bL]at hb <;>simp[run_underlying hd]
 unfold part;simp only[Sem.run_bind,this,Result.andThen_ok,Bool.false_eq_true,if_false];simp[hn]
theorem In {t:TypeId}{sx sy:SV}{vx vy:Value}(hx:Rel F own w sx vx)(hy:Rel F own w sy vy){b:Bool}(h:eqV (bL (P.underlying t)) sx sy=some b)(d:Nat):(Op.equalIn (d+1) t vx vy).run P w=.ok b w:=by
 unfold eqV at h;split at h
 ·rename_i k a k' c;have ex:=bF hx;have ey:=bF hy;subst ex;subst ey;cases hb:Nat.beq (bL (P.underlying t)) 1&&Nat.beq (kN k) (kN k')with
  |false=>rw[hb]at h;cases h
  |true=>
   rw[hb]at h;simp only[cond_true,Option.some.injEq]at h;subst h;simp only[Bool.and_eq_true]at hb;have hk:=Ic hb.2;subst hk;have hc:=Nat.eq_of_beq_eq_true hb.1;cases hd:P.underlying t with
   |none=>rw[hd]at hc;simp[bL]at hc
   |some dd=>
    rw[hd]at hc;cases dd <;>simp[bL]at hc;simp[Op.equalIn,run_underlying hd]
 ·rename_i a c;have ex:=bF hx;have ey:=bF hy;subst ex;subst ey;cases hb:Nat.beq (bL (P.underlying t)) 2 with
  |false=>rw[hb]at h;cases h
  |true=>
   rw[hb]at h;simp only[cond_true,Option.some.injEq]at h;subst h;have hc:=Nat.eq_of_beq_eq_true hb;cases hd:P.underlying t with
   |none=>rw[hd]at hc;simp[bL]at hc
   |some dd=>
    rw[hd]at hc;cases dd <;>simp[bL]at hc;simp[Op.equalIn,run_underlying hd]
 ·rename_i a c;have ex:=bF hx;have ey:=bF hy;subst ex;subst ey;cases hb:Nat.beq (bL (P.underlying t)) 3 with
  |false=>rw[hb]at h;cases h
  |true=>
   rw[hb]at h;simp only[cond_true,Option.some.injEq]at h;subst h;have hc:=Nat.eq_of_beq_eq_true hb;cases hd:P.underlying t with
   |none=>rw[hd]at hc;simp[bL]at hc
   |some dd=>
    rw[hd]at hc;cases dd <;>simp[bL]at hc;simp[Op.equalIn,run_underlying hd]
 ·cases h
theorem wA {d:Nat}:∀ (fs:List Field) (n:Nat) (lx ly:List SV) (xs ys:Array Value) (b:Bool),eqFields P n fs=true->eqL (fs.map fun f=>bL (P.underlying f.type)) lx ly=some b->n+lx.length<=xs.size->n+ly.length<=ys.size->
  (∀ (j:Nat) (s:SV),lx[j]? =some s->Rel F own w s (xs.getD (n+j) undef))->(∀ (j:Nat) (s:SV),ly[j]? =some s->Rel F own w s (ys.getD (n+j) undef))->
  (Op.eqFields (d+1) xs ys fs).run P w=.ok b w
 | [],n,lx,ly,xs,ys,b,_,h,_,_,_,_=>by
  cases lx <;>cases ly <;>simp[eqL]at h;subst h;simp[Op.eqFields]
 |f::fs,n,lx,ly,xs,ys,b,hf,h,h1,h2,h3,h4=>by
  simp only[eqFields,Bool.and_eq_true]at hf;obtain⟨⟨⟨q1,q2⟩,q3⟩,q4⟩:=hf;have hn:f.name≠ "_":=by simpa using q1
  have ho:f.offset=n:=Nat.eq_of_beq_eq_true q2;have hc:bL (P.underlying f.type)≠0:=by have:=nbl q3;omega
  cases lx with
  |nil=>simp[eqL]at h
  |cons x lx=>
   cases ly with
   |nil=>simp[eqL]at h
   |cons y ly=>
    simp only[List.map_cons,eqL]at h;cases hv:eqV (bL (P.underlying f.type)) x y with
    |none=>rw[hv]at h;simp[yb]at h
    |some b1=>
     cases hl:eqL (fs.map fun f=>bL (P.underlying f.type)) lx ly with
     |none=>rw[hv,hl]at h;simp[yb]at h
     |some b2=>
      rw[hv,hl]at h;simp only[yb,Option.some.injEq]at h;subst h;simp only[List.length_cons]at h1 h2;have e1:=tR (P:=P) (w:=w) hc (xs:=xs) (n:=n) (by omega);have e2:=tR (P:=P) (w:=w) hc (xs:=ys) (n:=n) (by omega);have e3:=In (P:=P) (h3 0 x rfl) (h4 0 y rfl) hv d;simp only[Nat.add_zero]at e3;simp only[Op.eqFields,if_pos hn,ho,Sem.run_bind,e1,e2,Result.andThen_ok,e3];cases b1 with
      |false=>simp
      |true=>
       have ih:=wA (d:=d) fs (n+1) lx ly xs ys b2 q4 hl (by omega) (by omega) (fun j s hj=>by have:=h3 (j+1) s (by simpa using hj);rwa[show n+(j+1)=n+1+j by omega]at this) (fun j s hj=>by have:=h4 (j+1) s (by simpa using hj);rwa[show n+(j+1)=n+1+j by omega]at this);simp only[Bool.not_true,Bool.false_eq_true,if_false,Bool.true_and];exact ih
theorem Gs {t:TypeId}{fs:Array Field}(hd:P.underlying t=some (.struct fs)){lx ly:List SV}{xs ys:Array Value}(hx:RelL F own w lx xs)(hy:RelL F own w ly ys){b:Bool}
  (hc:oC P t (.struct fs)≠[]) (h:eqL (oC P t (.struct fs)) lx ly=some b):(Op.equal t (.agg xs) (.agg ys)).run P w=.ok b w/\P.eqGuardType P.depth t=false:=by
 simp only[oC]at hc h;cases hb:!P.stoodInHeld t&& !P.eqGuardType P.depth t&&eqFields P 0 fs.toList with
 |false=>rw[hb]at hc;exact absurd rfl hc
 |true=>
  rw[hb]at h;simp only[cond_true]at h;simp only[Bool.and_eq_true,Bool.not_eq_true']at hb;obtain⟨⟨q1,q2⟩,q3⟩:=hb;refine⟨?_,q2⟩;have hfo:P.fieldsOf t=fs:=by simp[Program.fieldsOf,hd]
  unfold Op.equal Op.maxDepth;rw[run_equalIn_struct w 9999 t xs ys (by rw[hfo];exact hd) q1,hfo];exact wA (P:=P) (d:=9998) fs.toList 0 lx ly xs ys b q3 h (by rw[hx.1];omega) (by rw[hy.1];omega) (fun j s hj=>by simpa using hx.2 j s hj) (fun j s hj=>by simpa using hy.2 j s hj)
theorem JP:∀ {as bs:List Nat} {l m:List SV} {b:Bool},eqL (as++bs) l m=some b->∃ b1 b2,eqL as (l.take as.length) (m.take as.length)=some b1/\eqL bs (l.drop as.length) (m.drop as.length)=some b2/\b=(b1&&b2)/\as.length<=l.length/\as.length<=m.length
 | [],bs,l,m,b,h=>⟨true,b,by simp[eqL],by simpa using h,by simp,by simp,by simp⟩
 |c::as,bs,[],m,b,h=>by simp[eqL]at h
 |c::as,bs,x::l,[],b,h=>by simp[eqL]at h
 |c::as,bs,x::l,y::m,b,h=>by
  simp only[List.cons_append,eqL]at h;cases hv:eqV c x y with
  |none=>rw[hv]at h;simp[yb]at h
  |some b0=>
   cases hl:eqL (as++bs) l m with
   |none=>rw[hv,hl]at h;simp[yb]at h
   |some b3=>
    rw[hv,hl]at h;simp only[yb,Option.some.injEq]at h;obtain⟨b1,b2,e1,e2,e3,e4,e5⟩:=JP hl;exact⟨b0&&b1,b2,by simp[eqL,hv,e1,yb],by simpa using e2,by rw[<-h,e3,Bool.and_assoc],by simpa using e4,by simpa using e5⟩
theorem M3 {t:TypeId}{n:Nat}{lx ly:List SV}{xs ys:Array Value}{b:Bool}(h:eqL (oa P t) lx ly=some b)(hp:0< (oa P t).length)(hlx:lx.length=(oa P t).length)(hly:ly.length=(oa P t).length)(h1:n+lx.length<=xs.size)(h2:n+ly.length<=ys.size)
  (h3:∀ (j:Nat) (s:SV),lx[j]? =some s->Rel F own w s (xs.getD (n+j) undef)) (h4:∀ (j:Nat) (s:SV),ly[j]? =some s->Rel F own w s (ys.getD (n+j) undef)) (d:Nat):
  ∃ vx vy,(part t xs n).run P w=.ok vx w/\(part t ys n).run P w=.ok vy w/\(Op.equalIn (d+2) t vx vy).run P w=.ok b w:=by
 by_cases hst:∃ gs,P.underlying t=some (.struct gs)
 ·obtain⟨gs,hd⟩:=hst;have e:oa P t=bif !P.stoodInHeld t&&eqFields P 0 gs.toList&&Nat.beq (n_ P t) gs.size&&(P.info? t).isSome then gs.toList.map fun f=>bL (P.underlying f.type)else []:=by unfold oa;rw[hd]
  cases hb:!P.stoodInHeld t&&eqFields P 0 gs.toList&&Nat.beq (n_ P t) gs.size&&(P.info? t).isSome with
  |false=>rw[e,hb]at hp;simp at hp
  |true=>
   rw[hb]at e;simp only[cond_true]at e;simp only[Bool.and_eq_true,Bool.not_eq_true']at hb;obtain⟨⟨⟨q1,q2⟩,q3⟩,q4⟩:=hb;have hsz:=Nat.eq_of_beq_eq_true q3;obtain⟨i,hi⟩:=Option.isSome_iff_exists.1 q4;have hszi:i.size=gs.size:=by rw[<-hsz];simp[n_,hi]
   have hlen:(oa P t).length=gs.size:=by rw[e];simp
   have hpart:∀ zs:Array Value,(part t zs n).run P w=.ok (.agg (zs.extract n (n+i.size))) w:=fun zs=>by
    unfold part;simp only[Sem.run_bind,xr hd,Result.andThen_ok,kS,hd,if_true,dn hi,Sem.run_pure]
   have hget:∀ (zs:Array Value) (l:List SV),l.length=gs.size->n+l.length<=zs.size->(∀ (j:Nat) (s:SV),l[j]? =some s->Rel F own w s (zs.getD (n+j) undef))->∀ (j:Nat) (s:SV),l[j]? =some s->Rel F own w s ((zs.extract n (n+i.size)).getD (0+j) undef):=fun zs l hl hz hr j s hj=>by
    have hjl:j<l.length:=(List.getElem?_eq_some_iff.1 hj).1;have:=hr j s hj
    rwa[mE (j:=n+j) (ws:=zs) (by rw[Nat.zero_add,Array.getElem?_extract,if_pos (by omega)])]
   refine⟨_,_,hpart xs,hpart ys,?_⟩;have hfo:P.fieldsOf t=gs:=by simp[Program.fieldsOf,hd]
   rw[run_equalIn_struct w (d+1) t _ _ (by rw[hfo];exact hd) q1,hfo];rw[e]at h;rw[hlen]at hlx hly;exact wA (P:=P) (d:=d) gs.toList 0 lx ly _ _ b q2 h (by simp;omega) (by simp;omega) (hget xs lx hlx h1 h3) (hget ys ly hly h2 h4)
 ·have e:oa P t=bif Nat.blt 0 (bL (P.underlying t))then [bL (P.underlying t)]else []:=by
   unfold oa;split
   ·rename_i gs hd;exact absurd ⟨gs,hd⟩ hst
   ·rfl
  cases hb:Nat.blt 0 (bL (P.underlying t))with
  |false=>rw[e,hb]at hp;simp at hp
  |true=>
   rw[hb]at e;simp only[cond_true]at e;have hc:bL (P.underlying t)≠0:=by have:=nbl hb;omega
   rw[e]at h hlx hly;match lx,ly,hlx,hly with
   | [x],[y],_,_=>
    simp only[eqL]at h;cases hv:eqV (bL (P.underlying t)) x y with
    |none=>rw[hv]at h;simp[yb]at h
    |some b1=>
     rw[hv]at h;simp only[yb,Option.some.injEq,Bool.and_true]at h;subst h;simp only[List.length_cons,List.length_nil]at h1 h2;have e3:=In (P:=P) (h3 0 x rfl) (h4 0 y rfl) hv (d+1);simp only[Nat.add_zero]at e3;exact⟨_,_,tR (P:=P) hc (by omega),tR (P:=P) hc (by omega),e3⟩
theorem yQ {d:Nat}:∀ (fs:List Field) (n:Nat) (lx ly:List SV) (xs ys:Array Value) (b:Bool),ux P n fs=true->eqL (fs.flatMap fun f=>oa P f.type) lx ly=some b->n+lx.length<=xs.size->n+ly.length<=ys.size->
  (∀ (j:Nat) (s:SV),lx[j]? =some s->Rel F own w s (xs.getD (n+j) undef))->(∀ (j:Nat) (s:SV),ly[j]? =some s->Rel F own w s (ys.getD (n+j) undef))->
  (Op.eqFields (d+2) xs ys fs).run P w=.ok b w
 | [],n,lx,ly,xs,ys,b,_,h,_,_,_,_=>by
  cases lx <;>cases ly <;>simp[eqL]at h;subst h;simp[Op.eqFields]
 |f::fs,n,lx,ly,xs,ys,b,hf,h,h1,h2,h3,h4=>by
  simp only[ux,Bool.and_eq_true]at hf;obtain⟨⟨⟨q1,q2⟩,q3⟩,q4⟩:=hf;have hn:f.name≠ "_":=by simpa using q1
  have ho:f.offset=n:=Nat.eq_of_beq_eq_true q2;have hc:0< (oa P f.type).length:=nbl q3;simp only[List.flatMap_cons]at h;obtain⟨b1,b2,e1,e2,e3,e4,e5⟩:=JP h;subst e3;obtain⟨vx,vy,p1,p2,p3⟩:=M3 (P:=P) (n:=n) e1 hc (by simp;omega) (by simp;omega) (by simp;omega) (by simp;omega) (fun j s hj=>h3 j s (by rw[List.getElem?_take]at hj;split at hj;exact hj;cases hj)) (fun j s hj=>h4 j s (by rw[List.getElem?_take]at hj;split at hj;exact hj;cases hj)) d;simp only[Op.eqFields,if_pos hn,ho,Sem.run_bind,p1,p2,Result.andThen_ok,p3];cases b1 with
  |false=>simp
  |true=>
   have ih:=yQ (d:=d) fs (n+(oa P f.type).length) (lx.drop (oa P f.type).length) (ly.drop (oa P f.type).length) xs ys b2 q4 e2 (by simp;omega) (by simp;omega) (fun j s hj=>by rw[List.getElem?_drop]at hj;have:=h3 _ s hj;rwa[show n+((oa P f.type).length+j)=n+(oa P f.type).length+j by omega]at this) (fun j s hj=>by rw[List.getElem?_drop]at hj;have:=h4 _ s hj;rwa[show n+((oa P f.type).length+j)=n+(oa P f.type).length+j by omega]at this);simp only[Bool.not_true,Bool.false_eq_true,if_false,Bool.true_and];exact ih
theorem LB {t:TypeId}{d:TypeDesc}(hd:P.underlying t=some d){lx ly:List SV}{xs ys:Array Value}(hx:RelL F own w lx xs)(hy:RelL F own w ly ys){b:Bool}
  (hc:Ev P t d≠[]) (h:eqL (Ev P t d) lx ly=some b):(Op.equal t (.agg xs) (.agg ys)).run P w=.ok b w/\P.eqGuardType P.depth t=false:=by
 cases d with
 |struct fs=>
  simp only[Ev]at hc h;cases hb:!P.stoodInHeld t&& !P.eqGuardType P.depth t&&ux P 0 fs.toList with
  |false=>rw[hb]at hc;exact absurd rfl hc
  |true=>
   rw[hb]at h;simp only[cond_true]at h;simp only[Bool.and_eq_true,Bool.not_eq_true']at hb;obtain⟨⟨q1,q2⟩,q3⟩:=hb;refine⟨?_,q2⟩;have hfo:P.fieldsOf t=fs:=by simp[Program.fieldsOf,hd]
   unfold Op.equal Op.maxDepth;rw[run_equalIn_struct w 9999 t xs ys (by rw[hfo];exact hd) q1,hfo];exact yQ (P:=P) (d:=9997) fs.toList 0 lx ly xs ys b q3 h (by rw[hx.1];omega) (by rw[hy.1];omega) (fun j s hj=>by simpa using hx.2 j s hj) (fun j s hj=>by simpa using hy.2 j s hj)
 |_=>exact absurd rfl hc
end
section
variable {P:Program}{F:Nat->Prop}{own:Own}{w:World}
def Own.move (own:Own)(K:List Nat)(nx:Nat)(hd:Hd):Own:=fun j=>if j=nx then some hd else if j∈K then(own j).map (fun hd=>{ hd with bs:=[]})else own j
theorem kO (nx:Nat)(ob:Ob):∀ (K:List Nat) (h:List Ob) (j:Nat),nx ∉ K->(∀ id∈K,id<h.length)->
  al (aS h (K.map (fun id=>(id,Ob.dead))++[(nx,ob)])) j=(if j=nx then ob else if j∈K then .dead else al h j)/\h.length<=(aS h (K.map (fun id=>(id,Ob.dead))++[(nx,ob)])).length/\nx< (aS h (K.map (fun id=>(id,Ob.dead))++[(nx,ob)])).length
 | [],h,j,_,_=>by
  simp only[List.map_nil,List.nil_append,aS,List.not_mem_nil,if_false];refine⟨by rw[b4];by_cases e:nx=j <;>simp[e,eq_comm],?_,?_⟩ <;>rw[bC] <;>split <;>omega
 |id::K,h,j,hn,hl=>by
  simp only[List.mem_cons,not_or]at hn;have hid:=hl id (by simp);have hlen:(aW h id Ob.dead).length=h.length:=by rw[bC,if_pos hid]
  obtain⟨q1,q2,q3⟩:=kO nx ob K (aW h id .dead) j hn.2 (fun i hi=>by rw[hlen];exact hl i (by simp[hi]));simp only[List.map_cons,List.cons_append,aS];refine⟨?_,by rw[hlen]at q2;exact q2,q3⟩;rw[q1,b4];by_cases e1:j=nx
  ·simp[e1]
  ·by_cases e2:j=id
   ·subst e2;simp[e1]
   ·have e3:¬id=j:=fun e=>e2 e.symm;simp only[e1,if_false,List.mem_cons,e2,false_or,e3]
theorem lK {h:List Ob}(hp:Hp F own w h){nx:Nat}(hn:NxOk own h nx){w':World}(K:List Nat)(hK:∀ id∈K,∃ hd,own id=some hd)(hd':Hd)(ob:Ob)
  (hbs:∀ b∈hd'.bs,(∃ id∈K,∃ hd,own id=some hd/\b∈hd.bs)\/(w.heap.size<=b/\b<w'.heap.size))
  (hold:∀ b,b<w.heap.size->(¬ ∃ id∈K,∃ hd,own id=some hd/\b∈hd.bs)->w'.heap[b]? =w.heap[b]?) (hsz:w.heap.size<=w'.heap.size) (q2:w'.os=w.os) (q3:w'.tape=w.tape) (q4:w'.output=w.output)
  (hob:∀ own',Goes F own w own' w'->ObRel F own' w' hd' ob) (hnd:co ob=false:=by rfl):Step F own w (aS h (K.map (fun id=>(id,Ob.dead))++[(nx,ob)])) (own.move K nx hd') w':=by
 have hnK:nx ∉ K:=fun hm=>by obtain⟨hd,e⟩:=hK nx hm;rw[hn.none]at e;cases e
 have hKl:∀ id∈K,id<h.length:=fun id hm=>by obtain⟨hd,e⟩:=hK id hm;exact hp.dom _ _ e
 have fr:Fr { w:=w,own:=own} (own.move K nx hd') w':=by
  refine Fr.of_step (fun id hd h1=>?_) (fun id hd b h1 h2=>?_) (fun b hb hnb=>hold b hb fun⟨id,_,hd,e1,e2⟩ =>hnb ⟨id,hd,e1,e2⟩) hsz q2 q3 q4
  ·have hne:id≠nx:=fun e=>by rw[e,hn.none]at h1;cases h1
   simp only[Own.move,if_neg hne];by_cases hm:id∈K
   ·exact⟨{ hd with bs:=[]},by simp[hm,h1],rfl,rfl,rfl⟩
   ·exact⟨hd,by simp[hm,h1],.refl _⟩
  ·simp only[Own.move]at h1;by_cases e:id=nx
   ·rw[if_pos e]at h1;cases h1;rcases hbs b h2 with⟨id',_,hd2,e1,e2⟩ |h3
    ·exact .inl ⟨id',hd2,e1,e2⟩
    ·exact .inr h3.1
   ·rw[if_neg e]at h1;by_cases hm:id∈K
    ·rw[if_pos hm]at h1;cases ho:own id with
     |none=>rw[ho]at h1;simp at h1
     |some hd2=>rw[ho]at h1;simp at h1;subst h1;simp at h2
    ·rw[if_neg hm]at h1;exact .inl ⟨id,hd,h1,h2⟩
 refine⟨hp.upd fr.goes (fun id=>id=nx\/id∈K) (kO nx ob K h 0 hnK hKl).2.1 (fun id hid=>?_) (fun id hd hid h1=>?_) (fun id hid hd=>?_),fr,fun id h1 h2=>?_⟩
 rotate_left 3
 ·rw[(kO nx ob K h id hnK hKl).1]at h2;simp only[Own.move];by_cases e:id=nx
  ·subst e;rw[if_pos rfl,hnd]at h2;cases h2
  ·rw[if_neg e];split
   ·rw[h1];rfl
   ·exact h1
 ·simp only[not_or]at hid;refine⟨by simp[Own.move,hid.1,hid.2],by rw[(kO nx ob K h id hnK hKl).1,if_neg hid.1,if_neg hid.2],fun hd b h1 h2=>hold b (hp.lt id hd b h1 h2) ?_⟩;rintro⟨id',hm,hd2,e1,e2⟩;exact hid.2 (hp.inj id id' hd hd2 b h1 e1 h2 e2▸hm)
 ·simp only[Own.move]at h1;by_cases e:id=nx
  ·subst e;rw[if_pos rfl]at h1;cases h1;refine⟨(kO _ ob K h 0 hnK hKl).2.2,fun b hb=>?_⟩;rcases hbs b hb with⟨id',hm,hd2,e1,e2⟩ |h3
   ·refine⟨Nat.lt_of_lt_of_le (hp.lt id' hd2 b e1 e2) hsz,hp.apart id' hd2 b e1 e2,fun j hj hne h4 h5=>?_⟩;simp only[Own.move,if_neg hne]at h4;by_cases hm2:j∈K
    ·rw[if_pos hm2]at h4;cases ho:own j with
     |none=>rw[ho]at h4;simp at h4
     |some hd3=>rw[ho]at h4;simp at h4;subst h4;simp at h5
    ·rw[if_neg hm2]at h4;exact hm2 (hp.inj j id' hj hd2 b h4 e1 h5 e2▸hm)
   ·refine⟨h3.2,fun hf=>by have:=hp.foreign b hf;omega,fun j hj hne h4 h5=>?_⟩;simp only[Own.move,if_neg hne]at h4;by_cases hm2:j∈K
    ·rw[if_pos hm2]at h4;cases ho:own j with
     |none=>rw[ho]at h4;simp at h4
     |some hd3=>rw[ho]at h4;simp at h4;subst h4;simp at h5
    ·rw[if_neg hm2]at h4;have:=hp.lt j hj b h4 h5;omega
  ·rw[if_neg e]at h1;have hm:id∈K:=hid.resolve_left e;rw[if_pos hm]at h1;cases ho:own id with
   |none=>rw[ho]at h1;simp at h1
   |some hd2=>
    rw[ho]at h1;simp at h1;subst h1;exact⟨Nat.lt_of_lt_of_le (hKl id hm) (kO nx ob K h 0 hnK hKl).2.1,fun b hb=>by simp at hb⟩
 ·rw[(kO nx ob K h id hnK hKl).1]at hd |-;by_cases e:id=nx
  ·subst e;rw[if_pos rfl]at hd |-;exact⟨hd',by simp[Own.move],hob _ fr.goes⟩
  ·rw[if_neg e]at hd;have hm:id∈K:=hid.resolve_left e;rw[if_pos hm]at hd;cases hd
structure Src (P:Program)(F:Nat->Prop)(own:Own)(w:World)(k:Tag)(m:List k.T)(v:Value)(news:List Value):Prop where
 len:∃ a cap,v=.slice a m.length cap
 cells:∀ (w1:World),w1.heap=w.heap->(Builtin.firstCells (ae k) m.length v).run P w1=.ok news.toArray w1
 size:news.length=m.length*ae k
 rel:∀ (i:Nat) (x:k.T),m[i]? =some x->∀ (j:Nat) (s:SV),(cellsOf k x)[j]? =some s->∃ u,news[i*ae k+j]? =some u/\Rel F own w s u
theorem Gt {n size p:Nat}(h:p<n*size):p / size<n/\p % size<size/\p / size*size+p % size=p:=by
 have hpos:0<size:=by
  rcases Nat.eq_zero_or_pos size with e|e
  ·subst e;simp at h
  ·exact e
 refine⟨(Nat.div_lt_iff_lt_mul hpos).2 h,Nat.mod_lt _ hpos,?_⟩;rw[Nat.mul_comm];exact Nat.div_add_mod p size
theorem Src.one {k:Tag}{m:List k.T}{v:Value}{news:List Value}(h:Src P F own w k m v news):∀ u∈news,u.oneCell'=true:=by
 intro u hu;obtain⟨p,hp⟩:=List.getElem?_of_mem hu;have hlt:=(List.getElem?_eq_some_iff.1 hp).1;rw[h.size]at hlt;obtain⟨h1,h2,h3⟩:=Gt hlt;have hc:p % ae k< (cellsOf k (m.getD (p / ae k) (fS k))).length:=by rw[bf];exact h2
 obtain⟨u',e1,e2⟩:=h.rel _ _ (rh h1) _ _ (List.getElem?_eq_getElem hc);rw[h3,hp]at e1;simp only[Option.some.injEq]at e1;subst e1;exact nz (EM (List.getElem?_eq_getElem hc) e2)
theorem Io {k:Tag}{l:List k.T}{b o cap:Nat}(hc:∀ (i:Nat) (x:k.T),l[i]? =some x->∀ (j:Nat) (s:SV),(cellsOf k x)[j]? =some s->∃ u,w.cell? ⟨b,o+i*ae k+j,none⟩=some u/\Rel F own w s u):
  ∃ news,Src P F own w k l (.slice (some ⟨b,o,none⟩) l.length cap) news:=by
 have key:∀ p,p<l.length*ae k->w.cell? ⟨b,o+p,none⟩=some ((w.cell? ⟨b,o+p,none⟩).getD undef):=by
  intro p hp;obtain⟨h1,h2,h3⟩:=Gt hp;have hl:p % ae k< (cellsOf k (l.getD (p / ae k) (fS k))).length:=by rw[bf];exact h2
  obtain⟨u,e1,_⟩:=hc _ _ (rh h1) _ _ (List.getElem?_eq_getElem hl);rw[Nat.add_assoc,h3]at e1;rw[e1];rfl
 refine⟨(List.range (l.length*ae k)).map fun p=>(w.cell? ⟨b,o+p,none⟩).getD undef,⟨_,_,rfl⟩,fun w1 hw1=>?_,by simp,fun i x hi j s hj=>?_⟩
 ·refine run_firstCells_some w1 _ _ _ _ _ _ (by simp) fun j v hj=>?_;simp only[List.getElem?_map,Option.map_eq_some_iff]at hj;obtain⟨p,hp,rfl⟩:=hj;have hlt:j<l.length*ae k:=by have:=(List.getElem?_eq_some_iff.1 hp).1;simpa using this
  rw[List.getElem?_range hlt]at hp;simp only[Option.some.injEq]at hp;subst hp;rw[ov,sH (w:=w) (by rw[hw1])];exact key j hlt
 ·obtain⟨u,e1,e2⟩:=hc i x hi j s hj;have hi':=(List.getElem?_eq_some_iff.1 hi).1;have hj':j<ae k:=by rw[<-bf k x];exact(List.getElem?_eq_some_iff.1 hj).1
  have hlt:i*ae k+j<l.length*ae k:=by
   have:(i+1)*ae k<=l.length*ae k:=Nat.mul_le_mul_right _ hi';rw[Nat.succ_mul]at this;omega
  refine⟨u,?_,e2⟩;rw[List.getElem?_map,List.getElem?_range hlt];simp only[Option.map_some];rw[<-Nat.add_assoc,e1];rfl
theorem yR {k:Tag}{a:Option Addr}{cap:Nat}:Src P F own w k [] (.slice a 0 cap) []:=
 ⟨⟨_,_,rfl⟩,fun w1 _=>by cases a <;>simp[Builtin.firstCells,loadCells,loadCellsFrom],by simp,fun i x h=>by simp at h⟩
theorem sS {k k':Tag}{l:List k'.T}{m:List k.T}(h:xK k k' l=some m):∃ e:k'=k,m=e▸l:=by
 unfold xK at h;split at h
 ·rename_i e;simp at h;exact⟨e,h.symm⟩
 ·cases h
theorem EP {k:Tag}{l:List k.T}{v:Value}{bs:List Nat}(h:RowRel F own w k l v bs):∃ news,Src P F own w k l v news:=by
 rcases h with⟨a,rfl,rfl,_⟩ | ⟨b,o,cap,cs,ty,rfl,h2,h3,h4,h5,h6,h7⟩
 ·exact⟨[],yR⟩
 ·exact Io fun i x hi j s hj=>by
   obtain⟨u,e1,e2⟩:=h7 i x hi j s hj;exact⟨u,by rw[dq h3];exact e1,e2⟩
theorem qQ {α:Type}{l:List α}{a b i:Nat}{x:α}(h:((l.take b).drop a)[i]? =some x):l[a+i]? =some x/\a+i<b:=by
 rw[List.getElem?_drop,List.getElem?_take]at h;split at h
 ·exact⟨h,by assumption⟩
 ·cases h
theorem M4 {k:Tag}{l:List k.T}{x:Value}{bs:List Nat}(h:RowRel F own w k l x bs){sz cap:Nat}{lo hi:Int}{a:Option Addr}(h2:Tj x sz lo hi a)(hz:sz=ae k):
  ∃ news,Src P F own w k ((l.take hi.toNat).drop lo.toNat) (.slice a (hi.toNat - lo.toNat) cap) news:=by
 have nil:hi.toNat<=lo.toNat->∃ news,Src P F own w k ((l.take hi.toNat).drop lo.toNat) (.slice a (hi.toNat - lo.toNat) cap) news:=fun hle=>by
  have e:(l.take hi.toNat).drop lo.toNat=[]:=List.drop_eq_nil_of_le (by simp;omega);rw[e,show hi.toNat - lo.toNat=0 by omega];exact⟨[],yR⟩
 rcases h2 with h2| ⟨b,o,n,c,rfl,h3,rfl⟩
 ·exact nil h2
 ·rcases h with⟨a,e,rfl,_⟩ | ⟨b',o',cap',cs,ty,e,q2,q3,q4,q5,q6,q7⟩
  ·cases e;exact nil (by omega)
  ·cases e;have hlen:((l.take hi.toNat).drop lo.toNat).length=hi.toNat - lo.toNat:=by simp;omega
   rw[<-hlen];exact Io fun i x hi' j s hj=>by
    obtain⟨e1,_⟩:=qQ hi';obtain⟨u,g1,g2⟩:=q7 _ x e1 j s hj;refine⟨u,?_,g2⟩;rw[dq q3,hz,show o+lo.toNat*ae k+i*ae k+j=o+(lo.toNat+i)*ae k+j by rw[Nat.add_mul];omega];exact g1
theorem EQ {h:List Ob}(hp:Hp F own w h){k:Tag}{s:SV}{v:Value}(hr:Rel F own w s v){m:List k.T}(hs:tF k h s=some m):∃ news,Src P F own w k m v news:=by
 cases hr with
 |rs c h0 h0' h1 h2=>
  obtain⟨e,rfl⟩:=sS hs;subst e;exact Io fun i x hi j s hj=>⟨_,(h1 i x hi j s hj).2,h2 i x hi j s hj⟩
 |rs0=>
  obtain⟨e,rfl⟩:=sS hs;subst e;exact⟨[],yR⟩
 |e0=>simp[tF]at hs;subst hs;exact⟨[],yR⟩
 |v x=>
  unfold tF at hs;split at hs
  ·rename_i heq;cases heq
  ·rename_i heq;cases heq;simp at hs;subst hs;exact⟨[],yR⟩
  ·rename_i heq;cases heq
  ·rename_i heq;cases heq
  ·rename_i heq;cases heq
  ·cases hs
 |os h1 h2=>
  rename_i id hd;simp only[tF]at hs;cases ho:al h id with
  |row k' l=>
   rw[ho]at hs;simp only[Lc]at hs;obtain⟨e,rfl⟩:=sS hs;subst e;obtain⟨hd',e0,e1⟩:=hp.at ho rfl;rw[h1]at e0;cases e0;exact EP e1
  |_=>rw[ho]at hs;cases hs
 |vw h1 h2 hcap3=>
  rename_i sz id cap lo hi hd a;simp only[tF]at hs;cases ho:al h id with
  |row k' l=>
   rw[ho]at hs;simp only[PB]at hs;cases hb:Nat.beq sz (ae k')with
   |false=>rw[hb]at hs;cases hs
   |true=>
    rw[hb]at hs;simp only[cond_true]at hs;obtain⟨e,rfl⟩:=sS hs;subst e;obtain⟨hd',e0,e1⟩:=hp.at ho rfl;rw[h1]at e0;cases e0;exact M4 e1 h2 (Nat.eq_of_beq_eq_true hb)
  |_=>rw[ho]at hs;cases hs
 |_=>simp[tF]at hs
theorem rQ (z:Array Value)(n:Nat):(Builtin.zeroCells z n).size=n*z.size:=by simp[Builtin.zeroCells]
theorem wB {t t2 ty e e2:TypeId}{i:TypeInfo}{z:Value}(ht:P.underlying t=some (.slice e))(ht2:P.underlying t2=some (.slice e2))(hi:P.info? e=some i)(hz:i.zero=some z){a0:Option Addr}{n cap:Nat}{olds:List Value}
  (holds:∀ w1:World,w1.heap=w.heap->(Builtin.firstCells i.size n (.slice a0 n cap)).run P w1=.ok olds.toArray w1) {v:Value} {m:Nat} {news:List Value} (hv:∃ a c,v=.slice a m c) (hnews:∀ w1:World,w1.heap=w.heap->(Builtin.firstCells i.size m v).run P w1=.ok news.toArray w1)
  (hg:cap<n+m) (h63:n+m<=9223372036854775807) (hfit:(n+m)*i.bytes<=ez):
  (Builtin.append_ #[t,t2] ty #[.slice a0 n cap,v]).run P w=.ok (.slice (some ⟨w.heap.size,0,none⟩) (n+m) (grownCap w (n+m) cap e)) (w.drew.alloc (.cells (olds.toArray++news.toArray++Builtin.zeroCells z.cells (grownCap w (n+m) cap e - (n+m))) e)):=by
 obtain⟨a,c,rfl⟩:=hv;have hn:¬ (n+m<=cap):=by omega
 have h63':¬ (9223372036854775807< ((n:Int)+(m:Int))):=by omega
 have h48':¬ (281474976710656<Builtin.nextslicecap (n+m) cap*i.bytes):=by have:=growslice_fits hg hfit;omega
 have h1:=holds w.drew rfl;have h2:=hnews w.drew rfl;simp[Builtin.append_,run_underlying ht,run_underlying ht2,sizeOf,typeInfo,zeroValue,hi,hz,Builtin.lenOf,hn,h63',h48',Question.forced,h1,h2,newRow,grownCap];congr 2
 apply Array.ext';simp[List.append_assoc]
theorem wC {t t2 ty e e2:TypeId}{i:TypeInfo}(ht:P.underlying t=some (.slice e))(ht2:P.underlying t2=some (.slice e2))(hi:P.info? e=some i){b o n cap:Nat}{v:Value}{m:Nat}{news:List Value}(hv:∃ a c,v=.slice a m c)(hnews:(Builtin.firstCells i.size m v).run P w=.ok news.toArray w)
  (hg:n+m<=cap) {w':World} (hst:(storeCells ⟨b,o+n*i.size,none⟩ news 0).run P w=.ok () w'):
  (Builtin.append_ #[t,t2] ty #[.slice (some ⟨b,o,none⟩) n cap,v]).run P w=.ok (.slice (some ⟨b,o,none⟩) (n+m) cap) w':=by
 obtain⟨a,c,rfl⟩:=hv;simp[Builtin.append_,run_underlying ht,run_underlying ht2,sizeOf,typeInfo,hi,Builtin.lenOf,hg,hnews,ov,hst]
theorem At {t t2 ty e e2:TypeId}{i:TypeInfo}(ht:P.underlying t=some (.slice e))(ht2:P.underlying t2=some (.slice e2))(hi:P.info? e=some i){a0:Option Addr}{cap:Nat}{v:Value}(hv:∃ a c,v=.slice a 0 c)(hnews:(Builtin.firstCells i.size 0 v).run P w=.ok #[] w):
  (Builtin.append_ #[t,t2] ty #[.slice a0 0 cap,v]).run P w=.ok (.slice a0 0 cap) w:=by
 obtain⟨a,c,rfl⟩:=hv;cases a0 <;>simp[Builtin.append_,run_underlying ht,run_underlying ht2,sizeOf,typeInfo,hi,Builtin.lenOf,hnews,storeCells]
theorem vo (w:World)(need old:Nat)(e:TypeId):need<=grownCap w need old e:=grownCap_ge w need old e
def PN (P:Program)(F:Nat->Prop)(own:Own)(w:World)(k:Tag)(l m:List k.T)(v:Value)(bs:List Nat):Prop:=bs=[]/\m≠[]/\(∃ a,v=.slice a l.length l.length)/\∃ olds,Src P F own w k l v olds
theorem DS {h:List Ob}(hp:Hp F own w h){nx:Nat}(hn:NxOk own h nx){t t2 ty e e2:TypeId}{i:TypeInfo}{z:Value}(ht:P.underlying t=some (.slice e))(ht2:P.underlying t2=some (.slice e2))(hi:P.info? e=some i)(hz:i.zero=some z)(hzs:z.cells.size=i.size){k:Tag}(hk:i.size=ae k)(hby:1<=i.bytes)
  {l m:List k.T} {v u:Value} {bs:List Nat} (hrow:RowRel F own w k l v bs\/PN P F own w k l m v bs) {K:List Nat} (hK:∀ id∈K,∃ hd,own id=some hd) (hKb:∀ b∈bs,∃ id∈K,∃ hd,own id=some hd/\b∈hd.bs) (hKo:∀ id∈K,∀ hd,own id=some hd->∀ b∈hd.bs,b∈bs)
  {news:List Value} (hs:Src P F own w k m u news) (hfit:(l++m).length*i.bytes<=ez):
  (l++m).length<=aA/\∃ v' hd' w',(Builtin.append_ #[t,t2] ty #[v,u]).run P w=.ok v' w'/\hd'.v=v'/\q_ v'=true/\Step F own w (aS h (K.map (fun id=>(id,Ob.dead))++[(nx,.row k (l++m))])) (own.move K nx hd') w':=by
 have hlen:(l++m).length<=aA:=by
  have:(l++m).length<=(l++m).length*i.bytes:=Nat.le_mul_of_pos_right _ hby;unfold ez at hfit;unfold aA;omega
 refine⟨hlen,?_⟩;have h63:(l++m).length<=9223372036854775807:=by unfold aA at hlen;omega
 have hsrcl:=hs.len;rw[List.length_append]at hlen h63 hfit;have grow:∀ (a0:Option Addr) (cap:Nat) (olds:List Value),v=.slice a0 l.length cap->cap<l.length+m.length->(∀ w1:World,w1.heap=w.heap->(Builtin.firstCells i.size l.length v).run P w1=.ok olds.toArray w1)->olds.length=l.length*ae k->
   (∀ (i:Nat) (x:k.T),l[i]? =some x->∀ (j:Nat) (s:SV),(cellsOf k x)[j]? =some s->∃ u,olds[i*ae k+j]? =some u/\Rel F own w s u)->
   ∃ v' hd' w',(Builtin.append_ #[t,t2] ty #[v,u]).run P w=.ok v' w'/\hd'.v=v'/\q_ v'=true/\Step F own w (aS h (K.map (fun id=>(id,Ob.dead))++[(nx,.row k (l++m))])) (own.move K nx hd') w':=by
  intro a0 cap olds hv hcap holds hol hrel;rw[hv]at holds;have hrun:=wB (P:=P) (ty:=ty) ht ht2 hi hz holds hsrcl (by rw[hk];exact hs.cells) hcap h63 hfit;rw[<-hv]at hrun;have hge:=vo w (l.length+m.length) cap e;let cs:=olds.toArray++news.toArray++Builtin.zeroCells z.cells (grownCap w (l.length+m.length) cap e - (l.length+m.length))
  have hcs:cs.size=grownCap w (l.length+m.length) cap e*ae k:=by
   simp only[cs,Array.size_append,List.size_toArray,rQ,hzs,hk,hol,hs.size,<-Nat.add_mul];congr 1;omega
  refine⟨_,⟨none,_,[],[w.heap.size]⟩,_,hrun,rfl,rfl,lK hp hn K hK _ _ (fun b hb=>?_) (fun b hb _=>?_) ?_ rfl rfl rfl fun own' g=>?_⟩
  ·simp at hb;subst hb;exact .inr ⟨Nat.le_refl _,by rw[jH];exact Nat.lt_succ_self _⟩
  ·exact ra w.drew _ b hb
  ·rw[jH];exact Nat.le_succ _
  ·refine .inr ⟨w.heap.size,0,grownCap w (l.length+m.length) cap e,cs,e,by simp,rfl,mD w.drew _,by omega,by simpa using hge,by simpa using hlen,fun q x hq j s hj=>?_⟩;have hjl:j<ae k:=by rw[<-bf k x];exact(List.getElem?_eq_some_iff.1 hj).1
   rw[Nat.zero_add];rw[List.getElem?_append]at hq;split at hq
   ·rename_i hlt;obtain⟨u',e1,e2⟩:=hrel q x hq j s hj;refine⟨u',?_,e2.mono g⟩;have hb:q*ae k+j<olds.length:=(List.getElem?_eq_some_iff.1 e1).1;simp only[cs];rw[Array.getElem?_append_left (by simp;omega),Array.getElem?_append_left (by simpa using hb)];simpa using e1
   ·rename_i hlt;obtain⟨u',e1,e2⟩:=hs.rel (q - l.length) x hq j s hj;refine⟨u',?_,e2.mono g⟩;have hb:=(List.getElem?_eq_some_iff.1 e1).1;have hqq:q*ae k+j=olds.length+((q - l.length)*ae k+j):=by
     rw[hol];have:q=l.length+(q - l.length):=by omega
     rw[this,Nat.add_mul];simp;omega
    simp only[cs];rw[hqq,Array.getElem?_append_left (by simp;omega),Array.getElem?_append_right (by simp)];simp;exact e1
 rcases hrow with(⟨a,rfl,rfl,rfl⟩ | ⟨b,o,cap,cs,tyb,rfl,rfl,h3,h4,h5,h6,h7⟩) | ⟨rfl,hm,⟨a,hv⟩,olds,ho⟩
 rotate_left 2
 ·have:0<m.length:=List.length_pos_iff.2 hm;exact grow a l.length olds hv (by omega) (by rw[hk];exact ho.cells) ho.size ho.rel
 ·by_cases hm:m=[]
  ·subst hm;have hnw:news=[]:=List.eq_nil_of_length_eq_zero (by simpa using hs.size);subst hnw;have hrun:=At (P:=P) (ty:=ty) ht ht2 hi (a0:=a) (cap:=0) hsrcl (by have:=hs.cells w rfl;rw[hk];exact this);exact⟨_,⟨none,_,[],[]⟩,w,hrun,rfl,rfl,lK hp hn K hK _ _ (fun b hb=>by simp at hb) (fun _ _ _=>rfl) (Nat.le_refl _) rfl rfl rfl fun own' g=>.inl ⟨a,rfl,rfl,rfl⟩⟩
  ·have:0<m.length:=List.length_pos_iff.2 hm;exact grow a 0 [] rfl (by simp;omega) (fun w1 _=>by cases a <;>simp[Builtin.firstCells,loadCells,loadCellsFrom]) (by simp) (fun i x hx=>by simp at hx)
 ·by_cases hroom:l.length+m.length<=cap
  ·have hfits:o+l.length*ae k+news.length<=cs.size:=by
    rw[hs.size];have:(l.length+m.length)*ae k<=cap*ae k:=Nat.mul_le_mul_right _ hroom;rw[Nat.add_mul]at this;omega
   obtain⟨cs',w',q1,q2,q3,q4⟩:=j_ (P:=P) (b:=b) (o:=o+l.length*ae k) (ty:=tyb) news 0 w cs h3 (by omega) hs.one;have hrun:=wC (P:=P) (ty:=ty) ht ht2 hi (b:=b) (o:=o) (n:=l.length) (cap:=cap) hsrcl (by have:=hs.cells w rfl;rw[hk];exact this) hroom (w':=w') (by rw[hk];exact q1);refine⟨_,⟨none,_,[],[b]⟩,w',hrun,rfl,rfl,lK hp hn K hK _ _ (fun b' hb'=>by simp at hb';subst hb';exact .inl (hKb _ (by simp))) (fun b' hb' hn'=>q2.other b' fun e=>hn' (by rw[e];exact hKb b (by simp))) (by rw[q2.size];exact Nat.le_refl _) q2.os q2.tape q2.output fun own' g=>?_⟩;refine .inr ⟨b,o,cap,cs',tyb,by simp,rfl,q2.here,by rw[q3];exact h4,by simpa using hroom,by simpa using hlen,fun q x hq j s hj=>?_⟩;have hjl:j<ae k:=by rw[<-bf k x];exact(List.getElem?_eq_some_iff.1 hj).1
   rw[List.getElem?_append]at hq;split at hq
   ·rename_i hlt;obtain⟨u',e1,e2⟩:=h7 q x hq j s hj;refine⟨u',?_,e2.mono g⟩;have:(q+1)*ae k<=l.length*ae k:=Nat.mul_le_mul_right _ hlt;rw[Nat.succ_mul]at this;rw[q4,if_neg (by omega)];exact e1
   ·rename_i hlt;obtain⟨u',e1,e2⟩:=hs.rel (q - l.length) x hq j s hj;refine⟨u',?_,e2.mono g⟩;have hb:=(List.getElem?_eq_some_iff.1 e1).1;have hqq:o+q*ae k+j=o+l.length*ae k+0+((q - l.length)*ae k+j):=by
     have:q=l.length+(q - l.length):=by omega
     rw[this,Nat.add_mul];simp;omega
    rw[q4,hqq,if_pos (by omega),Nat.add_sub_cancel_left];exact e1
  ·obtain⟨olds,ho⟩:=EP (P:=P) (F:=F) (own:=own) (w:=w) (k:=k) (l:=l) (v:=.slice (some ⟨b,o,none⟩) l.length cap) (bs:=[b]) (.inr ⟨b,o,cap,cs,tyb,rfl,rfl,h3,h4,h5,h6,h7⟩);exact grow (some ⟨b,o,none⟩) cap olds rfl (by omega) (by rw[hk];exact ho.cells) ho.size ho.rel
end
end Go.Sx
end
