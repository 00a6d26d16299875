/- Part of the proof that the law JudgementServed returns true and leaves its arguments as they were, for all arguments of bulk at most 1048576 (the Upto form). -/
import Derived.Test.YtnanafpgfihjfaaGreatJ701
import Derived.Laws.Entries
import Derived.Laws.Tables
import Derived.Laws.StructEq
import Derived.Laws.MakeOwn
import Derived.ChangeKeysEq
set_option linter.all false
set_option maxHeartbeats 4000000
set_option maxRecDepth 100000
section
namespace Go.Sx
open Go.RowKit
theorem nbl {n m:Nat}(h:Nat.ble n m=true):n<=m:=Nat.le_of_ble_eq_true h
theorem yD {k:Tag}{x:k.T}{j:Nat}{s:SV}(h:(cellsOf k x)[j]? =some s):(∃ y,s=.v y/\sK y=true)\/(∃ (k':Tag) (l:List k'.T),s=.rs k' l/\rank k'<rank k)\/(∃ (k' k2:Tag) (l:List (k'.T×k2.T)),s=.rm k' k2 l/\rank k'<rank k/\rank k2<rank k)\/∃ f,s=.fn f [] []/\rank k≠0:=by
 have hm:=aiw h;cases k <;>simp only[cellsOf,aiu,ai9,or_false]at hm <;>
  (repeat' (rcases hm with hm|hm)) <;>first|exact .inl ⟨_,rfl,rfl⟩ |exact .inr (.inl ⟨_,_,rfl,by decide⟩) |exact .inr (.inr (.inl ⟨_,_,_,rfl,by decide,by decide⟩)) |(cases x <;>first|exact .inl ⟨_,rfl,rfl⟩ |exact .inr (.inr (.inr ⟨_,rfl,by decide⟩)))
section
variable {P:Program}{F:Nat->Prop}{own:Own}{w:World}
theorem bR {x v:Value}(h:Rel F own w (.v x) v):v=x:=by cases h;rfl
theorem I6 {k:Tag}{x:k.T}{j:Nat}{s:SV}{u:Value}(h:(cellsOf k x)[j]? =some s)(hr:Rel F own w s u):sK u=true:=by
 rcases yD h with⟨y,rfl,hy⟩ | ⟨k',l,rfl,_⟩ | ⟨k',k2,l,rfl,_⟩ | ⟨f,rfl,_⟩;grind [bR]
 cases hr <;>rfl;cases hr <;>rfl;cases hr <;>rfl
def RowAt (F:Nat->Prop)(own:Own)(w:World)(k:Tag)(l:List k.T)(o:Nat)(cs:Array Value):Prop:=
 ∀ (i:Nat) (x:k.T),l[i]? =some x->∀ (j:Nat) (s:SV),(cellsOf k x)[j]? =some s->∃ u,cs[o+i*ae k+j]? =some u/\Rel F own w s u
def RowRel (F:Nat->Prop)(own:Own)(w:World)(k:Tag)(l:List k.T)(v:Value)(bs:List Nat):Prop:=
 (∃ a,v=.slice a 0 0/\l=[]/\bs=[])\/
 ∃ b o cap cs ty,v=.slice (some ⟨b,o,none⟩) l.length cap/\bs=[b]/\w.heap[b]? =some (.cells cs ty (0,0))/\o+cap*ae k<=cs.size/\l.length<=cap/\l.length<=aI/\RowAt F own w k l o cs
def MpAt (F:Nat->Prop)(own:Own)(w:World)(kk vk:Tag)(l:List (kk.T×vk.T))(es:Array MapEntry):Prop:=
 es.size=l.length/\∀ (i:Nat) (x:kk.T×vk.T),l[i]? =some x->∃ e,es[i]? =some e/\True/\Rel F own w (svT kk x.1) e.key/\Rel F own w (svT vk x.2) e.val
def fj (kk vk:Tag)(l:List (kk.T×vk.T)):Option (Nat×Option kk.T)->List (kk.T×vk.T)
 |some (_,some x) =>if(jn l x).isSome then l else l++[(x,gz vk)]|_=>l
theorem lZ {kk vk:Tag}{l:List (kk.T×vk.T)}{p:Option (Nat×Option kk.T)}(h:noE p=true):fj kk vk l p=l:=by
 cases p with
 |none=>rfl
 |some q=>obtain⟨i,q⟩:=q;cases q with
  |none=>rfl|some x=>cases h
def j8 (es:Array MapEntry):List Nat:=es.toList.map (·.born)
def Stamped (es:Array MapEntry)(clock:Nat):Prop:=(j8 es).Nodup/\∀ n∈j8 es,n<clock
def stV (ss:List Nat)(clock:Nat):List Value:=.int .i64 clock::ss.map fun n=>.int .i64 (n:Nat)
def PendOk (own:Own)(kk vk:Tag)(l:List (kk.T×vk.T))(es:Array MapEntry)(clock:Nat):Option (Nat×Option kk.T)->Prop
 |none=>True|some (nx,some x) =>∃ hd2 e,own nx=some hd2/\es[wC kk vk l x]? =some e/\hd2.v=.int .i64 e.born|some (nx,none) =>∃ hd2,own nx=some hd2/\hd2.vs=stV (j8 es) clock
def GridIn (F:Nat->Prop)(own:Own)(w:World)(k:Tag):List (List k.T)->List Value->List Nat->Prop
 | [],[],bs=>bs=[]|l::ls,v::vs,bs=>∃ b1 b2,bs=b1++b2/\sK v=true/\RowRel F own w k l v b1/\GridIn F own w k ls vs b2|_,_,_=>False
def ObRel (F:Nat->Prop)(own:Own)(w:World)(hd:Hd):Ob->Prop
 | .cells l=>∃ b cs ty,hd.p=some b/\hd.bs=[b]/\w.heap[b]? =some (.cells cs ty (0,0))/\cs.size=l.length/\∀ (j:Nat) (s:SV),l[j]? =some s->Rel F own w s (cs.getD j undef)| .dead=>True| .row k l=>RowRel F own w k l hd.v hd.bs| .mp kk vk l pend=>∃ b es clock,hd.v=.map (some b)/\hd.bs=[b]/\w.heap[b]? =some (.map es clock)/\MpAt F own w kk vk (fj kk vk l pend) es/\Stamped es clock/\PendOk own kk vk l es clock pend
 | .grid k l=>(hd.v=.slice none 0 0/\l=[]/\hd.vs=[]/\hd.bs=[])\/
   ∃ b o cap cs ty bs,hd.v=.slice (some ⟨b,o,none⟩) l.length cap/\hd.bs=b::bs/\hd.bs.Nodup/\w.heap[b]? =some (.cells cs ty (0,0))/\o+cap<=cs.size/\l.length<=cap/\l.length<=aI/\
    (∀ (i:Nat) (v:Value),hd.vs[i]? =some v->cs[o+i]? =some v)/\GridIn F own w k l hd.vs bs
 | .ab r=>hd.v=r.yv/\r.R (fun b=>cm F own b/\b ∉ hd.bs) hd.bs w
 | .raw o=>∃ b,hd.p=some b/\hd.bs=[b]/\w.heap[b]? =some o| .mi mid n left cur=>∃ b,hd.p=some b/\hd.bs=[b]/\∀ i,mid=some i->∃ (hdm:Hd) (bm:Nat) (seen:Array Nat) (c:Nat) (ss:List Nat),own i=some hdm/\hdm.v=.map (some bm)/\w.heap[b]? =some (.mapIter (some bm) c seen c)/\hd.vs=stV ss c/\ss.length=n/\left.Nodup/\(∀ k,k∈left↔∃ s,ss[k]? =some s/\¬s∈seen.toList)/\∀ j,cur=some j->∃ s,ss[j]? =some s/\seen.back? =some s| .fwd n=>∀ i,n=some i->∃ hd2,own i=some hd2/\hd2.v=hd.v/\sK hd.v=true| .fz k l=>Rel F own w (.rs k l) hd.v
variable {F':Nat->Prop}{own':Own}{w':World}
theorem RowAt.carry (g:Carries F own w F' own' w'){k:Tag}{l:List k.T}{o:Nat}{cs:Array Value}(h:RowAt F own w k l o cs):RowAt F' own' w' k l o cs:=
 fun i x hi j s hj=>by obtain⟨u,h1,h2⟩:=h i x hi j s hj;exact⟨u,h1,h2.carry g⟩
theorem RowRel.carry (g:Carries F own w F' own' w'){k:Tag}{l:List k.T}{v:Value}{bs:List Nat}(hb:∀ b∈bs,w'.heap[b]? =w.heap[b]?)(h:RowRel F own w k l v bs):RowRel F' own' w' k l v bs:=by
 rcases h with h| ⟨b,o,cap,cs,ty,h1,h2,h3,h4,h5,h6,h7⟩;exact .inl h;exact .inr ⟨b,o,cap,cs,ty,h1,h2,by grind,h4,h5,h6,h7.carry g⟩
theorem GridIn.carry (g:Carries F own w F' own' w'){k:Tag}:∀ {l:List (List k.T)} {vs:List Value} {bs:List Nat},(∀ b∈bs,w'.heap[b]? =w.heap[b]?)->GridIn F own w k l vs bs->GridIn F' own' w' k l vs bs
 | [],[],bs,_,h=>h
 |l::ls,v::vs,bs,hb,⟨b1,b2,h1,h0,h2,h3⟩ =>⟨b1,b2,h1,h0,h2.carry g fun b hbb=>hb b (by grind),GridIn.carry g (fun b hbb=>hb b (by grind)) h3⟩
 | [],_::_,_,_,h=>h.elim|_::_,[],_,_,h=>h.elim
theorem MpAt.carry (g:Carries F own w F' own' w'){kk vk:Tag}{l:List (kk.T×vk.T)}{es:Array MapEntry}(h:MpAt F own w kk vk l es):MpAt F' own' w' kk vk l es:=
 ⟨h.1,fun i x hi=>by obtain⟨e,h1,h2,h3,h4⟩:=h.2 i x hi;exact⟨e,h1,h2,h3.carry g,h4.carry g⟩⟩
theorem PendOk.ids (g:∀ (id:Nat) (hd:Hd),own id=some hd->∃ hd',own' id=some hd'/\hd.like hd'){kk vk:Tag}{l:List (kk.T×vk.T)}{es:Array MapEntry}{clock:Nat}{p:Option (Nat×Option kk.T)}(h:PendOk own kk vk l es clock p):PendOk own' kk vk l es clock p:=by
 cases p with
 |none=>trivial
 |some q=>
  obtain⟨i,q⟩:=q;cases q with
  |some x=>
   obtain⟨hd2,e,h1,h2,h3⟩:=h;obtain⟨hd',e1,e2⟩:=g _ _ h1;exact⟨hd',e,e1,h2,e2.2.1.trans h3⟩
  |none=>
   obtain⟨hd2,h1,h2⟩:=h;obtain⟨hd',e1,e2⟩:=g _ _ h1;exact⟨hd',e1,e2.2.2.trans h2⟩
theorem ObRel.carry (g:Carries F own w F' own' w')(hsz:w.heap.size<=w'.heap.size){hd:Hd}(hb:∀ b∈hd.bs,w'.heap[b]? =w.heap[b]?){o:Ob}(h:ObRel F own w hd o):ObRel F' own' w' hd o:=by
 cases o with
 |cells l=>obtain⟨b,cs,ty,h1,h2,h3,h4,h5⟩:=h;exact⟨b,cs,ty,h1,h2,by grind,h4,fun j s hj=>(h5 j s hj).carry g⟩
 |dead=>trivial|row k l=>exact RowRel.carry g hb h
 |mp kk vk l pend=>obtain⟨b,es,clock,h1,h2,h3,h4,h5,h6⟩:=h;exact⟨b,es,clock,h1,h2,by grind,h4.carry g,h5,h6.ids g.ids⟩
 |grid k l=>
  rcases h with h| ⟨b,o,cap,cs,ty,bs,h1,h2,h3,h4,h5,h6,h7,h8,h9⟩;exact .inl h;exact .inr ⟨b,o,cap,cs,ty,bs,h1,h2,h3,by grind,h5,h6,h7,h8,h9.carry g fun b' hb'=>hb b' (by grind)⟩
 |ab r=>
  refine⟨h.1,r.loc _ _ _ w w' h.2 hsz (fun b hbl hn=>?_) (fun b hbl hn=>⟨?_,hn.2⟩)⟩;by_cases hm:b∈hd.bs
  exact hb b hm;exact(g.keep b hbl fun ho=>hn ⟨ho,hm⟩).2;exact aiO fun ho=>(g.keep b hbl ho).1 hn.1
 |raw o=>obtain⟨b,h1,h2,h3⟩:=h;exact⟨b,h1,h2,by grind⟩
 |mi mid n left cur=>
  obtain⟨b,h1,h2,h3⟩:=h;refine⟨b,h1,h2,fun i hi=>?_⟩;obtain⟨hdm,bm,seen,c,ss,k1,k2,k3,k4⟩:=h3 i hi;obtain⟨hd',e1,e2⟩:=g.ids _ _ k1;exact⟨hd',bm,seen,c,ss,e1,e2.2.1.trans k2,by grind,k4⟩
 |fwd n=>
  intro i hi;obtain⟨hd2,k1,k2,k3⟩:=h i hi;obtain⟨hd',e1,e2⟩:=g.ids _ _ k1;exact⟨hd',e1,e2.2.1.trans k2,k3⟩
 |fz k l=>exact Rel.carry g h
structure Hp (F:Nat->Prop)(own:Own)(w:World)(h:List Ob):Prop where
 dom:∀ (id:Nat) (hd:Hd),own id=some hd->id<h.length
 foreign:∀ b,F b->b<w.heap.size
 apart:∀ (id:Nat) (hd:Hd) (b:Nat),own id=some hd->b∈hd.bs->¬F b
 inj:∀ (i j:Nat) (hi hj:Hd) (b:Nat),own i=some hi->own j=some hj->b∈hi.bs->b∈hj.bs->i=j
 lt:∀ (id:Nat) (hd:Hd) (b:Nat),own id=some hd->b∈hd.bs->b<w.heap.size
 obs:∀ (id:Nat),dg (ar h id)=false->∃ hd,own id=some hd/\ObRel F own w hd (ar h id)
theorem Hp.at {h:List Ob}(hp:Hp F own w h){id:Nat}{o:Ob}(ho:ar h id=o)(hd:dg o=false):∃ hd,own id=some hd/\ObRel F own w hd o:=by
 subst ho;exact hp.obs id hd
theorem Hp.upd {h h':List Ob}(hp:Hp F own w h)(g:Goes F own w own' w')(U:Nat->Prop)(hlen:h.length<=h'.length)
  (same:∀ id,¬U id->own' id=own id/\ar h' id=ar h id/\∀ hd b,own id=some hd->b∈hd.bs->w'.heap[b]? =w.heap[b]?)
  (new:∀ id hd,U id->own' id=some hd->id<h'.length/\∀ b∈hd.bs,b<w'.heap.size/\¬F b/\∀ j hj,j≠id->own' j=some hj->b ∉ hj.bs)
  (obs:∀ id,U id->dg (ar h' id)=false->∃ hd,own' id=some hd/\ObRel F own' w' hd (ar h' id)):Hp F own' w' h':=by
 refine⟨fun id hd h1=>?_,fun b hb=>aiy (hp.foreign b hb) g.size,fun id hd b h1 h2=>?_,fun i j hi hj b h1 h2 h3 h4=>?_,fun id hd b h1 h2=>?_,fun id hd=>?_⟩;by_cases hu:U id
 grind
 rw[(same id hu).1]at h1;exact aiy (hp.dom id hd h1) hlen;by_cases hu:U id
 grind
 rw[(same id hu).1]at h1;exact hp.apart id hd b h1 h2;by_cases hui:U i
 grind
 by_cases huj:U j
 grind
 rw[(same i hui).1]at h1;rw[(same j huj).1]at h2;exact hp.inj i j hi hj b h1 h2 h3 h4;by_cases hu:U id
 grind
 rw[(same id hu).1]at h1;exact aiy (hp.lt id hd b h1 h2) g.size;by_cases hu:U id
 grind
 obtain⟨e1,e2,e3⟩:=same id hu;rw[e2]at hd |-;obtain⟨hdd,q1,q2⟩:=hp.obs id hd;exact⟨hdd,by grind,q2.carry g.carries g.size fun b hb=>e3 hdd b q1 hb⟩
theorem Hp.goes {h:List Ob}(hp:Hp F own w h)(g:Goes F own w own w')(hown:∀ (id:Nat) (hd:Hd) (b:Nat),own id=some hd->b∈hd.bs->w'.heap[b]? =w.heap[b]?):Hp F own w' h:=
 hp.upd g (fun _=>False) (aio _) (fun id _=>⟨rfl,rfl,fun hd b h1 h2=>hown id hd b h1 h2⟩) (fun _ _ hu=>hu.elim) (fun _ hu=>hu.elim)
theorem Hp.below {h:List Ob}(hp:Hp F own w h)(hb:Below w.heap.size w w'):Hp F own w' h:=
 hp.goes (Goes.below F own hb) fun id hd b h1 h2=>hb.block b (hp.lt id hd b h1 h2)
structure NxOk (own:Own)(h:List Ob)(nx:Nat):Prop where
 none:own nx=none
 dead:ar h nx=.dead
theorem Hp.nx {h:List Ob}(hp:Hp F own w h):NxOk own h h.length:=by
 refine⟨?_,qE (aio _)⟩;cases ho:own h.length with
 |none=>rfl|some hd=>exact absurd (hp.dom _ _ ho) (ajo _)
def Own.set (own:Own)(id:Nat)(hd:Hd):Own:=fun j=>if j=id then some hd else own j
theorem Own.set_same (own:Own)(id:Nat)(hd:Hd):own.set id hd id=some hd:=by simp[Own.set]
theorem Own.set_other (own:Own){id j:Nat}(hd:Hd)(h:j≠id):own.set id hd j=own j:=by simp[Own.set,h]
structure Step (F:Nat->Prop)(own:Own)(w:World)(h':List Ob)(own':Own)(w':World):Prop where
 hp:Hp F own' w' h'
 fr:Fr { w:=w,own:=own} own' w'
 fresh:∀ id,own id=none->dg (ar h' id)=true->own' id=none
theorem wH {h:List Ob}(hp:Hp F own w h){nx:Nat}(hn:NxOk own h nx){w1:World}(hw1:w1.heap=w.heap/\w1.os=w.os/\w1.tape=w.tape/\w1.output=w.output)(o:Obj)(ob:Ob)(hd:Hd)(hbs:hd.bs=[w.heap.size])
  (hob:∀ own':Own,Goes F own w own' (w1.alloc o)->ObRel F own' (w1.alloc o) hd ob) (hnd:dg ob=false:=by rfl):Step F own w (bM h nx ob) (own.set nx hd) (w1.alloc o):=by
 obtain⟨q1,q2,q3,q4⟩:=hw1;have hheap:(w1.alloc o).heap=w.heap.push o:=by show w1.heap.push o=_;rw[q1]
 have hold:∀ b,b<w.heap.size->(w1.alloc o).heap[b]? =w.heap[b]?:=fun b hb=>by grind
 have hsz:(w1.alloc o).heap.size=w.heap.size+1:=by grind
 have ids:∀ (id:Nat) (hdd:Hd),own id=some hdd->∃ hd',own.set nx hd id=some hd'/\hdd.like hd':=fun id hdd h1=>by
  have hne:id≠nx:=fun e=>by rw[e,hn.none]at h1;cases h1
  exact⟨hdd,by grind [Own.set_other],.refl _⟩
 have fr:Fr { w:=w,own:=own} (own.set nx hd) (w1.alloc o):=Fr.of_step ids (fun id hdd b h1 h2=>by
   grind [Own.set_same,Own.set_other]) (fun b hb _=>hold b hb) (by omega) q2 q3 q4
 have g:Goes F own w (own.set nx hd) (w1.alloc o):=fr.goes;refine⟨hp.upd g (· =nx) (by grind [ce]) (fun id hid=>⟨Own.set_other _ _ hid,by rw[dv,if_neg (fun e=>hid e.symm)],fun hdd b h1 h2=>hold b (hp.lt id hdd b h1 h2)⟩) (fun id hdd hid h1=>?_) (fun id hid _=>?_),fr,fun id h1 h2=>?_⟩
 rotate_left 2
 by_cases e:id=nx
 simp_all [dv];grind [Own.set_other]
 subst hid;rw[Own.set_same]at h1;cases h1;refine⟨by grind [ce],fun b hb=>?_⟩;rw[hbs]at hb;simp at hb;subst hb;refine⟨by omega,fun hf=>ajo _ (hp.foreign _ hf),fun j hj hne h2 h3=>?_⟩;rw[Own.set_other _ _ hne]at h2;exact ajo _ (hp.lt j hj _ h2 h3);subst hid;refine⟨hd,Own.set_same _ _ _,?_⟩;simp_all [dv]
theorem rO {h:List Ob}(hp:Hp F own w h){id:Nat}{hd:Hd}(h1:own id=some hd){b:Nat}(hb:b∈hd.bs)(hsz:w'.heap.size=w.heap.size)(hold:∀ k,k≠b->w'.heap[k]? =w.heap[k]?)(q2:w'.os=w.os)(q3:w'.tape=w.tape)(q4:w'.output=w.output)(ob:Ob)
  (hob:Goes F own w own w'->ObRel F own w' hd ob):Step F own w (bM h id ob) own w':=by
 have hlt:=hp.dom id hd h1;have fr:Fr { w:=w,own:=own} own w':=Fr.of_step (fun _ hdd h=>⟨hdd,h,.refl _⟩) (fun id hdd b h1 h2=>.inl ⟨id,hdd,h1,h2⟩) (fun k _ hn=>hold k fun e=>hn ⟨id,hd,h1,e▸hb⟩) (by omega) q2 q3 q4;refine⟨hp.upd fr.goes (· =id) (by rw[ce,if_pos hlt];omega) (fun j hj=>⟨rfl,by rw[dv,if_neg (fun e=>hj e.symm)],fun hdd b' h2 h3=>hold b' fun e=>hj (hp.inj j id hdd hd b' h2 h1 h3 (e▸hb))⟩) (fun j hdd hj h2=>?_) (fun j hj _=>?_),fr,fun _ h1 _=>h1⟩;subst hj;rw[h1]at h2;cases h2;exact⟨by simp_all [ce],fun b' hb'=>⟨by rw[hsz];exact hp.lt j hd b' h1 hb',hp.apart j hd b' h1 hb',fun i hi hne h3 h4=>hne (hp.inj i j hi hd b' h3 h1 h4 hb')⟩⟩;subst hj;refine⟨hd,h1,?_⟩;rw[dv,if_pos rfl];exact hob fr.goes
theorem Hu {h:List Ob}(hp:Hp F own w h){id:Nat}{hd:Hd}(h1:own id=some hd)(ob:Ob)(hob:ObRel F own w hd ob):Step F own w (bM h id ob) own w:=by
 have hlt:=hp.dom id hd h1;have fr:Fr { w:=w,own:=own} own w:=Fr.of_step (fun _ hdd h=>⟨hdd,h,.refl _⟩) (fun id hdd b h1 h2=>.inl ⟨id,hdd,h1,h2⟩) (fun _ _ _=>rfl) (aio _) rfl rfl rfl;refine⟨hp.upd fr.goes (· =id) (by rw[ce,if_pos hlt];omega) (fun j hj=>⟨rfl,by rw[dv,if_neg (fun e=>hj e.symm)],fun _ _ _ _=>rfl⟩) (fun j hdd hj h2=>?_) (fun j hj _=>?_),fr,fun _ h1 _=>h1⟩;subst hj;rw[h1]at h2;cases h2;exact⟨by simp_all [ce],fun b' hb'=>⟨hp.lt j hd b' h1 hb',hp.apart j hd b' h1 hb',fun i hi hne h3 h4=>hne (hp.inj i j hi hd b' h3 h1 h4 hb')⟩⟩;simp_all [dv]
theorem Oa {ss ss':List Nat}{c c':Nat}(h:stV ss c=stV ss' c'):c=c'/\ss=ss':=by
 unfold stV at h;simp only[aje,akJ,true_and]at h;refine⟨by omega,?_⟩;have h2:=h.2;clear h;induction ss generalizing ss' with
 |nil=>simp_all|cons a r ih=>cases ss' <;>grind
theorem bJ {t:TypeId}{ti:TI}(h:cw P t=some ti):∃ i d z,P.info? t=some i/\P.underlying t=some d/\i.zero=some z/\Bi P d=true/\ti=dN P t i d:=by
 unfold cw at h;split at h
 rename_i i d hi hd;cases hz:i.zero with
 |none=>grind
 |some z=>
  grind
 cases h
theorem dQ {t:TypeId}{i:TypeInfo}(h:P.info? t=some i):(sizeOf t).run P w=.ok i.size w:=by
 simp[sizeOf,typeInfo,h]
theorem zC {t:TypeId}{d:TypeDesc}(h:P.underlying t=some d):(isAgg t).run P w=.ok (lY P t) w:=by
 simp only[isAgg,aiJ,run_underlying h,aiA,lY,h];cases d <;>simp
theorem pH (b o n:Nat):Addr.add ⟨b,o,none⟩ n=⟨b,o+n,none⟩:=by grind [Addr.add]
theorem ez {b:Nat}{cs:Array Value}{ty:TypeId}{fr:Nat×Nat}(h:w.heap[b]? =some (.cells cs ty fr))(j:Nat):w.cell? ⟨b,j,none⟩=cs[j]?:=by
 simp[World.cell?,h]
theorem EZ {b:Nat}{cs:Array Value}{ty:TypeId}(h:w.heap[b]? =some (.cells cs ty (0,0)))(j:Nat):w.frozen? ⟨b,j,none⟩=false:=by
 simp[World.frozen?,h]
theorem Bv {t:TypeId}{ti:TI}(ht:cw P t=some ti){l:List SV}{b o off:Nat}(c:Nat->Value)
  (hc:∀ (j:Nat) (s:SV),l[j]? =some s->w.cell? ⟨b,o+j,none⟩=some (c j)/\Rel F own w s (c j)) {s':SV} (hp:td ti.agg ti.size l off=some s'):
  ∃ u,(loadVar t ⟨b,o+off,none⟩).run P w=.ok u w/\Rel F own w s' u:=by
 obtain⟨i,d,z,hi,hd,hz,hq,rfl⟩:=bJ ht;simp only[dN]at hp;simp only[loadVar,aiJ,zC hd,aiA];cases ha:lY P t with
 |true=>
  simp only[td,ha,cond_true,tJ,I5,D_]at hp;cases hb:Nat.ble (off+i.size) l.length with
  |false=>grind
  |true=>
   simp only[hb,cond_true,aip]at hp;subst hp;have hle:off+i.size<=l.length:=nbl hb;simp only[if_true,aiJ,dQ hi,aiA];rw[run_loadCells w ⟨b,o+off,none⟩ i.size (fun j=>c (off+j)) (fun j hj=>by
    have:=(hc (off+j) _ (aiv (by omega))).1;grind [pH])]
   refine⟨_,rfl,.agg (by simp;omega) fun j s hj=>?_⟩;simp_all [ak1]
 |false=>
  simp_all [td,ip]
theorem xC {o:Option SV}{s:SV}(h:wE o=.val s):o=some s:=by
 cases o with
 |none=>simp[wE]at h|some x=>grind [wE]
theorem uu {α:Type}{l:List α}{i:Nat}{d:α}(h:i<l.length):l[i]? =some (l.getD i d):=by grind
theorem RowAt.get {k:Tag}{l:List k.T}{o:Nat}{cs:Array Value}(h:RowAt F own w k l o cs){i:Nat}(hi:i<l.length){j:Nat}{s:SV}(hj:(cellsOf k (l.getD i (gz k)))[j]? =some s):
  cs[o+i*ae k+j]? =some (cs.getD (o+i*ae k+j) undef)/\Rel F own w s (cs.getD (o+i*ae k+j) undef):=by
 obtain⟨u,h1,h2⟩:=h i _ (uu hi) j s hj;simp_all
theorem GridIn.get {k:Tag}:∀ {l:List (List k.T)} {vs:List Value} {bs:List Nat} {i:Nat} {v:Value},GridIn F own w k l vs bs->vs[i]? =some v->∃ b1,sK v=true/\i<l.length/\RowRel F own w k (l.getD i []) v b1/\∀ b∈b1,b∈bs
 | [],[],bs,i,v,_,h=>by simp at h
 |l::ls,u::vs,bs,0,v,⟨b1,b2,h1,h0,h2,h3⟩,h=>by grind
 |l::ls,u::vs,bs,i+1,v,⟨b1,b2,h1,h0,h2,h3⟩,h=>by
  obtain⟨b3,q1,q2,q3,q4⟩:=GridIn.get h3 (by simpa using h);grind
 | [],_::_,_,_,_,h,_=>h.elim|_::_,[],_,_,_,h,_=>h.elim
theorem GridIn.len {k:Tag}:∀ {l:List (List k.T)} {vs:List Value} {bs:List Nat},GridIn F own w k l vs bs->vs.length=l.length
 | [],[],_,_=>rfl
 |l::ls,u::vs,bs,⟨b1,b2,h1,h0,h2,h3⟩ =>by simp[GridIn.len h3]
 | [],_::_,_,h=>h.elim|_::_,[],_,h=>h.elim
theorem Kz {h:List Ob}(hp:Hp F own w h){t:TypeId}{ti:TI}(ht:cw P t=some ti){s s':SV}{v:Value}(hr:Rel F own w s v)(hl:sJ ti h s=.val s'):
  ∃ u,(Instr.loadAt t v).run P w=.ok u w/\Rel F own w s' u:=by
 cases hr with
 |ptr h1 h2=>
  rename_i id off b hd;simp only[sJ]at hl;cases ho:ar h id with
  |cells l=>
   rw[ho]at hl;have hpo:=xC hl;obtain⟨hd',e0,b',cs,ty,e1,e2,e3,e4,e5⟩:=hp.at ho rfl;rw[h1]at e0;cases e0;rw[h2]at e1;cases e1;have:=Bv (P:=P) (w:=w) (F:=F) (own:=own) (b:=b) (o:=0) (off:=off) ht (fun j=>cs.getD j undef) (fun j s hj=>by
    refine⟨?_,e5 j s hj⟩;have hjl:j<cs.size:=by grind
    rw[ai2,ez e3];simp[hjl]) hpo
   grind [Instr.loadAt,Instr.sureAddr]
  |_=>rw[ho]at hl;simp[Bm]at hl
 |ep c h1 h2=>
  rename_i cells off b o;simp only[sJ]at hl;have hpo:=xC hl;have:=Bv (P:=P) (w:=w) (F:=F) (own:=own) (b:=b) (o:=o) (off:=off) ht c (fun j s hj=>⟨(h1 j s hj).2,h2 j s hj⟩) hpo;grind [Instr.loadAt,Instr.sureAddr]
 |rp h1 h2 h3=>
  rename_i szt id off n cap b o i hd;simp only[sJ]at hl;cases ho:ar h id with
  |row k l=>
   rw[ho]at hl;simp only[EH]at hl;cases hb:Nat.beq szt (ae k)with
   |false=>grind
   |true=>
    rw[hb]at hl;have hsz:=ain hb;have hpo:=xC hl;obtain⟨hd',e0,e⟩:=hp.at ho rfl;rw[h1]at e0;cases e0;rcases e with⟨a,e1,_⟩ | ⟨b',o',cap',cs,ty,e1,e2,e3,e4,e5,e6,e7⟩;grind
    rw[h2]at e1;simp only[aja,aip,ajA]at e1;obtain⟨⟨rfl,rfl,_⟩,rfl,rfl⟩:=e1;have:=Bv (P:=P) (w:=w) (F:=F) (own:=own) (b:=b) (o:=o+i.toNat*szt) (off:=off) ht (fun j=>cs.getD (o+i.toNat*ae k+j) undef) (fun j s hj=>by
     have:=e7.get h3 hj;grind [ez]) hpo
    grind [Instr.loadAt,Instr.sureAddr]
  |grid k l=>
   rw[ho]at hl;simp only[EH]at hl;cases hb:Nat.beq szt 1&&Nat.beq off 0&& !ti.agg with
   |false=>grind
   |true=>
    rw[hb]at hl;simp only[aim,aiE]at hb;have hs1:=ain hb.1.1;have hs2:=ain hb.1.2;subst hs1;subst hs2;simp only[cond_true,OR.val.injEq]at hl;subst hl;obtain⟨hd',e0,e⟩:=hp.at ho rfl;rw[h1]at e0;cases e0;rcases e with⟨e1,_⟩ | ⟨b',o',cap',cs,ty,bs,e1,e2,e3,e4,e5,e6,e7,e8,e9⟩;grind
    rw[h2]at e1;simp only[aja,aip,ajA]at e1;obtain⟨⟨rfl,rfl,_⟩,rfl,rfl⟩:=e1;have hlen:=e9.len;have hv:hd.vs[i.toNat]? =some (hd.vs.getD i.toNat undef):=uu (by omega);obtain⟨b1,q1,q2,q3,q4⟩:=e9.get hv;refine⟨_,?_,.gr h1 hv q1⟩;obtain⟨i',d,z,hi,hdd,hz,hq,rfl⟩:=bJ ht;have hcell:w.cell? ⟨b,o+i.toNat,none⟩=some (hd.vs.getD i.toNat undef):=by grind [ez]
    have hag:lY P t=false:=hb.2;simp_all [Instr.loadAt,Instr.sureAddr,loadVar,zC]
  |_=>rw[ho]at hl;simp[EH]at hl
 |gp h1 h2 h3=>
  rename_i szt id off n cap b o i j hd;simp only[sJ]at hl;cases ho:ar h id with
  |grid k l=>
   rw[ho]at hl;simp only[Cw]at hl;cases hb:Nat.beq szt (ae k)with
   |false=>grind
   |true=>
    rw[hb]at hl;have hsz:=ain hb;have hpo:=xC hl;obtain⟨hd',e0,e⟩:=hp.at ho rfl;rw[h1]at e0;cases e0;rcases e with⟨_,_,e1,_⟩ | ⟨b',o',cap',cs,ty,bs,e1,e2,e3,e4,e5,e6,e7,e8,e9⟩;grind
    obtain⟨b1,q1,q2,q3,q4⟩:=e9.get h2;rcases q3 with⟨a,k1,_⟩ | ⟨b2,o2,cap2,cs2,ty2,k1,k2,k3,k4,k5,k6,k7⟩;grind
    simp only[aja,aip,ajA]at k1;obtain⟨⟨rfl,rfl,_⟩,rfl,rfl⟩:=k1;have:=Bv (P:=P) (w:=w) (F:=F) (own:=own) (b:=b) (o:=o+j.toNat*szt) (off:=off) ht (fun q=>cs2.getD (o+j.toNat*ae k+q) undef) (fun q s hj=>by
     have:=k7.get h3 hj;grind [ez]) hpo
    grind [Instr.loadAt,Instr.sureAddr]
  |_=>rw[ho]at hl;simp[Cw]at hl
 |_=>simp[sJ]at hl
theorem Oc {t:TypeId}{ti:TI}(ht:cw P t=some ti){f:Nat}{x:Nat×Nat×Bool}(hf:nth ti.fields f=some x):
  ∃ fs fd,P.underlying t=some (.struct fs)/\fs[f]? =some fd/\x=(fd.offset,qk P fd.type,lY P fd.type):=by
 obtain⟨i,d,z,hi,hd,hz,hq,rfl⟩:=bJ ht;simp only[dN,ip]at hf;grind
theorem VN {s s':SV}{v:Value}{n:Nat}(hr:Rel F own w s v)(h:Bn n s=.val s'):
  ∃ b o,v=.pointer (some ⟨b,o,none⟩)/\Rel F own w s' (.pointer (some ⟨b,o+n,none⟩)):=by
 cases hr with
 |ptr h1 h2=>simp only[Bn,OR.val.injEq]at h;subst h;exact⟨_,_,rfl,.ptr h1 h2⟩
 |ep c h1 h2=>simp only[Bn,OR.val.injEq]at h;subst h;exact⟨_,_,rfl,by rw[ajB];exact .ep c h1 h2⟩
 |rp h1 h2 h3=>simp only[Bn,OR.val.injEq]at h;subst h;exact⟨_,_,rfl,by rw[ajB];exact .rp h1 h2 h3⟩
 |gp h1 h2 h3=>simp only[Bn,OR.val.injEq]at h;subst h;exact⟨_,_,rfl,by rw[ajB];exact .gp h1 h2 h3⟩
 |_=>simp[Bn]at h
theorem I7 {t:TypeId}{ti:TI}(ht:cw P t=some ti){f o n:Nat}{g:Bool}(hf:nth ti.fields f=some (o,n,g))(hn:1<=n){s s':SV}{v:Value}
  (hr:Rel F own w s v) (h:Bn o s=.val s'):∃ u,(Instr.fieldAt t v f).run P w=.ok u w/\Rel F own w s' u:=by
 obtain⟨fs,fd,hu,hfd,he⟩:=Oc ht hf;obtain⟨b,q,rfl,hs⟩:=VN hr h;simp only[akY]at he;obtain⟨rfl,rfl,rfl⟩:=he;refine⟨_,?_,hs⟩;have hsz:(sizeOf fd.type).run P w=.ok (qk P fd.type) w:=by
  grind [qk,dQ]
 simp only[Instr.fieldAt,aiJ,run_underlying hu,aiA,hfd,Instr.sureAddr,ajx,fieldPlace,hsz];rw[if_neg (by omega)];simp[pH]
theorem Qf {t:TypeId}{ti:TI}(ht:cw P t=some ti){f:Nat}{s s':SV}{v:Value}(hr:Rel F own w s v)(h:un (nth ti.fields f) (Bk s)=.val s'):
  ∃ u,(Instr.field t v f).run P w=.ok u w/\Rel F own w s' u:=by
 cases hf:nth ti.fields f with
 |none=>grind [un]
 |some x=>
  obtain⟨o,n,g⟩:=x;obtain⟨fs,fd,hu,hfd,he⟩:=Oc ht hf;simp only[akY]at he;obtain⟨rfl,rfl,rfl⟩:=he;obtain⟨i,d,z,hi,hd,hz,hq,rfl⟩:=bJ ht;rw[hd]at hu;cases hu;have hq':(P.info? fd.type).isSome/\(P.underlying fd.type).isSome:=by
   simp only[Bi,aiL,aim]at hq;grind
  obtain⟨fi,hfi⟩:=aj7.1 hq'.1;obtain⟨fd',hfu⟩:=aj7.1 hq'.2;have key:∀ (l:List SV) (vs:Array Value),vs.size=l.length->(∀ (j:Nat) (s:SV),l[j]? =some s->Rel F own w s (vs.getD j undef))->un (some (fd.offset,qk P fd.type,lY P fd.type)) (some l)=.val s'->
    ∃ u,(part fd.type vs fd.offset).run P w=.ok u w/\Rel F own w s' u:=by
   intro l vs hl hrel hfs;simp only[un]at hfs;cases hp:td (lY P fd.type) (qk P fd.type) l fd.offset with
   |none=>grind [wE]
   |some q=>
    simp only[hp,wE,OR.val.injEq]at hfs;subst hfs;simp only[qk,hfi]at hp;simp only[part,aiJ,zC hfu,aiA];cases ha:lY P fd.type with
    |true=>
     simp only[td,ha,cond_true,tJ,I5,D_]at hp;cases hb:Nat.ble (fd.offset+fi.size) l.length with
     |false=>grind
     |true=>
      simp only[hb,cond_true,aip]at hp;subst hp;have hle:=nbl hb;simp only[if_true,aiJ,dQ hfi,aiA,ajx];refine⟨_,rfl,.agg (by simp;omega) fun j s hj=>?_⟩;have hj':j<fi.size:=by
       grind
      rw[ak1,if_pos hj',akb]at hj;have:=hrel (fd.offset+j) s hj;simp only[aiB]at this |-;grind
    |false=>
     simp only[td,ha,cond_false,ip]at hp;have h1:=hrel _ _ hp;have hlt:fd.offset<vs.size:=by grind
     refine⟨vs.getD fd.offset undef,?_,h1⟩;simp[hlt]
  cases hr with
  |agg h0 h1=>
   simp only[Bk]at h;rw[hf]at h;obtain⟨u,hu,hru⟩:=key _ _ h0 h1 h;simp_all [Instr.field,run_underlying,asAgg]
  |v x=>
   cases v with
   |agg cs=>
    simp only[Bk]at h;rw[hf]at h;obtain⟨u,hu,hru⟩:=key (cs.toList.map .v) cs (by simp) (fun j s hj=>by
     simp at hj;obtain⟨z,hz,rfl⟩:=hj;simp[hz];exact .v _) h
    simp_all [Instr.field,run_underlying,asAgg]
   |_=>simp[Bk,un]at h
  |_=>simp[Bk,un]at h
end
section
variable {P:Program}{F:Nat->Prop}{own:Own}{w:World}
theorem vB (k:IntKind)(n:Int):(asIntOf (.int k n)).run P w=.ok (k,n) w:=rfl
theorem sM {t:TypeId}{e:TypeId}{ie:TypeInfo}(hd:P.underlying t=some (.slice e))(hie:P.info? e=some ie){b o n cap:Nat}{k:IntKind}{i:Int}(h0:0<=i)(h1:i.toNat<n):
  (Instr.indexAt t (.slice (some ⟨b,o,none⟩) n cap) (.int k i)).run P w=.ok (.pointer (some ⟨b,o+i.toNat*ie.size,none⟩)) w:=by
 simp only[Instr.indexAt,aiJ,vB,aiA,run_underlying hd,ajx];simp_all [dQ,pH]
theorem Cz {t:TypeId}{e:TypeId}{len:Nat}{ie:TypeInfo}(hd:P.underlying t=some (.array len e))(hie:P.info? e=some ie){b o:Nat}{k:IntKind}{i:Int}(hc:0<=i/\i< (len:Int)):
  (Instr.indexAt t (.pointer (some ⟨b,o,none⟩)) (.int k i)).run P w=.ok (.pointer (some ⟨b,o+i.toNat*ie.size,none⟩)) w:=by
 simp only[Instr.indexAt,aiJ,vB,aiA,run_underlying hd,Instr.sureAddr,ajx];simp_all [dQ,pH]
theorem Qg {h:List Ob}(hp:Hp F own w h){t:TypeId}{ti te:TI}(ht:cw P t=some ti)(hte:cw P ti.elem=some te){s si:SV}{v vi:Value}{r:OR}
  (hr:Rel F own w s v) (hri:Rel F own w si vi) (he:i7 ti te.size h s si=r) (hne:r≠ .bad):
  ∃ c s',r=.chk c s'/\(c->∃ u,(Instr.indexAt t v vi).run P w=.ok u w/\Rel F own w s' u):=by
 obtain⟨i,d,z,hi,hd,hz,hq,rfl⟩:=bJ ht;obtain⟨ie,de,ze,hie,hde,hze,hqe,hte'⟩:=bJ hte;have hes:te.size=ie.size:=by rw[hte'];rfl
 have key:∀ k n,si=.v (.int k n)->∃ c s',r=.chk c s'/\(c->∃ u,(Instr.indexAt t v (.int k n)).run P w=.ok u w/\Rel F own w s' u):=by
  rintro k n rfl;have slice:(dN P t i d).isSlice=true->∃ e,d=.slice e/\P.info? e=some ie:=fun hs=>by
   cases d <;>simp[dN]at hs;grind [dN]
  have arr:(dN P t i d).isArr=true->∃ len e,d=.array len e/\P.info? e=some ie/\(dN P t i d).len=len:=fun hs=>by
   cases d <;>simp[dN]at hs;grind [dN]
  cases hr with
  |rs cf h0 h0' h1 h2=>
   rename_i kt l b o cap;simp only[i7]at he;cases hb:(dN P t i d).isSlice&&Nat.beq te.size (ae kt)with
   |false=>grind
   |true=>
    rw[hb]at he;simp only[cond_true]at he;simp only[aim]at hb;obtain⟨e,rfl,hie'⟩:=slice hb.1;have hsz:te.size=ae kt:=ain hb.2;refine⟨_,_,he.symm,fun hc=>⟨_,sM hd hie' hc.1 (by omega),?_⟩⟩;have hlt:n.toNat<l.length:=by omega
    have:=Rel.ep (F:=F) (own:=own) (w:=w) (cells:=cellsOf kt (l.getD n.toNat (gz kt))) (off:=0) (b:=b) (o:=o+n.toNat*ae kt) (cf n.toNat)
     (fun j s hj=>h1 n.toNat _ (uu hlt) j s hj) (fun j s hj=>h2 n.toNat _ (uu hlt) j s hj)
    grind
  |rs0=>
   rename_i kt a cap;simp only[i7]at he;grind
  |os h1 h2=>
   rename_i id hdd;simp only[i7]at he;cases hb:(dN P t i d).isSlice with
   |false=>grind
   |true=>
    rw[hb]at he;simp only[cond_true]at he;obtain⟨e,rfl,hie'⟩:=slice hb;cases ho:ar h id with
    |row kt l=>
     rw[ho]at he;simp only[EI]at he;cases hbe:Nat.beq te.size (ae kt)with
     |false=>grind
     |true=>
      rw[hbe]at he;simp only[cond_true]at he;obtain⟨hd',e0,e1⟩:=hp.at ho rfl;rw[h1]at e0;cases e0;refine⟨_,_,he.symm,fun hc=>?_⟩;rcases e1 with⟨a,q1,rfl,_⟩ | ⟨b,o,cap,cs,ty,q1,q2,q3,q4,q5,q6,q7⟩;grind
      rw[q1];refine⟨_,sM hd hie' hc.1 (by omega),?_⟩;have:=Rel.rp (F:=F) (own:=own) (w:=w) (sz:=te.size) (off:=0) (i:=n) h1 q1 (by omega);grind
    |grid kt l=>
     rw[ho]at he;simp only[EI]at he;cases hbe:Nat.beq te.size 1 with
     |false=>grind
     |true=>
      rw[hbe]at he;simp only[cond_true]at he;have hsz:=ain hbe;obtain⟨hd',e0,e1⟩:=hp.at ho rfl;rw[h1]at e0;cases e0;refine⟨_,_,he.symm,fun hc=>?_⟩;rcases e1 with⟨q1,rfl,_⟩ | ⟨b,o,cap,cs,ty,bs,q1,q2,q3,q4,q5,q6,q7,q8,q9⟩;grind
      rw[q1];refine⟨_,sM hd hie' hc.1 (by omega),?_⟩;have:=Rel.rp (F:=F) (own:=own) (w:=w) (sz:=1) (off:=0) (i:=n) h1 q1 (by omega);grind
    |_=>rw[ho]at he;exact absurd he.symm hne
  |gr h1 h2 h3=>
   rename_i id q hdd;simp only[i7]at he;cases hb:(dN P t i d).isSlice with
   |false=>grind
   |true=>
    rw[hb]at he;simp only[cond_true]at he;obtain⟨e,rfl,hie'⟩:=slice hb;cases ho:ar h id with
    |grid kt l=>
     rw[ho]at he;simp only[IS]at he;cases hbe:Nat.beq te.size (ae kt)with
     |false=>grind
     |true=>
      rw[hbe]at he;simp only[cond_true]at he;obtain⟨hd',e0,e1⟩:=hp.at ho rfl;rw[h1]at e0;cases e0;refine⟨_,_,he.symm,fun hc=>?_⟩;rcases e1 with⟨_,_,q1,_⟩ | ⟨b,o,cap,cs,ty,bs,q1,q2,q3,q4,q5,q6,q7,q8,q9⟩;grind
      obtain⟨b1,k1,k2,k3,k4⟩:=q9.get h2;rcases k3 with⟨a,m1,m2,_⟩ | ⟨b2,o2,cap2,cs2,ty2,m1,m2,m3,m4,m5,m6,m7⟩;grind
      subst m1;refine⟨_,sM hd hie' hc.1 (by omega),?_⟩;have:=Rel.gp (F:=F) (own:=own) (w:=w) (sz:=te.size) (off:=0) (i:=q) (j:=n) h1 h2 (by omega);grind
    |_=>rw[ho]at he;exact absurd he.symm hne
  |ls cf h0 h1 h2=>
   rename_i l b o cap;simp only[i7]at he;cases hb:(dN P t i d).isSlice&&Nat.beq te.size 1 with
   |false=>grind
   |true=>
    rw[hb]at he;simp only[cond_true]at he;simp only[aim]at hb;obtain⟨e,rfl,hie'⟩:=slice hb.1;have hsz:=ain hb.2;rw[ip]at he;cases hx:l[n.toNat]? with
    |none=>rw[hx]at he;exact absurd he.symm hne
    |some x=>
     rw[hx]at he;have hlt:=(aiq.1 hx).1;refine⟨_,_,he.symm,fun hc=>⟨_,sM hd hie' hc hlt,?_⟩⟩;have:=Rel.ep (F:=F) (own:=own) (w:=w) (cells:=[x]) (off:=0) (b:=b) (o:=o+n.toNat) (fun _=>cf n.toNat)
      (fun j s hj=>by grind) (fun j s hj=>by grind)
     grind
  |ptr h1 h2=>
   simp only[i7]at he;cases hb:(dN P t i d).isArr with
   |false=>grind
   |true=>
    rw[hb]at he;simp only[cond_true]at he;obtain⟨len,e,rfl,hie',hl⟩:=arr hb;exact⟨_,_,he.symm,fun hc=>⟨_,Cz hd hie' hc,by rw[<-hes];exact .ptr h1 h2⟩⟩
  |ep cf h1 h2=>
   simp only[i7]at he;cases hb:(dN P t i d).isArr with
   |false=>grind
   |true=>
    rw[hb]at he;simp only[cond_true]at he;obtain⟨len,e,rfl,hie',hl⟩:=arr hb;exact⟨_,_,he.symm,fun hc=>⟨_,Cz hd hie' hc,by rw[<-hes,ajB];exact .ep cf h1 h2⟩⟩
  |rp h1 h2 h3=>
   simp only[i7]at he;cases hb:(dN P t i d).isArr with
   |false=>grind
   |true=>
    rw[hb]at he;simp only[cond_true]at he;obtain⟨len,e,rfl,hie',hl⟩:=arr hb;exact⟨_,_,he.symm,fun hc=>⟨_,Cz hd hie' hc,by rw[<-hes,ajB];exact .rp h1 h2 h3⟩⟩
  |_=>simp only[i7]at he;exact absurd he.symm hne
 cases hri with
 |v=>
  cases vi with
  |int k n=>grind
  |_=>cases s <;>first|(simp only[i7]at he;exact absurd he.symm hne) |(exact absurd he.symm hne)
 |_=>cases s <;>first|(simp only[i7]at he;exact absurd he.symm hne) |(exact absurd he.symm hne)
theorem Mz {k k':IntKind}(h:Nat.beq (kN k) (kN k')=true):k=k':=by
 cases k <;>cases k' <;>simp[kN]at h <;>rfl
theorem KA {op:BinOp}{k k':IntKind}(h:Dk op k k'=true)(h1:op≠ .shl)(h2:op≠ .shr):k=k':=by
 cases op <;>simp only[Dk]at h <;>first|exact Mz h|exact absurd rfl h1|grind
theorem Qh {op:BinOp}{k k':IntKind}{a b:Int}{s:SV}{ty:TypeId}(hs:Dk op k k'=true)(h:wD op k a b=.val s):∃ u,(binOp op ty (.int k a) (.int k' b)).run P w=.ok u w/\s=.v u:=by
 by_cases h1:op=.shl
 grind [wD]
 by_cases h2:op=.shr
 grind [wD]
 obtain rfl:=KA hs h1 h2;cases op <;>simp[wD]at h <;>subst h <;>exact⟨_,by simp[binOp,Op.intArith,Op.intCmp,Op.intBits,Km,orI,ac9,Bl],rfl⟩
theorem Qi {op:BinOp}{k k':IntKind}{a b:Int}{s:SV}{ty:TypeId}{c:Prop}(hs:Dk op k k'=true)(h:wD op k a b=.chk c s)(hc:c):∃ u,(binOp op ty (.int k a) (.int k' b)).run P w=.ok u w/\s=.v u:=by
 by_cases ho:op=.shr
 subst ho;simp only[wD,OR.chk.injEq]at h;obtain⟨rfl,rfl⟩:=h;refine⟨.int k (RD k a b),?_,rfl⟩;simp only[binOp];unfold Op.shift;rw[if_neg (Int.not_lt.2 hc)];rfl;by_cases h1:op=.shl
 subst h1;simp only[wD,OR.chk.injEq]at h;obtain⟨rfl,rfl⟩:=h;refine⟨.int k (Vy k a b),?_,rfl⟩;simp only[binOp];unfold Op.shift;rw[if_neg (Int.not_lt.2 hc)];rfl;obtain rfl:=KA hs h1 ho;cases op <;>simp only[wD,OR.chk.injEq,reduceCtorEq]at h <;>first|exact absurd rfl ho|exact absurd rfl h1|(obtain⟨rfl,rfl⟩:=h;exact⟨_,by simp[binOp,Op.intDiv,hc],rfl⟩)
theorem wI {k k':Tag}(h:Nat.beq (Bg k) (Bg k')=true):k=k':=by
 have h':=ain h;cases k <;>cases k' <;>first|rfl|(simp[Bg]at h';done)
theorem Dp (op:BinOp)(t:TypeId)(x y:Operand)(k k':IntKind)(a b:Int):(eqGuard op t x y (.int k a) (.int k' b)).run P w=.ok () w:=by
 simp_all [eqGuard]
theorem MA {op:BinOp}{k k':IntKind}{a b:Int}{r:OR}(h:YW op (.v (.int k a)) (.v (.int k' b))=r)(hr:r≠ .bad):Dk op k k'=true/\r=wD op k a b:=by
 grind [YW]
end
def RelL (F:Nat->Prop)(own:Own)(w:World)(l:List SV)(vs:Array Value):Prop:=vs.size=l.length/\∀ (j:Nat) (s:SV),l[j]? =some s->Rel F own w s (vs.getD j undef)
section
variable {P:Program}{F:Nat->Prop}{own:Own}{w:World}
theorem RelL.mono {own':Own}{w':World}(g:Goes F own w own' w'){l:List SV}{vs:Array Value}(h:RelL F own w l vs):RelL F own' w' l vs:=⟨h.1,fun j s hj=>(h.2 j s hj).mono g⟩
theorem Hv (off:Nat):∀ (l:List Value) (k:Nat) (cs:Array Value),off+k+l.length<=cs.size->
  ((l.zipIdx k).foldl (fun(cs:Array Value) (x:Value×Nat) =>cs.setIfInBounds (off+x.2) x.1) cs).size=cs.size/\
  ∀ j,((l.zipIdx k).foldl (fun(cs:Array Value) (x:Value×Nat) =>cs.setIfInBounds (off+x.2) x.1) cs)[j]? =if off+k<=j/\j<off+k+l.length then l[j - off - k]? else cs[j]?
 | [],k,cs,_=>by
  simp_all [if_neg]
 |x::xs,k,cs,h=>by
  simp only[ais]at h;obtain⟨h1,h2⟩:=Hv off xs (k+1) (cs.setIfInBounds (off+k) x) (by simp;omega);simp only[List.zipIdx_cons,aka];grind
theorem KB (v:Value)(off:Nat)(cs:Array Value)(h:off+v.cells.size<=cs.size):
  (v.cells.zipIdx.foldl (fun cs (c,j) =>cs.setIfInBounds (off+j) c) cs).size=cs.size/\
  ∀ j,(v.cells.zipIdx.foldl (fun cs (c,j) =>cs.setIfInBounds (off+j) c) cs)[j]? =if off<=j/\j<off+v.cells.size then v.cells[j - off]? else cs[j]?:=by
 have:=Hv off v.cells.toList 0 cs (by simpa using h);grind [Array.toList_zipIdx]
theorem vC {vs ws:Array Value}{i j:Nat}(h:vs[i]? =ws[j]?):vs.getD i undef=ws.getD j undef:=by
 simp_all
theorem Ea {place place':Nat->Option (Nat×Nat)}(hpl:∀ i,place' i=place i):∀ (ps:List (Nat×SV)) (vps:List (Nat×Value)) (cells l:List SV) (vs:Array Value),RelL F own w cells vs->
  (ps.map (·.1)=vps.map (·.1))->(∀ (j:Nat) (x:Nat×SV) (y:Nat×Value),ps[j]? =some x->vps[j]? =some y->Rel F own w x.2 y.2)->nK place cells ps=some l->
  ∃ vs',Instr.fill place' vs vps=some vs'/\RelL F own w l vs'
 | [],[],cells,l,vs,hr,_,_,h=>by
  simp[nK]at h;subst h;exact⟨vs,rfl,hr⟩
 | [],_::_,_,_,_,_,h,_,_=>by simp at h
 |_::_,[],_,_,_,_,h,_,_=>by simp at h
 |(i,s)::ps,(i',v)::vps,cells,l,vs,hr,hm,hrel,h=>by
  simp only[aiW,aje]at hm;obtain⟨rfl,hm⟩:=hm;have h0:Rel F own w s v:=hrel 0 _ _ rfl rfl;simp only[nK]at h;cases hp:place i with
  |none=>grind
  |some os=>
   obtain⟨off,size⟩:=os;cases hf:rB s with
   |none=>grind
   |some xs=>
    simp only[hp,hf]at h;cases hb:Nat.beq (sz xs) size&&Nat.ble (off+size) (sz cells)with
    |false=>grind
    |true=>
     rw[hb]at h;simp only[cond_true]at h;simp only[aim,tJ]at hb;have e1:xs.length=size:=ain hb.1;have e2:off+size<=cells.length:=nbl hb.2;obtain⟨f1,f2⟩:=EY h0 hf;have hle:off+v.cells.size<=vs.size:=by rw[hr.1];omega
     obtain⟨g1,g2⟩:=KB v off vs hle;have hr':RelL F own w (iH cells off xs) (v.cells.zipIdx.foldl (fun cs (c,j) =>cs.setIfInBounds (off+j) c) vs):=by
      refine⟨by rw[g1,pG];exact hr.1,fun j x hj=>?_⟩;rw[qD _ _ _ (by omega)]at hj;by_cases hjr:off<=j/\j<off+xs.length
      simp_all;rw[if_neg hjr]at hj;have:=hr.2 _ _ hj;simp_all [if_neg]
     obtain⟨vs',q1,q2⟩:=Ea hpl ps vps _ l _ hr' hm (fun j x y hx hy=>hrel (j+1) x y hx hy) h;simp_all [Instr.fill]
theorem qF {k:Kd}{s:SV}{v:Value}(h:Rel F own w s v):Rel F own w (Ki k s) v:=by
 unfold Ki;split;have:=bR h;subst this;exact .rs0;cases h;exact .rs0;have:=bR h;subst this;exact .rm0;exact h
theorem Bw:∀ (ks:List Kd) (l:List SV),(zT ks l).length=l.length
 | [],l=>by simp[zT]
 |k::ks,[] =>by simp[zT]
 |k::ks,s::r=>by simp[zT,Bw ks r]
theorem wJ:∀ (ks:List Kd) (l:List SV) (j:Nat) (s:SV),(zT ks l)[j]? =some s->∃ s0,l[j]? =some s0/\(s=s0\/∃ k,s=Ki k s0)
 | [],l,j,s,h=>⟨s,by grind [zT],.inl rfl⟩
 |k::ks,[],j,s,h=>by simp[zT]at h
 |k::ks,x::r,0,s,h=>by grind [zT]
 |k::ks,x::r,j+1,s,h=>by simp[zT]at h;simpa using wJ ks r j s h
theorem RelL.nrm {ks:List Kd}{l:List SV}{vs:Array Value}(h:RelL F own w l vs):RelL F own w (zT ks l) vs:=
 ⟨by rw[Bw];exact h.1,fun j s hj=>by
  obtain⟨s0,e1,e2| ⟨k,e2⟩⟩:=wJ _ _ _ _ hj;subst e2;exact h.2 j _ e1;subst e2;exact qF (h.2 j _ e1)⟩
theorem Hw {place:Nat->Option (Nat×Nat)}:∀ (ps:List (Nat×SV)) (cells l:List SV),nK place cells ps=some l->l.length=cells.length
 | [],cells,l,h=>by grind [nK]
 |(i,v)::ps,cells,l,h=>by
  simp only[nK]at h;split at h
  rename_i off size vs _ _;cases hb:Nat.beq (sz vs) size&&Nat.ble (off+size) (sz cells)with
  |false=>grind|true=>rw[hb]at h;simp only[cond_true]at h;rw[Hw ps _ _ h,pG]
  cases h
theorem zD (v:Value):RelL F own w (svs v) v.cells:=by
 refine⟨by simp[svs],fun j s hj=>?_⟩;simp[svs]at hj;obtain⟨z,hz,rfl⟩:=hj;simp[hz];exact .v _
theorem KC {fs:List Field}:(fs.all fun f=>(P.info? f.type).isSome&&(P.underlying f.type).isSome)=true->
  fs.mapM (fun f=>(P.info? f.type).map fun i=>(f.offset,i.size))=some (fs.map fun f=>(f.offset,qk P f.type)):=by
 induction fs with
 |nil=>intro _;rfl
 |cons f fs ih=>
  intro h;simp only[List.all_cons,aim]at h;grind [qk]
theorem R9 {t:TypeId}{ti:TI}(ht:cw P t=some ti){ps:List (Nat×SV)}{vps:Array (Nat×Value)}{l:List SV}(hm:ps.map (·.1)=vps.toList.map (·.1))
  (hrel:∀ (j:Nat) (x:Nat×SV) (y:Nat×Value),ps[j]? =some x->vps.toList[j]? =some y->Rel F own w x.2 y.2)
  (h:(ti.isArr=true/\∃ te,cw P ti.elem=some te/\nK (fun i=>some (i*te.size,te.size)) ti.zero ps=some l)\/
     (ti.isArr=false/\ti.agg=true/\nK (fun i=>(nth ti.fields i).map fun f=>(f.1,f.2.1)) ti.zero ps=some l)):
  ∃ u,(Instr.build t vps).run P w=.ok u w/\Rel F own w (.agg l) u:=by
 obtain⟨i,d,z,hi,hd,hz,hq,rfl⟩:=bJ ht;have hzero:(dN P t i d).zero=svs z:=by simp[dN,hz]
 rcases h with⟨ha,te,hte,hf⟩ | ⟨ha,hg,hf⟩;obtain⟨ie,de,ze,hie,hde,hze,hqe,he⟩:=bJ hte;cases d <;>simp[dN]at ha;rename_i len e;simp only[dN]at hie;rw[hzero]at hf;have hes:te.size=ie.size:=by rw[he];rfl
 obtain⟨vs',q1,q2⟩:=Ea (place':=fun i=>some (i*ie.size,ie.size)) (fun i=>by rw[hes]) ps vps.toList _ l z.cells (zD z) hm hrel hf;exact⟨.agg vs',run_build w t vps vs' (by grind [Program.built]),.agg q2.1 q2.2⟩;cases d with
 |struct fs=>
  rw[hzero]at hf;have hmp:=KC (P:=P) (fs:=fs.toList) (by grind [Bi]);obtain⟨vs',q1,q2⟩:=Ea (place':=fun i=>(fs.toList.map fun f=>(f.offset,qk P f.type)).toArray[i]?) (fun i=>by
   simp[dN,ip];rfl) ps vps.toList _ l z.cells (zD z) hm hrel hf
  exact⟨.agg vs',run_build w t vps vs' (by grind [Program.built]),.agg q2.1 q2.2⟩
 |array len e=>simp[dN]at ha|_=>simp[dN,lY,hd]at hg
theorem KD (z:List SV)(hz:0<z.length):∀ (n i:Nat),(DN n z)[i]? =if i<n*z.length then z[i % z.length]? else none
 |0,i=>by simp[DN]
 |n+1,i=>by
  rw[DN,ajf];by_cases hi:i<z.length
  rw[if_pos hi,if_pos (by grind),akw hi];rw[if_neg hi,KD z hz n];rw[akD];by_cases hj:i - z.length<n*z.length
  rw[if_pos hj,if_pos (by omega)];grind [Nat.mod_eq_sub_mod]
  grind
theorem yE (z:List SV):∀ n,(DN n z).length=n*z.length
 |0=>by simp[DN]
 |n+1=>by rw[DN,aiK,yE z n,akD];omega
theorem Hz {s:SV}(h:fit .s s=true): .v (.string (toS s))=s:=by
 cases s <;>simp only[fit,ait]at h;rename_i x;cases x <;>simp only[fit,ait]at h;rfl
theorem HA {s:SV}(h:fit .b s=true): .v (.bool (toB s))=s:=by
 cases s <;>simp only[fit,ait]at h;rename_i x;cases x <;>simp only[fit,ait]at h;rfl
theorem VO {k k':IntKind}(h:Nat.beq (kN k) (kN k')=true):k=k':=by
 cases k <;>cases k' <;>first|rfl|(simp[kN]at h;done)
theorem HB {k:IntKind}{s:SV}(h:fit (.n k) s=true): .v (.int k (toI s))=s:=by
 cases s <;>simp only[fit,ait]at h;rename_i x;cases x <;>simp only[fit,ait]at h;have:=VO h;subst this;rfl
theorem jE {k:Tag}{s:SV}(h:fit (.r k) s=true):∃ l,s=.rs k l:=by
 cases s <;>simp only[fit,ait]at h;rename_i k' l;have:=wI h;subst this;grind
theorem X3 {k k2:Tag}{s:SV}(h:fit (.m k k2) s=true):∃ l,s=.rm k k2 l:=by
 cases s <;>simp only[fit,ait]at h;rename_i k' k2' l;simp only[aim]at h;have e1:=wI h.1;have e2:=wI h.2;subst e1;subst e2;grind
theorem MB {s:SV}(h:fit (.r .reach) s=true): .rs .reach (Cr s)=s:=by obtain⟨l,rfl⟩:=jE h;rfl
theorem Qj {s:SV}(h:fit (.r .farm) s=true): .rs .farm (Eu s)=s:=by obtain⟨l,rfl⟩:=jE h;rfl
theorem Qk {s:SV}(h:fit (.r .crop) s=true): .rs .crop (Ev s)=s:=by obtain⟨l,rfl⟩:=jE h;rfl
theorem MC {s:SV}(h:fit (.r .right) s=true): .rs .right (Cs s)=s:=by obtain⟨l,rfl⟩:=jE h;rfl
theorem Ql {s:SV}(h:fit (.r .duty) s=true): .rs .duty (Ew s)=s:=by obtain⟨l,rfl⟩:=jE h;rfl
theorem R_ {s:SV}(h:fit (.r .int) s=true): .rs .int (nj s)=s:=by obtain⟨l,rfl⟩:=jE h;rfl
theorem Qm {s:SV}(h:fit (.r .well) s=true): .rs .well (Ey s)=s:=by obtain⟨l,rfl⟩:=jE h;rfl
theorem MD {s:SV}(h:fit (.r .claim) s=true): .rs .claim (Hl s)=s:=by obtain⟨l,rfl⟩:=jE h;rfl
theorem E0 {s:SV}(h:fit (.r .judgement) s=true): .rs .judgement (Ac s)=s:=by obtain⟨l,rfl⟩:=jE h;rfl
theorem Qn {s:SV}(h:fit (.r .case) s=true): .rs .case (Ez s)=s:=by obtain⟨l,rfl⟩:=jE h;rfl
theorem KE {s:SV}(h:fit (.r .clause) s=true): .rs .clause (um s)=s:=by obtain⟨l,rfl⟩:=jE h;rfl
theorem Qo {s:SV}(h:fit (.r .suit) s=true): .rs .suit (Kc s)=s:=by obtain⟨l,rfl⟩:=jE h;rfl
theorem Qp {s:SV}(h:fit (.r .bool) s=true): .rs .bool (Ke s)=s:=by obtain⟨l,rfl⟩:=jE h;rfl
theorem ME {s:SV}(h:fit (.r .order) s=true): .rs .order (Hm s)=s:=by obtain⟨l,rfl⟩:=jE h;rfl
theorem Sa {s:SV}(h:fit (.r .fnc) s=true): .rs .fnc (NV s)=s:=by obtain⟨l,rfl⟩:=jE h;rfl
theorem xD {s:SV}(h:fit (.r .precedentsDecided) s=true): .rs .precedentsDecided (mO s)=s:=by obtain⟨l,rfl⟩:=jE h;rfl
theorem KF {s:SV}(h:fit (.r .reason) s=true): .rs .reason (EA s)=s:=by obtain⟨l,rfl⟩:=jE h;rfl
theorem Qq {s:SV}(h:fit (.r .int2) s=true): .rs .int2 (Kf s)=s:=by obtain⟨l,rfl⟩:=jE h;rfl
theorem AK {s:SV}(h:fit (.r .timetableSlot) s=true): .rs .timetableSlot (vr s)=s:=by obtain⟨l,rfl⟩:=jE h;rfl
theorem Qr {s:SV}(h:fit (.r .tank) s=true): .rs .tank (Kg s)=s:=by obtain⟨l,rfl⟩:=jE h;rfl
theorem GU {s:SV}(h:fit (.r .district) s=true): .rs .district (Bh s)=s:=by obtain⟨l,rfl⟩:=jE h;rfl
theorem MF {s:SV}(h:fit (.r .cases) s=true): .rs .cases (Hn s)=s:=by obtain⟨l,rfl⟩:=jE h;rfl
theorem Qs {s:SV}(h:fit (.r .plea) s=true): .rs .plea (Kh s)=s:=by obtain⟨l,rfl⟩:=jE h;rfl
theorem yF {s:SV}(h:fit (.r .precedentsCourt) s=true): .rs .precedentsCourt (tF s)=s:=by obtain⟨l,rfl⟩:=jE h;rfl
theorem DQ {s:SV}(h:fit (.r .pleasCourt) s=true): .rs .pleasCourt (yw s)=s:=by obtain⟨l,rfl⟩:=jE h;rfl
theorem MG {s:SV}(h:fit (.r .fault) s=true): .rs .fault (Ho s)=s:=by obtain⟨l,rfl⟩:=jE h;rfl
theorem MH {s:SV}(h:fit (.r .ratio) s=true): .rs .ratio (Hq s)=s:=by obtain⟨l,rfl⟩:=jE h;rfl
theorem KG {s:SV}(h:fit (.r .ratio2) s=true): .rs .ratio2 (EB s)=s:=by obtain⟨l,rfl⟩:=jE h;rfl
theorem MI {s:SV}(h:fit (.r .range) s=true): .rs .range (Hr s)=s:=by obtain⟨l,rfl⟩:=jE h;rfl
theorem xE {s:SV}(h:fit (.r .acequiaref51State) s=true): .rs .acequiaref51State (rE s)=s:=by obtain⟨l,rfl⟩:=jE h;rfl
theorem Sb {s:SV}(h:fit (.r .str) s=true): .rs .str (NW s)=s:=by obtain⟨l,rfl⟩:=jE h;rfl
theorem GV {s:SV}(h:fit (.m .int .bool) s=true): .rm .int .bool (xr s)=s:=by obtain⟨l,rfl⟩:=X3 h;rfl
theorem I8 {s:SV}(h:fit (.m .int .int) s=true): .rm .int .int (yx s)=s:=by obtain⟨l,rfl⟩:=X3 h;rfl
theorem adi {s:SV}(h:fit .f s=true):fnV (toF s)=s:=by
 unfold fit at h;split at h <;>first|rfl|simp_all
theorem rP {k:Kd}{ks:List Kd}{l:List SV}(h:wz (k::ks) l=true):∃ x r,l=x::r/\fit k x=true/\wz ks r=true:=by
 cases l with
 |nil=>simp[wz]at h|cons x r=>grind [wz]
theorem wK {l:List SV}(h:wz [] l=true):l=[]:=by
 grind [wz]
theorem sN {k:Tag}{l:List SV}{x:k.T}(h:wA k l=some x):cellsOf k x=l:=by
 unfold wA at h;cases hf:wz (eO k) l with
 |false=>grind
 |true=>
  simp only[hf,cond_true,aip]at h;subst h;cases k <;>simp only[eO]at hf <;>
   (repeat (obtain⟨_,_,rfl,_,hf⟩:=rP hf)) <;>(obtain rfl:=wK hf) <;>
   simp_all [cellsOf,mkE,at0,Hz,HB,HA,adi,MB,Qj,Qk,MC,Ql,R_,Qm,MD,E0,Qn,KE,Qo,Qp,ME,Sa,xD,KF,Qq,AK,Qr,GU,MF,Qs,yF,DQ,MG,MH,KG,MI,xE,Sb
   ,GV,I8
   ]
theorem oI {k:Tag}{l:List SV}{x:k.T}(h:qA k l=some x):cellsOf k x=zT (eO k) l:=sN h
theorem E1 {k:Tag}{l:List SV}{x:k.T}(h:qA k l=some x){vs:Array Value}(hr:RelL F own w l vs):RelL F own w (cellsOf k x) vs:=by
 rw[oI h];exact hr.nrm
theorem MJ {k:Tag}{l:List SV}{x:k.T}(h:qA k l=some x):l.length=ae k:=by
 rw[<-bv k x,oI h,Bw]
theorem CA {k:Tag}(x:k.T):qA k (cellsOf k x)=some x:=by
 cases k <;>first|rfl|(cases x <;>rfl)
theorem Dq {k:Tag}{x y:k.T}(h:cellsOf k x=cellsOf k y):x=y:=by
 grind [CA]
theorem GW (k:Tag):0<ae k:=by cases k <;>simp[ae]
theorem E2 {k:Tag}{size:Nat}(hs:size=ae k):∀ (n:Nat) (l:List SV) (xs:List k.T),tG k size n l=some xs->
  xs.length=n/\∀ (i:Nat) (x:k.T),xs[i]? =some x->∀ (j:Nat) (s:SV),(cellsOf k x)[j]? =some s->∃ s0,l[i*size+j]? =some s0/\(s=s0\/∃ q,s=Ki q s0)
 |0,l,xs,h=>by
  grind [tG]
 |n+1,l,xs,h=>by
  simp only[tG,I5,D_]at h;cases he:qA k (l.take size)with
  |none=>grind
  |some y=>
   cases hr:tG k size n (l.drop size)with
   |none=>grind
   |some ys=>
    simp only[he,hr,aip]at h;subst h;obtain⟨h1,h2⟩:=E2 hs n _ _ hr;refine⟨by simp[h1],fun i x hx j s hj=>?_⟩;cases i with
    |zero=>
     simp at hx;subst hx;rw[oI he]at hj;obtain⟨s0,e1,e2⟩:=wJ _ _ _ _ hj;grind
    |succ i=>
     simp at hx;grind
theorem KH {t:TypeId}{i:TypeInfo}{e:TypeId}{ie:TypeInfo}{ze:Value}(hi:P.info? t=some i)(hd:P.underlying t=some (.slice e))(hie:P.info? e=some ie)(hze:ie.zero=some ze)(hzl:ze.cells.size=ie.size){n:Nat}{ps:List (Nat×SV)}{vps:Array (Nat×Value)}{l:List SV}
  (hm:ps.map (·.1)=vps.toList.map (·.1)) (hrel:∀ (j:Nat) (x:Nat×SV) (y:Nat×Value),ps[j]? =some x->vps.toList[j]? =some y->Rel F own w x.2 y.2)
  (hf:nK (fun i=>some (i*ie.size,ie.size)) (DN n (svs ze)) ps=some l) (hpos:0<ie.size) (hle:n*ie.size<=16777216):
  ∃ vs',(Instr.buildSlice t n vps).run P w=.ok (.slice (some ⟨w.heap.size,0,none⟩) n n) (w.alloc (.cells vs' e))/\RelL F own w l vs'/\vs'.size=n*ie.size:=by
 have hsl:(svs ze).length=ie.size:=by simp[svs,hzl]
 let cz:Array Value:=if n*ie.size=0 then #[]else ze.cells
 have hz0:RelL F own w (DN n (svs ze)) ((Array.range (n*ie.size)).map (cz[· % cz.size]!)):=by
  refine⟨by simp[yE,hsl],fun j s hj=>?_⟩;rw[KD _ (by omega)]at hj;by_cases hjn:j<n*(svs ze).length
  rw[if_pos hjn]at hj;rw[hsl]at hjn hj;have hn0:n*ie.size≠0:=by omega
  have hcz:cz=ze.cells:=by grind
  rw[hcz];have hm1:j % ze.cells.size<ze.cells.size:=akc _ (by omega);have:=(zD (F:=F) (own:=own) (w:=w) ze).2 (j % ze.cells.size) s (by grind);simp_all;grind
 obtain⟨vs',q1,q2⟩:=Ea (place':=fun i=>some (i*ie.size,ie.size)) (fun i=>rfl) ps vps.toList _ l _ hz0 hm hrel hf;refine⟨vs',?_,q2,?_⟩;simp only[Instr.buildSlice,aiJ,run_underlying hd,aiA,dQ hie];have hle':¬ (n*ie.size > 2 ^ 24):=by omega
 simp only[hle',if_false];by_cases hn0:n*ie.size=0
 have hcz:cz= #[]:=by grind
 simp_all [newRow];have hcz:cz=ze.cells:=by grind
 rw[hcz]at q1;rw[if_neg hn0];simp_all [zeroValue,typeInfo,newRow];have h1:=Hw _ _ _ hf;rw[q2.1,h1,yE,hsl]
theorem newB {h:List Ob}(hp:Hp F own w h):¬cm F own w.heap.size:=by
 rintro (hf'| ⟨id,hd',hm',he'⟩);exact ajo _ (hp.foreign _ hf');exact ajo _ (hp.lt id hd' _ hm' he')
theorem Za {h:List Ob}(hp:Hp F own w h){t:TypeId}{ti te:TI}(ht:cw P t=some ti)(hte:cw P ti.elem=some te){n:Nat}{ps:List (Nat×SV)}{vps:Array (Nat×Value)}
  (hm:ps.map (·.1)=vps.toList.map (·.1)) (hrel:∀ (j:Nat) (x:Nat×SV) (y:Nat×Value),ps[j]? =some x->vps.toList[j]? =some y->Rel F own w x.2 y.2) {r:OR}
  (hb:bsS ti te n ps=r) (hr:r≠ .bad):
  ∃ s cs ty u,r=.newr s/\(Instr.buildSlice t n vps).run P w=.ok u (w.alloc (.cells cs ty))/\Rel F own (w.alloc (.cells cs ty)) s u/\∀ (k:Tag) (xs:List k.T),s=.rs k xs->u=.slice (some ⟨w.heap.size,0,none⟩) xs.length xs.length/\xs.length*ae k<=cs.size/\xs.length<=aI/\RowAt F own w k xs 0 cs:=by
 obtain⟨i,d,z,hi,hd,hz,hq,rfl⟩:=bJ ht;obtain⟨ie,de,ze,hie,hde,hze,hqe,he⟩:=bJ hte;have hes:te.size=ie.size:=by rw[he];rfl
 have hezero:te.zero=svs ze:=by simp_all [dN]
 have hg:∀ cs ty,Goes F own w own (w.alloc (.cells cs ty)):=fun cs ty=>Goes.below F own (sL w _);have hnew:=newB hp;unfold bsS at hb;cases hn:Nat.beq n 0 with
 |true=>
  rw[hn]at hb;have hn0:=ain hn;subst hn0;simp only[cond_true]at hb;cases d with
  |slice e=>
   subst hb;have hps:ps=[]:=by
    grind
   simp only[dN]at hie;have hv:vps= #[]:=by
    simp_all
   subst hv;subst hps;refine⟨_,#[],e,.slice (some ⟨w.heap.size,0,none⟩) 0 0,rfl,?_,.e0,fun _ _ e=>(by cases e)⟩;have he0:Array.map (fun(_:Nat) =>(default:Value)) (Array.range 0)= #[]:=ajK (by simp);simp[Instr.buildSlice,run_underlying hd,dQ hie,Instr.fill,newRow,World.alloc_eq,he0]
  |_=>simp[dN]at hb;exact absurd hb.symm hr
 |false=>
 rw[hn]at hb;simp only[cond_false]at hb;rw[hes]at hb;cases hf:nK (fun i=>some (i*ie.size,ie.size)) (DN n te.zero) ps with
 |none=>
  rw[hf]at hb;exfalso;unfold bsG at hb;cases htag:Y1 te.tag with
  |none=>rw[htag]at hb;exact hr hb.symm|some k=>rw[htag]at hb;simp only at hb;cases hio:VA ps <;>rw[hio]at hb <;>exact hr hb.symm
 |some l=>
 rw[hf]at hb;have typed:∀ k,bsT k (dN P t i d) te n (some l)=r->∃ s cs ty u,r=.newr s/\(Instr.buildSlice t n vps).run P w=.ok u (w.alloc (.cells cs ty))/\Rel F own (w.alloc (.cells cs ty)) s u/\∀ (k:Tag) (xs:List k.T),s=.rs k xs->u=.slice (some ⟨w.heap.size,0,none⟩) xs.length xs.length/\xs.length*ae k<=cs.size/\xs.length<=aI/\RowAt F own w k xs 0 cs:=by
  intro k hb;simp only[bsT]at hb;cases hc:Nat.beq te.size (ae k)&&(dN P t i d).isSlice&&Nat.ble (n*te.size) 16777216&&Nat.beq (sz te.zero) te.size with
  |false=>rw[hc]at hb;exact absurd hb.symm hr
  |true=>
  rw[hc]at hb;simp only[cond_true]at hb;simp only[aim,tJ]at hc;obtain⟨⟨⟨c1,c2⟩,c3⟩,c4⟩:=hc;have c1:=ain c1;have c3:=nbl c3;have c4:=ain c4;cases hel:tG k te.size n l with
  |none=>rw[hel]at hb;exact absurd hb.symm hr
  |some xs=>
  rw[hel]at hb;simp only[RH]at hb;subst hb;cases d with
  |slice e=>
   simp only[dN]at hie hde;have hpos:0<te.size:=by rw[c1];exact GW k
   have hzl:ze.cells.size=ie.size:=by rw[<-hes,<-c4,hezero];simp[svs]
   rw[hezero]at hf;obtain⟨vs',q1,q2,q3⟩:=KH hi hd hie hze hzl hm hrel hf (by omega) (by rw[<-hes];exact c3);obtain⟨x1,x2⟩:=E2 c1 n l xs hel;refine⟨_,vs',e,_,rfl,q1,?_,?_⟩
   rotate_left
   intro k' xs' e';cases e';refine⟨by rw[x1],?_,by rw[x1];have:n<=n*te.size:=ajr n hpos;unfold aI;omega,fun i x hx j s hj=>?_⟩;grind
   obtain⟨s0,h1,h2⟩:=x2 i x hx j s hj;rw[c1]at h1;have hlt:i*ae k+j<vs'.size:=by rw[q2.1];exact(aiq.1 h1).1
   have h3:=q2.2 _ _ h1;refine⟨vs'.getD (i*ae k+j) undef,by simp_all,?_⟩;rcases h2 with rfl| ⟨q,rfl⟩;exact h3;exact qF h3;have:=Rel.rs (F:=F) (own:=own) (w:=w.alloc (.cells vs' e)) (k:=k) (l:=xs) (b:=w.heap.size) (o:=0) (cap:=xs.length) (fun i j=>vs'.getD (i*ae k+j) undef) (aio _)
    (by rw[x1];have:n<=n*te.size:=ajr n hpos;unfold aI;omega)
    (fun i x hx j s hj=>⟨hnew,by
     obtain⟨s0,h1,_⟩:=x2 i x hx j s hj;rw[c1]at h1;have hlt:i*ae k+j<vs'.size:=by rw[q2.1];exact(aiq.1 h1).1
     rw[ai2,akK];simp[hlt]⟩)
    (fun i x hx j s hj=>by
     obtain⟨s0,h1,h2⟩:=x2 i x hx j s hj;rw[c1]at h1;have h3:=(q2.2 _ _ h1).mono (hg vs' e);rcases h2 with rfl| ⟨q,rfl⟩;exact h3;exact qF h3)
   grind
  |_=>simp[dN]at c2
 have untyped:bsU (dN P t i d) te n (some l)=r->∃ s cs ty u,r=.newr s/\(Instr.buildSlice t n vps).run P w=.ok u (w.alloc (.cells cs ty))/\Rel F own (w.alloc (.cells cs ty)) s u/\∀ (k:Tag) (xs:List k.T),s=.rs k xs->u=.slice (some ⟨w.heap.size,0,none⟩) xs.length xs.length/\xs.length*ae k<=cs.size/\xs.length<=aI/\RowAt F own w k xs 0 cs:=by
  intro hb;simp only[bsU]at hb;cases hc:Nat.beq te.size 1&&(dN P t i d).isSlice&&Nat.ble (n*te.size) 16777216&&Nat.beq (sz te.zero) te.size with
  |false=>rw[hc]at hb;exact absurd hb.symm hr
  |true=>
  rw[hc]at hb;simp only[cond_true,lsS]at hb;simp only[aim,tJ]at hc;obtain⟨⟨⟨c1,c2⟩,c3⟩,c4⟩:=hc;have c1:=ain c1;have c3:=nbl c3;have c4:=ain c4;cases hc2:Nat.beq (sz l) n&&xv l with
  |false=>grind
  |true=>
  rw[hc2]at hb;simp only[cond_true]at hb;subst hb;simp only[aim,tJ]at hc2;have hln:=ain hc2.1;cases d with
  |slice e=>
   simp only[dN]at hie hde;have hzl:ze.cells.size=ie.size:=by rw[<-hes,<-c4,hezero];simp[svs]
   rw[hezero]at hf;obtain⟨vs',q1,q2,q3⟩:=KH hi hd hie hze hzl hm hrel hf (by omega) (by rw[<-hes];exact c3);refine⟨_,vs',e,_,rfl,q1,?_,fun _ _ e=>(by cases e)⟩;have:=Rel.ls (F:=F) (own:=own) (w:=w.alloc (.cells vs' e)) (l:=l) (b:=w.heap.size) (o:=0) (cap:=l.length) (fun j=>vs'.getD j undef) (aio _)
    (fun j s hj=>⟨hnew,by
     have hlt:j<vs'.size:=by grind
     rw[ai2,akK];simp[hlt]⟩)
    (fun j s hj=>(q2.2 _ _ hj).mono (hg vs' e))
   grind
  |_=>simp[dN]at c2
 unfold bsG at hb;grind
end
structure Puts (b:Nat)(ty:TypeId)(cs':Array Value)(w w':World):Prop where
 here:w'.heap[b]? =some (.cells cs' ty (0,0))
 size:w'.heap.size=w.heap.size
 other:∀ k,k≠b->w'.heap[k]? =w.heap[k]?
 os:w'.os=w.os
 tape:w'.tape=w.tape
 output:w'.output=w.output
section
variable {P:Program}{F:Nat->Prop}{own:Own}{w:World}
theorem ld {b o:Nat}{ty:TypeId}:∀ (vs:List Value) (i:Nat) (w:World) (cs:Array Value),w.heap[b]? =some (.cells cs ty (0,0))->o+i+vs.length<=cs.size->(∀ v∈vs,v.oneCell'=true)->
  ∃ cs' w',(storeCells ⟨b,o,none⟩ vs i).run P w=.ok () w'/\Puts b ty cs' w w'/\cs'.size=cs.size/\∀ j,cs'[j]? =if o+i<=j/\j<o+i+vs.length then vs[j - (o+i)]? else cs[j]?
 | [],i,w,cs,hb,_,_=>by
  refine⟨cs,w,by rfl,⟨hb,rfl,fun _ _=>rfl,rfl,rfl,rfl⟩,rfl,fun j=>?_⟩;grind
 |v::vs,i,w,cs,hb,hle,hone=>by
  simp only[ais]at hle;have hlt:o+i<cs.size:=by omega
  have hcell:w.cell? ⟨b,o+i,none⟩=some cs[o+i]:=by rw[ez hb];simp[hlt]
  have hrun:(store (Addr.add ⟨b,o,none⟩ i) v).run P w=.ok () (w.setCell ⟨b,o+i,none⟩ v):=by
   grind [pH,run_store,EZ]
  have hset:=setCell_eq_setRow w b (o+i) cs ty (0,0) v hb;have hb':(w.setCell ⟨b,o+i,none⟩ v).heap[b]? =some (.cells (cs.setIfInBounds (o+i) v) ty (0,0)):=by
   rw[hset];exact setRow_heap w b cs _ ty (0,0) hb
  obtain⟨cs',w',e1,e2,e3,e4⟩:=ld (o:=o) vs (i+1) _ _ hb' (by simp;omega) (fun v hv=>hone v (by simp[hv]));refine⟨cs',w',?_,⟨e2.here,by rw[e2.size];simp,fun k hk=>?_,by rw[e2.os,hset];rfl,by rw[e2.tape,hset];rfl,by rw[e2.output,hset];rfl⟩,by rw[e3];simp,fun j=>?_⟩;grind [storeCells,Sem.run_bind,Result.andThen_ok]
  rw[e2.other k hk,hset];exact setRow_other w b k _ hk;grind
theorem Sc {s:SV}{v:Value}(h:Mk s=true)(hr:Rel F own w s v):v.oneCell'=true:=by
 cases hr <;>first|rfl|(exact oH (by assumption)) |(simp[Mk]at h;done) |(rename_i x;cases x <;>first|rfl|(simp[Mk]at h;done)) |(cases v <;>first|rfl|(simp[Mk]at h;done))
theorem Dt:∀ {l:List SV},xv l=true->∀ (j:Nat) (s:SV),l[j]? =some s->Mk s=true
 | [],_,j,s,h=>by simp at h
 |x::r,h,0,s,hs=>by grind [xv]
 |x::r,h,j+1,s,hs=>by simp[xv]at h hs;exact Dt h.2 j s hs
theorem zF {t:TypeId}{ti:TI}(ht:cw P t=some ti){sx:SV}{vx:Value}(hrx:Rel F own w sx vx){xs:List SV}(hf:rB sx=some xs)(hsz:xs.length=ti.size)(hone:∀ (j:Nat) (s:SV),xs[j]? =some s->∀ v,Rel F own w s v->v.oneCell'=true)
  {b off:Nat} {cs:Array Value} {ty:TypeId} (hb:w.heap[b]? =some (.cells cs ty (0,0))) (hle:off+xs.length<=cs.size):
  ∃ cs' w',(Instr.storeAt t (.pointer (some ⟨b,off,none⟩)) vx).run P w=.ok () w'/\Puts b ty cs' w w'/\cs'.size=cs.size/\
   (∀ j,off<=j->j<off+xs.length->∃ u,cs'[j]? =some u/\∀ s,xs[j - off]? =some s->Rel F own w s u)/\(∀ j,¬ (off<=j/\j<off+xs.length)->cs'[j]? =cs[j]?):=by
 obtain⟨i,d,z,hi,hd',hz,hq,rfl⟩:=bJ ht;obtain⟨f1,f2⟩:=EY hrx hf;obtain⟨cs',w',q1,q2,q3,q4⟩:=ld (P:=P) (b:=b) (o:=off) (ty:=ty) vx.cells.toList 0 w cs hb (by simp;omega) (fun u hu=>by
  obtain⟨j,hj⟩:=aiU hu;have hjl:j<vx.cells.size:=by grind
  have hxs:=aiv (l:=xs) (i:=j) (by omega);have:=hone j _ hxs _ (f2 j _ hxs);simp_all)
 have hsz2:vx.cells.size=i.size:=by rw[f1,hsz];rfl
 refine⟨cs',w',by simp_all [Instr.storeAt,Instr.sureAddr,storeVar,dQ],q2,q3,fun j h1 h2=>?_,fun j h1=>?_⟩;have hjl:j - off<vx.cells.size:=by omega
 refine⟨vx.cells[j - off],by grind,fun s hs=>?_⟩;have:=f2 _ _ hs;simpa[aiB,hjl]using this;grind
theorem Puts.goes {b:Nat}{ty:TypeId}{cs':Array Value}{w':World}(q:Puts b ty cs' w w')(hown:cm F own b):Goes F own w own w':=
 ⟨fun _ hd h=>⟨hd,h,.refl _⟩,fun k hk hn=>⟨hn,q.other k (fun e=>hn (e▸hown))⟩,by rw[q.size];omega⟩
theorem RowAt.put {own':Own}{w':World}(g:Goes F own w own' w'){k:Tag}{l:List k.T}{o:Nat}{cs cs':Array Value}(h:RowAt F own w k l o cs){i off:Nat}(hi:i<l.length){xs:List SV}{x:k.T}(hx:qA k (iH (cellsOf k (l.getD i (gz k))) off xs)=some x)
  (hle:off+xs.length<=ae k)
  (hin:∀ j,o+i*ae k+off<=j->j<o+i*ae k+off+xs.length->∃ u,cs'[j]? =some u/\∀ s,xs[j - (o+i*ae k+off)]? =some s->Rel F own w s u)
  (hout:∀ j,¬ (o+i*ae k+off<=j/\j<o+i*ae k+off+xs.length)->cs'[j]? =cs[j]?):RowAt F own' w' k (l.set i x) o cs':=by
 intro i' y hy j s hj;rw[ajW]at hy;have hjl:j<ae k:=by grind [bv]
 by_cases hii:i=i'
 subst hii;rw[if_pos rfl,if_pos hi]at hy;simp only[aip]at hy;subst hy;rw[oI hx]at hj;obtain⟨s0,e1,e2⟩:=wJ _ _ _ _ hj;rw[qD _ _ _ (by grind [bv])]at e1;have fin:∀ u,Rel F own w s0 u->Rel F own' w' s u:=fun u hu=>by
  rcases e2 with rfl| ⟨q,rfl⟩;exact hu.mono g;exact qF (hu.mono g)
 by_cases hjr:off<=j/\j<off+xs.length
 rw[if_pos hjr]at e1;obtain⟨u,h1,h2⟩:=hin (o+i*ae k+j) (by omega) (by omega);grind
 rw[if_neg hjr]at e1;obtain⟨h1,h2⟩:=h.get hi e1;grind
 rw[if_neg hii]at hy;obtain⟨u,h1,h2⟩:=h i' y hy j s hj;refine⟨u,?_,h2.mono g⟩;rw[hout];exact h1;rcases Nat.lt_or_gt_of_ne hii with hlt|hlt;have:(i+1)*ae k<=i'*ae k:=aiD _ hlt;grind
 have:(i'+1)*ae k<=i*ae k:=aiD _ hlt;grind
theorem Od {cap n i size off m o total:Nat}(h1:o+cap*size<=total)(h2:n<=cap)(h3:i<n)(h4:off+m<=size):o+i*size+off+m<=total:=by
 have h5:(i+1)*size<=cap*size:=aiD _ (by omega);grind
theorem GridIn.put {own':Own}{w':World}(g:Goes F own w own' w'){k:Tag}{l':List k.T}{v:Value}{b:Nat}(hoth:∀ c,c≠b->w'.heap[c]? =w.heap[c]?):
  ∀ {l:List (List k.T)} {vs:List Value} {bs:List Nat} {i:Nat},GridIn F own w k l vs bs->bs.Nodup->vs[i]? =some v->(∀ b1,RowRel F own w k (l.getD i []) v b1->b∈b1)->(∀ b1,RowRel F own w k (l.getD i []) v b1->RowRel F own' w' k l' v b1)->GridIn F own' w' k (l.set i l') vs bs
 | [],[],bs,i,_,_,h,_,_=>by simp at h
 |l::ls,u::vs,bs,0,⟨b1,b2,h1,h0,h2,h3⟩,hn,h,hb,hr=>by
  simp at h;subst h;refine⟨b1,b2,h1,h0,hr b1 h2,h3.carry g.carries fun c hc=>hoth c fun e=>?_⟩;grind
 |l::ls,u::vs,bs,i+1,⟨b1,b2,h1,h0,h2,h3⟩,hn,h,hb,hr=>by
  rw[h1]at hn;have hn':=hn;rw[ajs]at hn;have h':vs[i]? =some v:=by simpa using h
  obtain⟨b3,q1,q2,q3,q4⟩:=h3.get h';have hb3:=hb b3 (by grind);exact⟨b1,b2,h1,h0,h2.carry g.carries fun c hc=>hoth c fun e=>hn.2.2 _ hc _ (q4 b hb3) e,
   GridIn.put g hoth h3 hn.2.1 h' (fun b1 hb1=>hb b1 (by grind)) fun b1 hb1=>hr b1 (by grind)⟩
 | [],_::_,_,_,h,_,_,_,_=>h.elim|_::_,[],_,_,h,_,_,_,_=>h.elim
theorem HC {k:Tag}{l l':List SV}{x:k.T}{off:Nat}{xs:List SV}(hx:qA k (iH l off xs)=some x)(hl:l.length=ae k)(hle:off+xs.length<=ae k)(j:Nat)(s:SV)(hj:xs[j]? =some s)(v:Value)(hv:Rel F own w s v):v.oneCell'=true:=by
 have hjl:=(aiq.1 hj).1;have h1:(iH l off xs)[off+j]? =some s:=by
  simp_all [qD]
 have hc:=oI hx;have hlen:off+j< (cellsOf k x).length:=by rw[bv];omega
 obtain⟨s1,h2⟩:∃ s1,(cellsOf k x)[off+j]? =some s1:=⟨_,aiv hlen⟩;have h3:=h2;rw[hc]at h3;obtain⟨s0,e1,e2⟩:=wJ _ _ _ _ h3;rw[h1]at e1;simp only[aip]at e1;subst e1;have h4:Rel F own w s1 v:=by
  rcases e2 with e2| ⟨q,e2⟩;grind
  rw[e2];exact qF hv
 exact oH (I6 h2 h4)
theorem Qt {h:List Ob}(hp:Hp F own w h){t:TypeId}{ti:TI}(ht:cw P t=some ti){s sx:SV}{v vx:Value}(hr:Rel F own w s v)(hrx:Rel F own w sx vx){r:OR}
  (he:tf ti.size h s (rB sx)=r) (hne:r≠ .bad):
  ∃ ups,r=.eff True True ups .any/\∃ w',(Instr.storeAt t v vx).run P w=.ok () w'/\Step F own w (ba h ups) own w':=by
 cases hf:rB sx with
 |none=>rw[hf]at he;cases s <;>exact absurd he.symm hne
 |some xs=>
 rw[hf]at he;cases hr with
 |ptr h1 h2=>
  rename_i id off b hd;simp only[tf]at he;cases hb:Nat.beq (sz xs) ti.size with
  |false=>grind
  |true=>
  rw[hb]at he;simp only[cond_true]at he;cases ho:ar h id with
  |cells l=>
   rw[ho]at he;simp only[Mm]at he;cases hc:Nat.ble (off+sz xs) (sz l)&&xv xs with
   |false=>grind
   |true=>
   rw[hc]at he;simp only[cond_true]at he;subst he;simp only[aim,tJ]at hc hb;have hsz:=ain hb;have hle:=nbl hc.1;obtain⟨hd',e0,b',cs,ty,e1,e2,e3,e4,e5⟩:=hp.at ho rfl;rw[h1]at e0;cases e0;rw[h2]at e1;cases e1;obtain⟨cs',w',q1,q2,q3,q4,q5⟩:=zF (P:=P) ht hrx hf hsz (fun j s hj v hv=>Sc (Dt hc.2 j s hj) hv) (off:=off) e3 (by omega);refine⟨_,rfl,w',q1,rO hp h1 (by simp[e2]) q2.size q2.other q2.os q2.tape q2.output _ fun g=>⟨b,cs',ty,h2,e2,q2.here,by rw[q3,e4,pG],fun j s hj=>?_⟩⟩;rw[qD _ _ _ hle]at hj;by_cases hjr:off<=j/\j<off+xs.length
   rw[if_pos hjr]at hj;obtain⟨u,k1,k2⟩:=q4 j hjr.1 hjr.2;have:=(k2 s hj).mono g;simp_all;rw[if_neg hjr]at hj;have:=(e5 j s hj).mono g;simp_all
  |_=>rw[ho]at he;exact absurd he.symm hne
 |rp h1 h2 h3=>
  rename_i szt id off n cap b o i hd;simp only[tf]at he;cases hb:Nat.beq (sz xs) ti.size with
  |false=>grind
  |true=>
  rw[hb]at he;simp only[cond_true]at he;cases ho:ar h id with
  |row k l=>
   rw[ho]at he;simp only[Mn]at he;cases hc:Nat.beq szt (ae k)&&Nat.ble (off+sz xs) szt with
   |false=>grind
   |true=>
   rw[hc]at he;simp only[cond_true]at he;simp only[aim,tJ]at hc hb;have hsz:=ain hb;have hszt:=ain hc.1;have hle:=nbl hc.2;subst hszt;cases hx:qA k (iH (cellsOf k (l.getD i.toNat (gz k))) off xs)with
   |none=>rw[hx]at he;exact absurd he.symm hne
   |some x=>
   rw[hx]at he;simp only[Ml]at he;subst he;obtain⟨hd',e0,e⟩:=hp.at ho rfl;rw[h1]at e0;cases e0;rcases e with⟨a,e1,_⟩ | ⟨b',o',cap',cs,ty,e1,e2,e3,e4,e5,e6,e7⟩;grind
   have e1':=e1;rw[h2]at e1;simp only[aja,aip,ajA]at e1;obtain⟨⟨rfl,rfl,_⟩,rfl,rfl⟩:=e1;obtain⟨cs',w',q1,q2,q3,q4,q5⟩:=zF (P:=P) ht hrx hf hsz (fun j s hj v hv=>HC (l':=[]) hx (bv _ _) hle j s hj v hv) e3 (Od e4 e5 h3 hle);refine⟨_,rfl,w',q1,rO hp h1 (by simp[e2]) q2.size q2.other q2.os q2.tape q2.output _ fun g=>.inr ⟨b,o,cap,cs',ty,by grind,e2,q2.here,by omega,by grind,by grind,e7.put g h3 hx hle q4 q5⟩⟩
  |_=>rw[ho]at he;exact absurd he.symm hne
 |gp h1 h2 h3=>
  rename_i szt id off n cap b o i j hd;simp only[tf]at he;cases hb:Nat.beq (sz xs) ti.size with
  |false=>grind
  |true=>
  rw[hb]at he;simp only[cond_true]at he;cases ho:ar h id with
  |grid k l=>
   rw[ho]at he;simp only[Mo]at he;cases hc:Nat.beq szt (ae k)&&Nat.ble (off+sz xs) szt with
   |false=>grind
   |true=>
   rw[hc]at he;simp only[cond_true]at he;simp only[aim,tJ]at hc hb;have hsz:=ain hb;have hszt:=ain hc.1;have hle:=nbl hc.2;subst hszt;cases hx:qA k (iH (cellsOf k ((l.getD i.toNat []).getD j.toNat (gz k))) off xs)with
   |none=>rw[hx]at he;exact absurd he.symm hne
   |some x=>
   rw[hx]at he;simp only[IT]at he;subst he;obtain⟨hd',e0,e⟩:=hp.at ho rfl;rw[h1]at e0;cases e0;rcases e with⟨_,_,e1,_⟩ | ⟨b',o',cap',cs,ty,bs,e1,e2,e3,e4,e5,e6,e7,e8,e9⟩;grind
   obtain⟨b1,k1,k2,k3,k4⟩:=e9.get h2;have hrow:∀ b1,RowRel F own w k (l.getD i.toNat []) (.slice (some ⟨b,o,none⟩) n cap) b1->∃ cs ty,b1=[b]/\n=(l.getD i.toNat []).length/\w.heap[b]? =some (.cells cs ty (0,0))/\o+cap*ae k<=cs.size/\(l.getD i.toNat []).length<=cap/\(l.getD i.toNat []).length<=aI/\RowAt F own w k (l.getD i.toNat []) o cs:=by
    rintro b1 (⟨a,m1,_⟩ | ⟨b2,o2,cap2,cs2,ty2,m1,m2,m3,m4,m5,m6,m7⟩) <;>grind
   obtain⟨cs2,ty2,m1,rfl,m3,m4,m5,m6,m7⟩:=hrow b1 k3;obtain⟨cs',w',q1,q2,q3,q4,q5⟩:=zF (P:=P) ht hrx hf hsz (fun j s hj v hv=>HC (l':=[]) hx (bv _ _) hle j s hj v hv) m3 (Od m4 m5 h3 hle);have hbb:b∈hd.bs:=by grind
   have hne:b'≠b:=fun e=>by
    grind
   refine⟨_,rfl,w',q1,rO hp h1 hbb q2.size q2.other q2.os q2.tape q2.output _ fun g=>.inr ⟨b',o',cap',cs,ty,bs,by grind,e2,e3,by rw[q2.other b' hne];exact e4,by omega,by grind,by grind,e8,?_⟩⟩;rw[e2,ai1]at e3;refine e9.put g q2.other e3.2 h2 (fun b1 hb1=>?_) fun b1 hb1=>?_;grind
   obtain⟨cs3,ty3,rfl,_,n3,n4,n5,n6,n7⟩:=hrow b1 hb1;rw[m3]at n3;cases n3;exact .inr ⟨b,o,cap,cs',ty2,by simp,rfl,q2.here,by omega,by grind,by grind,m7.put g h3 hx hle q4 q5⟩
  |_=>rw[ho]at he;exact absurd he.symm hne
 |_=>simp only[tf]at he;exact absurd he.symm hne
theorem vD {t:TypeId}(hb:b9 (P.underlying t)≠0){xs:Array Value}{n:Nat}(hn:n<xs.size):(part t xs n).run P w=.ok (xs.getD n undef) w:=by
 have:(isAgg t).run P w=.ok false w:=by
  unfold isAgg;cases hd:P.underlying t with
  |none=>grind [b9]|some d=>rw[hd]at hb;cases d <;>simp[b9]at hb <;>simp[run_underlying hd]
 simp_all [part]
theorem MK {t:TypeId}{sx sy:SV}{vx vy:Value}(hx:Rel F own w sx vx)(hy:Rel F own w sy vy){b:Bool}(h:eqV (b9 (P.underlying t)) sx sy=some b)(d:Nat):(Op.equalIn (d+1) t vx vy).run P w=.ok b w:=by
 unfold eqV at h;split at h
 rename_i k a k' c;have ex:=bR hx;have ey:=bR hy;subst ex;subst ey;cases hb:Nat.beq (b9 (P.underlying t)) 1&&Nat.beq (kN k) (kN k')with
 |false=>grind
 |true=>
  rw[hb]at h;simp only[cond_true,aip]at h;subst h;simp only[aim]at hb;have hk:=Mz hb.2;subst hk;have hc:=ain hb.1;cases hd:P.underlying t with
  |none=>grind [b9]
  |some dd=>
   rw[hd]at hc;cases dd <;>simp[b9]at hc;simp[Op.equalIn,run_underlying hd]
 rename_i a c;have ex:=bR hx;have ey:=bR hy;subst ex;subst ey;cases hb:Nat.beq (b9 (P.underlying t)) 2 with
 |false=>grind
 |true=>
  rw[hb]at h;simp only[cond_true,aip]at h;subst h;have hc:=ain hb;cases hd:P.underlying t with
  |none=>grind [b9]
  |some dd=>
   rw[hd]at hc;cases dd <;>simp[b9]at hc;simp[Op.equalIn,run_underlying hd]
 rename_i a c;have ex:=bR hx;have ey:=bR hy;subst ex;subst ey;cases hb:Nat.beq (b9 (P.underlying t)) 3 with
 |false=>grind
 |true=>
  rw[hb]at h;simp only[cond_true,aip]at h;subst h;have hc:=ain hb;cases hd:P.underlying t with
  |none=>grind [b9]
  |some dd=>
   rw[hd]at hc;cases dd <;>simp[b9]at hc;simp[Op.equalIn,run_underlying hd]
 cases h
theorem yG {d:Nat}:∀ (fs:List Field) (n:Nat) (lx ly:List SV) (xs ys:Array Value) (b:Bool),eqFields P n fs=true->eqL (fs.map fun f=>b9 (P.underlying f.type)) lx ly=some b->n+lx.length<=xs.size->n+ly.length<=ys.size->
  (∀ (j:Nat) (s:SV),lx[j]? =some s->Rel F own w s (xs.getD (n+j) undef))->(∀ (j:Nat) (s:SV),ly[j]? =some s->Rel F own w s (ys.getD (n+j) undef))->
  (Op.eqFields (d+1) xs ys fs).run P w=.ok b w
 | [],n,lx,ly,xs,ys,b,_,h,_,_,_,_=>by
  cases lx <;>cases ly <;>simp[eqL]at h;simp_all [Op.eqFields]
 |f::fs,n,lx,ly,xs,ys,b,hf,h,h1,h2,h3,h4=>by
  simp only[eqFields,aim]at hf;obtain⟨⟨⟨q1,q2⟩,q3⟩,q4⟩:=hf;have hn:f.name≠ "_":=by grind
  have ho:f.offset=n:=ain q2;have hc:b9 (P.underlying f.type)≠0:=by have:=nbl q3;omega
  cases lx with
  |nil=>simp[eqL]at h
  |cons x lx=>
   cases ly with
   |nil=>simp[eqL]at h
   |cons y ly=>
    simp only[aiW,eqL]at h;cases hv:eqV (b9 (P.underlying f.type)) x y with
    |none=>grind [AC]
    |some b1=>
     cases hl:eqL (fs.map fun f=>b9 (P.underlying f.type)) lx ly with
     |none=>grind [AC]
     |some b2=>
      rw[hv,hl]at h;simp only[AC,aip]at h;subst h;simp only[ais]at h1 h2;have e1:=vD (P:=P) (w:=w) hc (xs:=xs) (n:=n) (by omega);have e2:=vD (P:=P) (w:=w) hc (xs:=ys) (n:=n) (by omega);have e3:=MK (P:=P) (h3 0 x rfl) (h4 0 y rfl) hv d;simp only[ajP]at e3;simp only[Op.eqFields,if_pos hn,ho,aiJ,e1,e2,aiA,e3];cases b1 with
      |false=>simp
      |true=>
       have ih:=yG (d:=d) fs (n+1) lx ly xs ys b2 q4 hl (by omega) (by omega) (fun j s hj=>by have:=h3 (j+1) s (by grind);grind) (fun j s hj=>by have:=h4 (j+1) s (by grind);grind);grind
theorem KI {t:TypeId}{fs:Array Field}(hd:P.underlying t=some (.struct fs)){lx ly:List SV}{xs ys:Array Value}(hx:RelL F own w lx xs)(hy:RelL F own w ly ys){b:Bool}
  (hc:pQ P t (.struct fs)≠[]) (h:eqL (pQ P t (.struct fs)) lx ly=some b):(Op.equal t (.agg xs) (.agg ys)).run P w=.ok b w/\P.eqGuardType P.depth t=false:=by
 simp only[pQ]at hc h;cases hb:!P.stoodInHeld t&& !P.eqGuardType P.depth t&&eqFields P 0 fs.toList with
 |false=>grind
 |true=>
  rw[hb]at h;simp only[cond_true]at h;simp only[aim,aiE]at hb;obtain⟨⟨q1,q2⟩,q3⟩:=hb;refine⟨?_,q2⟩;have hfo:P.fieldsOf t=fs:=by simp[Program.fieldsOf,hd]
  unfold Op.equal Op.maxDepth;rw[run_equalIn_struct w 9999 t xs ys (by grind) q1,hfo];exact yG (P:=P) (d:=9998) fs.toList 0 lx ly xs ys b q3 h (by rw[hx.1];omega) (by rw[hy.1];omega) (fun j s hj=>by simpa using hx.2 j s hj) (fun j s hj=>by simpa using hy.2 j s hj)
theorem Oe:∀ {as bs:List Nat} {l m:List SV} {b:Bool},eqL (as++bs) l m=some b->∃ b1 b2,eqL as (l.take as.length) (m.take as.length)=some b1/\eqL bs (l.drop as.length) (m.drop as.length)=some b2/\b=(b1&&b2)/\as.length<=l.length/\as.length<=m.length
 | [],bs,l,m,b,h=>⟨true,b,by simp[eqL],by simpa using h,by simp,by simp,by simp⟩
 |c::as,bs,[],m,b,h=>by simp[eqL]at h
 |c::as,bs,x::l,[],b,h=>by simp[eqL]at h
 |c::as,bs,x::l,y::m,b,h=>by
  simp only[aiF,eqL]at h;cases hv:eqV c x y with
  |none=>grind [AC]
  |some b0=>
   cases hl:eqL (as++bs) l m with
   |none=>grind [AC]
   |some b3=>
    rw[hv,hl]at h;simp only[AC,aip]at h;obtain⟨b1,b2,e1,e2,e3,e4,e5⟩:=Oe hl;grind [eqL,AC]
theorem Sd {t:TypeId}{n:Nat}{lx ly:List SV}{xs ys:Array Value}{b:Bool}(h:eqL (sI P t) lx ly=some b)(hp:0< (sI P t).length)(hlx:lx.length=(sI P t).length)(hly:ly.length=(sI P t).length)(h1:n+lx.length<=xs.size)(h2:n+ly.length<=ys.size)
  (h3:∀ (j:Nat) (s:SV),lx[j]? =some s->Rel F own w s (xs.getD (n+j) undef)) (h4:∀ (j:Nat) (s:SV),ly[j]? =some s->Rel F own w s (ys.getD (n+j) undef)) (d:Nat):
  ∃ vx vy,(part t xs n).run P w=.ok vx w/\(part t ys n).run P w=.ok vy w/\(Op.equalIn (d+2) t vx vy).run P w=.ok b w:=by
 by_cases hst:∃ gs,P.underlying t=some (.struct gs)
 obtain⟨gs,hd⟩:=hst;have e:sI P t=bif !P.stoodInHeld t&&eqFields P 0 gs.toList&&Nat.beq (qk P t) gs.size&&(P.info? t).isSome then gs.toList.map fun f=>b9 (P.underlying f.type)else []:=by grind [sI]
 cases hb:!P.stoodInHeld t&&eqFields P 0 gs.toList&&Nat.beq (qk P t) gs.size&&(P.info? t).isSome with
 |false=>grind
 |true=>
  rw[hb]at e;simp only[cond_true]at e;simp only[aim,aiE]at hb;obtain⟨⟨⟨q1,q2⟩,q3⟩,q4⟩:=hb;have hsz:=ain q3;obtain⟨i,hi⟩:=aj7.1 q4;have hszi:i.size=gs.size:=by grind [qk]
  have hlen:(sI P t).length=gs.size:=by rw[e];simp
  have hpart:∀ zs:Array Value,(part t zs n).run P w=.ok (.agg (zs.extract n (n+i.size))) w:=fun zs=>by
   simp_all [part,zC,lY,dQ]
  have hget:∀ (zs:Array Value) (l:List SV),l.length=gs.size->n+l.length<=zs.size->(∀ (j:Nat) (s:SV),l[j]? =some s->Rel F own w s (zs.getD (n+j) undef))->∀ (j:Nat) (s:SV),l[j]? =some s->Rel F own w s ((zs.extract n (n+i.size)).getD (0+j) undef):=fun zs l hl hz hr j s hj=>by
   have hjl:j<l.length:=(aiq.1 hj).1;have:=hr j s hj
   rwa[vC (j:=n+j) (ws:=zs) (by grind)]
  refine⟨_,_,hpart xs,hpart ys,?_⟩;have hfo:P.fieldsOf t=gs:=by simp[Program.fieldsOf,hd]
  rw[run_equalIn_struct w (d+1) t _ _ (by grind) q1,hfo];rw[e]at h;rw[hlen]at hlx hly;exact yG (P:=P) (d:=d) gs.toList 0 lx ly _ _ b q2 h (by simp;omega) (by simp;omega) (hget xs lx hlx h1 h3) (hget ys ly hly h2 h4)
 have e:sI P t=bif Nat.blt 0 (b9 (P.underlying t))then [b9 (P.underlying t)]else []:=by
  grind [sI]
 cases hb:Nat.blt 0 (b9 (P.underlying t))with
 |false=>grind
 |true=>
  rw[hb]at e;simp only[cond_true]at e;have hc:b9 (P.underlying t)≠0:=by have:=nbl hb;omega
  rw[e]at h hlx hly;match lx,ly,hlx,hly with
  | [x],[y],_,_=>
   simp only[eqL]at h;cases hv:eqV (b9 (P.underlying t)) x y with
   |none=>grind [AC]
   |some b1=>
    rw[hv]at h;simp only[AC,aip,Bool.and_true]at h;subst h;simp only[ais,aiI]at h1 h2;have e3:=MK (P:=P) (h3 0 x rfl) (h4 0 y rfl) hv (d+1);simp only[ajP]at e3;exact⟨_,_,vD (P:=P) hc (by omega),vD (P:=P) hc (by omega),e3⟩
theorem Bx {d:Nat}:∀ (fs:List Field) (n:Nat) (lx ly:List SV) (xs ys:Array Value) (b:Bool),wB P n fs=true->eqL (fs.flatMap fun f=>sI P f.type) lx ly=some b->n+lx.length<=xs.size->n+ly.length<=ys.size->
  (∀ (j:Nat) (s:SV),lx[j]? =some s->Rel F own w s (xs.getD (n+j) undef))->(∀ (j:Nat) (s:SV),ly[j]? =some s->Rel F own w s (ys.getD (n+j) undef))->
  (Op.eqFields (d+2) xs ys fs).run P w=.ok b w
 | [],n,lx,ly,xs,ys,b,_,h,_,_,_,_=>by
  cases lx <;>cases ly <;>simp[eqL]at h;simp_all [Op.eqFields]
 |f::fs,n,lx,ly,xs,ys,b,hf,h,h1,h2,h3,h4=>by
  simp only[wB,aim]at hf;obtain⟨⟨⟨q1,q2⟩,q3⟩,q4⟩:=hf;have hn:f.name≠ "_":=by grind
  have ho:f.offset=n:=ain q2;have hc:0< (sI P f.type).length:=nbl q3;simp only[ai5]at h;obtain⟨b1,b2,e1,e2,e3,e4,e5⟩:=Oe h;subst e3;obtain⟨vx,vy,p1,p2,p3⟩:=Sd (P:=P) (n:=n) e1 hc (by simp;omega) (by simp;omega) (by simp;omega) (by simp;omega) (fun j s hj=>h3 j s (by grind)) (fun j s hj=>h4 j s (by grind)) d;simp only[Op.eqFields,if_pos hn,ho,aiJ,p1,p2,aiA,p3];cases b1 with
  |false=>simp
  |true=>
   have ih:=Bx (d:=d) fs (n+(sI P f.type).length) (lx.drop (sI P f.type).length) (ly.drop (sI P f.type).length) xs ys b2 q4 e2 (by simp;omega) (by simp;omega) (fun j s hj=>by grind) (fun j s hj=>by grind);grind
theorem Qu {t:TypeId}{d:TypeDesc}(hd:P.underlying t=some d){lx ly:List SV}{xs ys:Array Value}(hx:RelL F own w lx xs)(hy:RelL F own w ly ys){b:Bool}
  (hc:IP P t d≠[]) (h:eqL (IP P t d) lx ly=some b):(Op.equal t (.agg xs) (.agg ys)).run P w=.ok b w/\P.eqGuardType P.depth t=false:=by
 cases d with
 |struct fs=>
  simp only[IP]at hc h;cases hb:!P.stoodInHeld t&& !P.eqGuardType P.depth t&&wB P 0 fs.toList with
  |false=>grind
  |true=>
   rw[hb]at h;simp only[cond_true]at h;simp only[aim,aiE]at hb;obtain⟨⟨q1,q2⟩,q3⟩:=hb;refine⟨?_,q2⟩;have hfo:P.fieldsOf t=fs:=by simp[Program.fieldsOf,hd]
   unfold Op.equal Op.maxDepth;rw[run_equalIn_struct w 9999 t xs ys (by grind) q1,hfo];exact Bx (P:=P) (d:=9997) fs.toList 0 lx ly xs ys b q3 h (by rw[hx.1];omega) (by rw[hy.1];omega) (fun j s hj=>by simpa using hx.2 j s hj) (fun j s hj=>by simpa using hy.2 j s hj)
 |_=>exact absurd rfl hc
end
section
variable {P:Program}{F:Nat->Prop}{own:Own}{w:World}
def Own.move (own:Own)(K:List Nat)(nx:Nat)(hd:Hd):Own:=fun j=>if j=nx then some hd else if j∈K then(own j).map (fun hd=>{ hd with bs:=[]})else own j
theorem lQ (nx:Nat)(ob:Ob):∀ (K:List Nat) (h:List Ob) (j:Nat),nx ∉ K->(∀ id∈K,id<h.length)->
  ar (ba h (K.map (fun id=>(id,Ob.dead))++[(nx,ob)])) j=(if j=nx then ob else if j∈K then .dead else ar h j)/\h.length<=(ba h (K.map (fun id=>(id,Ob.dead))++[(nx,ob)])).length/\nx< (ba h (K.map (fun id=>(id,Ob.dead))++[(nx,ob)])).length
 | [],h,j,_,_=>by
  simp only[ajy,aiC,ba,ai9,if_false];refine⟨by simp_all [dv,eq_comm],?_,?_⟩ <;>rw[ce] <;>split <;>omega
 |id::K,h,j,hn,hl=>by
  simp only[aiu,not_or]at hn;have hid:=hl id (by simp);have hlen:(bM h id Ob.dead).length=h.length:=by rw[ce,if_pos hid]
  obtain⟨q1,q2,q3⟩:=lQ nx ob K (bM h id .dead) j hn.2 (fun i hi=>by grind);simp only[aiW,aiF,ba];refine⟨?_,by omega,q3⟩;rw[q1,dv];grind
theorem mJ {h:List Ob}(hp:Hp F own w h){nx:Nat}(hn:NxOk own h nx){w':World}(K:List Nat)(hK:∀ id∈K,∃ hd,own id=some hd)(hd':Hd)(ob:Ob)
  (hbs:∀ b∈hd'.bs,(∃ id∈K,∃ hd,own id=some hd/\b∈hd.bs)\/(w.heap.size<=b/\b<w'.heap.size))
  (hold:∀ b,b<w.heap.size->(¬ ∃ id∈K,∃ hd,own id=some hd/\b∈hd.bs)->w'.heap[b]? =w.heap[b]?) (hsz:w.heap.size<=w'.heap.size) (q2:w'.os=w.os) (q3:w'.tape=w.tape) (q4:w'.output=w.output)
  (hob:∀ own',Goes F own w own' w'->ObRel F own' w' hd' ob) (hnd:dg ob=false:=by rfl):Step F own w (ba h (K.map (fun id=>(id,Ob.dead))++[(nx,ob)])) (own.move K nx hd') w':=by
 have hnK:nx ∉ K:=fun hm=>by obtain⟨hd,e⟩:=hK nx hm;rw[hn.none]at e;cases e
 have hKl:∀ id∈K,id<h.length:=fun id hm=>by obtain⟨hd,e⟩:=hK id hm;exact hp.dom _ _ e
 have fr:Fr { w:=w,own:=own} (own.move K nx hd') w':=by
  refine Fr.of_step (fun id hd h1=>?_) (fun id hd b h1 h2=>?_) (fun b hb hnb=>hold b hb fun⟨id,_,hd,e1,e2⟩ =>hnb ⟨id,hd,e1,e2⟩) hsz q2 q3 q4;have hne:id≠nx:=fun e=>by rw[e,hn.none]at h1;cases h1
  simp only[Own.move,if_neg hne];by_cases hm:id∈K
  exact⟨{ hd with bs:=[]},by simp[hm,h1],rfl,rfl,rfl⟩;exact⟨hd,by simp[hm,h1],.refl _⟩;simp only[Own.move]at h1;grind
 refine⟨hp.upd fr.goes (fun id=>id=nx\/id∈K) (lQ nx ob K h 0 hnK hKl).2.1 (fun id hid=>?_) (fun id hd hid h1=>?_) (fun id hid hd=>?_),fr,fun id h1 h2=>?_⟩
 rotate_left 3
 rw[(lQ nx ob K h id hnK hKl).1]at h2;simp only[Own.move];grind
 simp only[not_or]at hid;refine⟨by grind [Own.move],by simp_all [lQ],fun hd b h1 h2=>hold b (hp.lt id hd b h1 h2) ?_⟩;rintro⟨id',hm,hd2,e1,e2⟩;exact hid.2 (hp.inj id id' hd hd2 b h1 e1 h2 e2▸hm);simp only[Own.move]at h1;by_cases e:id=nx
 subst e;rw[if_pos rfl]at h1;cases h1;refine⟨(lQ _ ob K h 0 hnK hKl).2.2,fun b hb=>?_⟩;rcases hbs b hb with⟨id',hm,hd2,e1,e2⟩ |h3;refine⟨aiy (hp.lt id' hd2 b e1 e2) hsz,hp.apart id' hd2 b e1 e2,fun j hj hne h4 h5=>?_⟩;simp only[Own.move,if_neg hne]at h4;by_cases hm2:j∈K
 grind
 rw[if_neg hm2]at h4;exact hm2 (hp.inj j id' hj hd2 b h4 e1 h5 e2▸hm);refine⟨h3.2,fun hf=>by have:=hp.foreign b hf;omega,fun j hj hne h4 h5=>?_⟩;simp only[Own.move,if_neg hne]at h4;by_cases hm2:j∈K
 grind
 rw[if_neg hm2]at h4;have:=hp.lt j hj b h4 h5;omega;rw[if_neg e]at h1;have hm:id∈K:=hid.resolve_left e;rw[if_pos hm]at h1;cases ho:own id with
 |none=>grind
 |some hd2=>
  rw[ho]at h1;simp at h1;subst h1;exact⟨aiy (hKl id hm) (lQ nx ob K h 0 hnK hKl).2.1,fun b hb=>by simp at hb⟩
 rw[(lQ nx ob K h id hnK hKl).1]at hd |-;by_cases e:id=nx
 subst e;rw[if_pos rfl]at hd |-;exact⟨hd',by simp[Own.move],hob _ fr.goes⟩;rw[if_neg e]at hd;have hm:id∈K:=hid.resolve_left e;rw[if_pos hm]at hd;cases hd
structure Src (P:Program)(F:Nat->Prop)(own:Own)(w:World)(k:Tag)(m:List k.T)(v:Value)(news:List Value):Prop where
 len:∃ a cap,v=.slice a m.length cap
 cells:∀ (w1:World),w1.heap=w.heap->(Builtin.firstCells (ae k) m.length v).run P w1=.ok news.toArray w1
 size:news.length=m.length*ae k
 rel:∀ (i:Nat) (x:k.T),m[i]? =some x->∀ (j:Nat) (s:SV),(cellsOf k x)[j]? =some s->∃ u,news[i*ae k+j]? =some u/\Rel F own w s u
theorem KJ {n size p:Nat}(h:p<n*size):p / size<n/\p % size<size/\p / size*size+p % size=p:=by
 have hpos:0<size:=by
  grind
 refine⟨(Nat.div_lt_iff_lt_mul hpos).2 h,akc _ hpos,?_⟩;rw[ak6];exact Nat.div_add_mod p size
theorem Src.one {k:Tag}{m:List k.T}{v:Value}{news:List Value}(h:Src P F own w k m v news):∀ u∈news,u.oneCell'=true:=by
 intro u hu;obtain⟨p,hp⟩:=aiU hu;have hlt:=(aiq.1 hp).1;rw[h.size]at hlt;obtain⟨h1,h2,h3⟩:=KJ hlt;have hc:p % ae k< (cellsOf k (m.getD (p / ae k) (gz k))).length:=by grind [bv]
 obtain⟨u',e1,e2⟩:=h.rel _ _ (uu h1) _ _ (aiv hc);rw[h3,hp]at e1;simp only[aip]at e1;subst e1;exact oH (I6 (aiv hc) e2)
theorem ML {k:Tag}{l:List k.T}{b o cap:Nat}(hc:∀ (i:Nat) (x:k.T),l[i]? =some x->∀ (j:Nat) (s:SV),(cellsOf k x)[j]? =some s->∃ u,w.cell? ⟨b,o+i*ae k+j,none⟩=some u/\Rel F own w s u):
  ∃ news,Src P F own w k l (.slice (some ⟨b,o,none⟩) l.length cap) news:=by
 have key:∀ p,p<l.length*ae k->w.cell? ⟨b,o+p,none⟩=some ((w.cell? ⟨b,o+p,none⟩).getD undef):=by
  intro p hp;obtain⟨h1,h2,h3⟩:=KJ hp;have hl:p % ae k< (cellsOf k (l.getD (p / ae k) (gz k))).length:=by grind [bv]
  obtain⟨u,e1,_⟩:=hc _ _ (uu h1) _ _ (aiv hl);grind
 refine⟨(List.range (l.length*ae k)).map fun p=>(w.cell? ⟨b,o+p,none⟩).getD undef,⟨_,_,rfl⟩,fun w1 hw1=>?_,by simp,fun i x hi j s hj=>?_⟩;refine run_firstCells_some w1 _ _ _ _ _ _ (by simp) fun j v hj=>?_;grind [pH,wG]
 obtain⟨u,e1,e2⟩:=hc i x hi j s hj;have hi':=(aiq.1 hi).1;have hj':j<ae k:=by grind [bv]
 have hlt:i*ae k+j<l.length*ae k:=by
  have:(i+1)*ae k<=l.length*ae k:=aiD _ hi';grind
 refine⟨u,?_,e2⟩;rw[ai7,List.getElem?_range hlt];grind
theorem By {k:Tag}{a:Option Addr}{cap:Nat}:Src P F own w k [] (.slice a 0 cap) []:=
 ⟨⟨_,_,rfl⟩,fun w1 _=>by cases a <;>simp[Builtin.firstCells,loadCells,loadCellsFrom],by simp,fun i x h=>by simp at h⟩
theorem uv {k k':Tag}{l:List k'.T}{m:List k.T}(h:Ae k k' l=some m):∃ e:k'=k,m=e▸l:=by
 grind [Ae]
theorem I9 {k:Tag}{l:List k.T}{v:Value}{bs:List Nat}(h:RowRel F own w k l v bs):∃ news,Src P F own w k l v news:=by
 rcases h with⟨a,rfl,rfl,_⟩ | ⟨b,o,cap,cs,ty,rfl,h2,h3,h4,h5,h6,h7⟩;exact⟨[],By⟩;exact ML fun i x hi j s hj=>by
  obtain⟨u,e1,e2⟩:=h7 i x hi j s hj;grind [ez]
theorem wc {α:Type}{l:List α}{a b i:Nat}{x:α}(h:((l.take b).drop a)[i]? =some x):l[a+i]? =some x/\a+i<b:=by
 grind
theorem Se {k:Tag}{l:List k.T}{x:Value}{bs:List Nat}(h:RowRel F own w k l x bs){sz cap:Nat}{lo hi:Int}{a:Option Addr}(h2:Y_ x sz lo hi a)(hz:sz=ae k):
  ∃ news,Src P F own w k ((l.take hi.toNat).drop lo.toNat) (.slice a (hi.toNat - lo.toNat) cap) news:=by
 have nil:hi.toNat<=lo.toNat->∃ news,Src P F own w k ((l.take hi.toNat).drop lo.toNat) (.slice a (hi.toNat - lo.toNat) cap) news:=fun hle=>by
  have e:(l.take hi.toNat).drop lo.toNat=[]:=akE (by simp;omega);rw[e,show hi.toNat - lo.toNat=0 by omega];exact⟨[],By⟩
 rcases h2 with h2| ⟨b,o,n,c,rfl,h3,rfl⟩;exact nil h2;rcases h with⟨a,e,rfl,_⟩ | ⟨b',o',cap',cs,ty,e,q2,q3,q4,q5,q6,q7⟩;grind
 cases e;have hlen:((l.take hi.toNat).drop lo.toNat).length=hi.toNat - lo.toNat:=by simp;omega
 rw[<-hlen];exact ML fun i x hi' j s hj=>by
  obtain⟨e1,_⟩:=wc hi';obtain⟨u,g1,g2⟩:=q7 _ x e1 j s hj;grind [ez]
theorem I_ {h:List Ob}(hp:Hp F own w h){k:Tag}{s:SV}{v:Value}(hr:Rel F own w s v){m:List k.T}(hs:vj k h s=some m):∃ news,Src P F own w k m v news:=by
 cases hr with
 |rs c h0 h0' h1 h2=>
  obtain⟨e,rfl⟩:=uv hs;subst e;exact ML fun i x hi j s hj=>⟨_,(h1 i x hi j s hj).2,h2 i x hi j s hj⟩
 |rs0=>
  obtain⟨e,rfl⟩:=uv hs;subst e;exact⟨[],By⟩
 |e0=>simp[vj]at hs;subst hs;exact⟨[],By⟩
 |v x=>
  unfold vj at hs;split at hs
  grind
  rename_i heq;cases heq;simp at hs;subst hs;exact⟨[],By⟩;grind
  grind
  grind
  cases hs
 |os h1 h2=>
  rename_i id hd;simp only[vj]at hs;cases ho:ar h id with
  |row k' l=>
   rw[ho]at hs;simp only[P6]at hs;obtain⟨e,rfl⟩:=uv hs;subst e;obtain⟨hd',e0,e1⟩:=hp.at ho rfl;rw[h1]at e0;cases e0;exact I9 e1
  |_=>rw[ho]at hs;cases hs
 |vw h1 h2 hcap3=>
  rename_i sz id cap lo hi hd a;simp only[vj]at hs;cases ho:ar h id with
  |row k' l=>
   rw[ho]at hs;simp only[VD]at hs;cases hb:Nat.beq sz (ae k')with
   |false=>grind
   |true=>
    rw[hb]at hs;simp only[cond_true]at hs;obtain⟨e,rfl⟩:=uv hs;subst e;obtain⟨hd',e0,e1⟩:=hp.at ho rfl;rw[h1]at e0;cases e0;exact Se e1 h2 (ain hb)
  |_=>rw[ho]at hs;cases hs
 |_=>simp[vj]at hs
theorem tj (z:Array Value)(n:Nat):(Builtin.zeroCells z n).size=n*z.size:=by simp[Builtin.zeroCells]
theorem yH {t t2 ty e e2:TypeId}{i:TypeInfo}{z:Value}(ht:P.underlying t=some (.slice e))(ht2:P.underlying t2=some (.slice e2))(hi:P.info? e=some i)(hz:i.zero=some z){a0:Option Addr}{n cap:Nat}{olds:List Value}
  (holds:∀ w1:World,w1.heap=w.heap->(Builtin.firstCells i.size n (.slice a0 n cap)).run P w1=.ok olds.toArray w1) {v:Value} {m:Nat} {news:List Value} (hv:∃ a c,v=.slice a m c) (hnews:∀ w1:World,w1.heap=w.heap->(Builtin.firstCells i.size m v).run P w1=.ok news.toArray w1)
  (hg:cap<n+m) (h63:n+m<=9223372036854775807) (hfit:(n+m)*i.bytes<=di):
  (Builtin.append_ #[t,t2] ty #[.slice a0 n cap,v]).run P w=.ok (.slice (some ⟨w.heap.size,0,none⟩) (n+m) (grownCap w (n+m) cap e)) (w.drew.alloc (.cells (olds.toArray++news.toArray++Builtin.zeroCells z.cells (grownCap w (n+m) cap e - (n+m))) e)):=by
 obtain⟨a,c,rfl⟩:=hv;have hn:¬ (n+m<=cap):=by omega
 have h63':¬ (9223372036854775807< ((n:Int)+(m:Int))):=by omega
 have h48':¬ (281474976710656<Builtin.nextslicecap (n+m) cap*i.bytes):=by have:=growslice_fits hg hfit;omega
 have h1:=holds w.drew rfl;have h2:=hnews w.drew rfl;simp[Builtin.append_,run_underlying ht,run_underlying ht2,sizeOf,typeInfo,zeroValue,hi,hz,Builtin.lenOf,hn,h63',h48',Question.forced,h1,h2,newRow,grownCap];grind
theorem yI {t t2 ty e e2:TypeId}{i:TypeInfo}(ht:P.underlying t=some (.slice e))(ht2:P.underlying t2=some (.slice e2))(hi:P.info? e=some i){b o n cap:Nat}{v:Value}{m:Nat}{news:List Value}(hv:∃ a c,v=.slice a m c)(hnews:(Builtin.firstCells i.size m v).run P w=.ok news.toArray w)
  (hg:n+m<=cap) {w':World} (hst:(storeCells ⟨b,o+n*i.size,none⟩ news 0).run P w=.ok () w'):
  (Builtin.append_ #[t,t2] ty #[.slice (some ⟨b,o,none⟩) n cap,v]).run P w=.ok (.slice (some ⟨b,o,none⟩) (n+m) cap) w':=by
 obtain⟨a,c,rfl⟩:=hv;simp[Builtin.append_,run_underlying ht,run_underlying ht2,sizeOf,typeInfo,hi,Builtin.lenOf,hg,hnews,pH,hst]
theorem Du {t t2 ty e e2:TypeId}{i:TypeInfo}(ht:P.underlying t=some (.slice e))(ht2:P.underlying t2=some (.slice e2))(hi:P.info? e=some i){a0:Option Addr}{cap:Nat}{v:Value}(hv:∃ a c,v=.slice a 0 c)(hnews:(Builtin.firstCells i.size 0 v).run P w=.ok #[] w):
  (Builtin.append_ #[t,t2] ty #[.slice a0 0 cap,v]).run P w=.ok (.slice a0 0 cap) w:=by
 obtain⟨a,c,rfl⟩:=hv;cases a0 <;>simp[Builtin.append_,run_underlying ht,run_underlying ht2,sizeOf,typeInfo,hi,Builtin.lenOf,hnews,storeCells]
theorem xF (w:World)(need old:Nat)(e:TypeId):need<=grownCap w need old e:=grownCap_ge w need old e
def VP (P:Program)(F:Nat->Prop)(own:Own)(w:World)(k:Tag)(l m:List k.T)(v:Value)(bs:List Nat):Prop:=bs=[]/\m≠[]/\(∃ a,v=.slice a l.length l.length)/\∃ olds,Src P F own w k l v olds
theorem HD {h:List Ob}(hp:Hp F own w h){nx:Nat}(hn:NxOk own h nx){t t2 ty e e2:TypeId}{i:TypeInfo}{z:Value}(ht:P.underlying t=some (.slice e))(ht2:P.underlying t2=some (.slice e2))(hi:P.info? e=some i)(hz:i.zero=some z)(hzs:z.cells.size=i.size){k:Tag}(hk:i.size=ae k)(hby:1<=i.bytes)
  {l m:List k.T} {v u:Value} {bs:List Nat} (hrow:RowRel F own w k l v bs\/VP P F own w k l m v bs) {K:List Nat} (hK:∀ id∈K,∃ hd,own id=some hd) (hKb:∀ b∈bs,∃ id∈K,∃ hd,own id=some hd/\b∈hd.bs) (hKo:∀ id∈K,∀ hd,own id=some hd->∀ b∈hd.bs,b∈bs)
  {news:List Value} (hs:Src P F own w k m u news) (hfit:(l++m).length*i.bytes<=di):
  (l++m).length<=aI/\∃ v' hd' w',(Builtin.append_ #[t,t2] ty #[v,u]).run P w=.ok v' w'/\hd'.v=v'/\sK v'=true/\Step F own w (ba h (K.map (fun id=>(id,Ob.dead))++[(nx,.row k (l++m))])) (own.move K nx hd') w':=by
 have hlen:(l++m).length<=aI:=by
  have:(l++m).length<=(l++m).length*i.bytes:=ajr _ hby;grind [di,aI]
 refine⟨hlen,?_⟩;have h63:(l++m).length<=9223372036854775807:=by grind [aI]
 have hsrcl:=hs.len;rw[aiK]at hlen h63 hfit;have grow:∀ (a0:Option Addr) (cap:Nat) (olds:List Value),v=.slice a0 l.length cap->cap<l.length+m.length->(∀ w1:World,w1.heap=w.heap->(Builtin.firstCells i.size l.length v).run P w1=.ok olds.toArray w1)->olds.length=l.length*ae k->
   (∀ (i:Nat) (x:k.T),l[i]? =some x->∀ (j:Nat) (s:SV),(cellsOf k x)[j]? =some s->∃ u,olds[i*ae k+j]? =some u/\Rel F own w s u)->
   ∃ v' hd' w',(Builtin.append_ #[t,t2] ty #[v,u]).run P w=.ok v' w'/\hd'.v=v'/\sK v'=true/\Step F own w (ba h (K.map (fun id=>(id,Ob.dead))++[(nx,.row k (l++m))])) (own.move K nx hd') w':=by
  intro a0 cap olds hv hcap holds hol hrel;rw[hv]at holds;have hrun:=yH (P:=P) (ty:=ty) ht ht2 hi hz holds hsrcl (by rw[hk];exact hs.cells) hcap h63 hfit;rw[<-hv]at hrun;have hge:=xF w (l.length+m.length) cap e;let cs:=olds.toArray++news.toArray++Builtin.zeroCells z.cells (grownCap w (l.length+m.length) cap e - (l.length+m.length))
  have hcs:cs.size=grownCap w (l.length+m.length) cap e*ae k:=by
   simp only[cs,Array.size_append,ajX,tj,hzs,hk,hol,hs.size,<-ald];grind
  refine⟨_,⟨none,_,[],[w.heap.size]⟩,_,hrun,rfl,rfl,mJ hp hn K hK _ _ (fun b hb=>?_) (fun b hb _=>?_) ?_ rfl rfl rfl fun own' g=>?_⟩;simp_all;exact ur w.drew _ b hb;simp_all;refine .inr ⟨w.heap.size,0,grownCap w (l.length+m.length) cap e,cs,e,by simp,rfl,nO w.drew _,by omega,by grind,by grind,fun q x hq j s hj=>?_⟩;have hjl:j<ae k:=by grind [bv]
  rw[ai2];rw[ajf]at hq;split at hq
  rename_i hlt;obtain⟨u',e1,e2⟩:=hrel q x hq j s hj;refine⟨u',?_,e2.mono g⟩;grind
  rename_i hlt;obtain⟨u',e1,e2⟩:=hs.rel (q - l.length) x hq j s hj;refine⟨u',?_,e2.mono g⟩;have hb:=(aiq.1 e1).1;have hqq:q*ae k+j=olds.length+((q - l.length)*ae k+j):=by
   rw[hol];have:q=l.length+(q - l.length):=by omega
   grind
  simp only[cs];simp_all [aiS]
 rcases hrow with(⟨a,rfl,rfl,rfl⟩ | ⟨b,o,cap,cs,tyb,rfl,rfl,h3,h4,h5,h6,h7⟩) | ⟨rfl,hm,⟨a,hv⟩,olds,ho⟩
 rotate_left 2
 have:0<m.length:=akV.2 hm;exact grow a l.length olds hv (by omega) (by rw[hk];exact ho.cells) ho.size ho.rel;by_cases hm:m=[]
 subst hm;have hnw:news=[]:=ajb (by simpa using hs.size);subst hnw;have hrun:=Du (P:=P) (ty:=ty) ht ht2 hi (a0:=a) (cap:=0) hsrcl (by have:=hs.cells w rfl;rw[hk];exact this);exact⟨_,⟨none,_,[],[]⟩,w,hrun,rfl,rfl,mJ hp hn K hK _ _ (fun b hb=>by simp at hb) (fun _ _ _=>rfl) (aio _) rfl rfl rfl fun own' g=>.inl ⟨a,rfl,rfl,rfl⟩⟩;have:0<m.length:=akV.2 hm;exact grow a 0 [] rfl (by simp;omega) (fun w1 _=>by cases a <;>simp[Builtin.firstCells,loadCells,loadCellsFrom]) (by simp) (fun i x hx=>by simp at hx);by_cases hroom:l.length+m.length<=cap
 have hfits:o+l.length*ae k+news.length<=cs.size:=by
  rw[hs.size];have:(l.length+m.length)*ae k<=cap*ae k:=aiD _ hroom;grind
 obtain⟨cs',w',q1,q2,q3,q4⟩:=ld (P:=P) (b:=b) (o:=o+l.length*ae k) (ty:=tyb) news 0 w cs h3 (by omega) hs.one;have hrun:=yI (P:=P) (ty:=ty) ht ht2 hi (b:=b) (o:=o) (n:=l.length) (cap:=cap) hsrcl (by have:=hs.cells w rfl;rw[hk];exact this) hroom (w':=w') (by grind);refine⟨_,⟨none,_,[],[b]⟩,w',hrun,rfl,rfl,mJ hp hn K hK _ _ (fun b' hb'=>by grind) (fun b' hb' hn'=>q2.other b' fun e=>hn' (by simp_all)) (by rw[q2.size];omega) q2.os q2.tape q2.output fun own' g=>?_⟩;refine .inr ⟨b,o,cap,cs',tyb,by simp,rfl,q2.here,by omega,by grind,by grind,fun q x hq j s hj=>?_⟩;have hjl:j<ae k:=by grind [bv]
 rw[ajf]at hq;split at hq
 rename_i hlt;obtain⟨u',e1,e2⟩:=h7 q x hq j s hj;refine⟨u',?_,e2.mono g⟩;have:(q+1)*ae k<=l.length*ae k:=aiD _ hlt;grind
 rename_i hlt;obtain⟨u',e1,e2⟩:=hs.rel (q - l.length) x hq j s hj;refine⟨u',?_,e2.mono g⟩;have hb:=(aiq.1 e1).1;have hqq:o+q*ae k+j=o+l.length*ae k+0+((q - l.length)*ae k+j):=by
  have:q=l.length+(q - l.length):=by omega
  grind
 simp_all;obtain⟨olds,ho⟩:=I9 (P:=P) (F:=F) (own:=own) (w:=w) (k:=k) (l:=l) (v:=.slice (some ⟨b,o,none⟩) l.length cap) (bs:=[b]) (.inr ⟨b,o,cap,cs,tyb,rfl,rfl,h3,h4,h5,h6,h7⟩);exact grow (some ⟨b,o,none⟩) cap olds rfl (by omega) (by rw[hk];exact ho.cells) ho.size ho.rel
end
end Go.Sx
end
