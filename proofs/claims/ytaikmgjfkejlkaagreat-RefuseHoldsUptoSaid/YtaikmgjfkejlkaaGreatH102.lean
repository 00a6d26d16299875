/- Part of the proof that the law RefuseHolds returns true and leaves its arguments as they were, for all arguments of bulk at most 1048576 (the Upto form). -/
import Derived.Test.YtaikmgjfkejlkaaGreatH101
import Derived.Laws.Entries
import Derived.Laws.Tables
import Derived.Laws.StructEq
import Derived.Laws.MakeOwn
import Derived.ChangeKeysEq
set_option linter.all false
set_option maxHeartbeats 4000000
set_option maxRecDepth 100000
section
namespace Go.Sx
open Go.RowKit
def nbl {n m:Nat}(h:Nat.ble n m=true):n<=m:=Nat.le_of_ble_eq_true h
theorem yz {k:Tag}{x:k.T}{j:Nat}{s:SV}(h:(cellsOf k x)[j]? =some s):(∃ y,s=.v y/\qZ y=true)\/(∃ (k':Tag) (l:List k'.T),s=.rs k' l/\arM k'<arM k)\/(∃ (k' k2:Tag) (l:List (k'.T×k2.T)),s=.rm k' k2 l/\arM k'<arM k/\arM k2<arM k)\/∃ f,s=.fn f [] []/\arM k≠0:=by
 have hm:=aoB h;cases k <;>simp only[cellsOf,aoD]at hm <;>
  (repeat' (rcases hm with hm|hm)) <;>first|exact .inl ⟨_,rfl,rfl⟩ |exact .inr (.inl ⟨_,_,rfl,by decide⟩) |exact .inr (.inr (.inl ⟨_,_,_,rfl,by decide,by decide⟩)) |(cases x <;>first|exact .inl ⟨_,rfl,rfl⟩ |exact .inr (.inr (.inr ⟨_,rfl,by decide⟩)))
section
variable {P:Program}{F:Nat->Prop}{own:Own}{w:World}
theorem c8 {x v:Value}(h:Rel F own w (.v x) v):v=x:=by cases h;rfl
theorem LK {k:Tag}{x:k.T}{j:Nat}{s:SV}{u:Value}(h:(cellsOf k x)[j]? =some s)(hr:Rel F own w s u):qZ u=true:=by
 rcases yz h with⟨y,rfl,hy⟩ | ⟨k',l,rfl,_⟩ | ⟨k',k2,l,rfl,_⟩ | ⟨f,rfl,_⟩;grind [c8]
 cases hr <;>rfl;cases hr <;>rfl;cases hr <;>rfl
def asb (F:Nat->Prop)(own:Own)(w:World)(k:Tag)(l:List k.T)(o:Nat)(cs:Array Value):Prop:=
 ∀ (i:Nat) (x:k.T),l[i]? =some x->∀ (j:Nat) (s:SV),(cellsOf k x)[j]? =some s->∃ u,cs[o+i*aa k+j]? =some u/\Rel F own w s u
def arY (F:Nat->Prop)(own:Own)(w:World)(k:Tag)(l:List k.T)(v:Value)(bs:List Nat):Prop:=
 (∃ a,v=.slice a 0 0/\l=[]/\bs=[])\/
 ∃ b o cap cs ty,v=.slice (some ⟨b,o,none⟩) l.length cap/\bs=[b]/\w.heap[b]? =some (.cells cs ty (0,0))/\o+cap*aa k<=cs.size/\l.length<=cap/\l.length<=aI/\asb F own w k l o cs
def asJ (F:Nat->Prop)(own:Own)(w:World)(kk vk:Tag)(l:List (kk.T×vk.T))(es:Array MapEntry):Prop:=
 es.size=l.length/\∀ (i:Nat) (x:kk.T×vk.T),l[i]? =some x->∃ e,es[i]? =some e/\True/\Rel F own w (svT kk x.1) e.key/\Rel F own w (svT vk x.2) e.val
def fT (kk vk:Tag)(l:List (kk.T×vk.T)):Option (Nat×Option kk.T)->List (kk.T×vk.T)
 |some (_,some x) =>if(jy l x).isSome then l else l++[(x,fg vk)]|_=>l
theorem lJ {kk E:Tag}{l:List (kk.T×E.T)}{p:Option (Nat×Option kk.T)}(h:noE p=true):fT kk E l p=l:=by
 cases p with
 |none=>rfl
 |some q=>have⟨i,q⟩:=q;cases q with
  |none=>rfl|some x=>cases h
def lX (a:Array MapEntry):List Nat:=a.toList.map (·.born)
def Stamped (a:Array MapEntry)(b:Nat):Prop:=(lX a).Nodup/\∀ n∈lX a,n<b
def stV (a:List Nat)(b:Nat):List Value:=.int .i64 b::a.map λn=>.int .i64 (n:Nat)
def as_ (own:Own)(kk vk:Tag)(l:List (kk.T×vk.T))(es:Array MapEntry)(clock:Nat):Option (Nat×Option kk.T)->Prop
 |none=>True|some (nx,some x) =>∃ hd2 e,own nx=some hd2/\es[xO kk vk l x]? =some e/\hd2.v=.int .i64 e.born|some (nx,none) =>∃ hd2,own nx=some hd2/\hd2.vs=stV (lX es) clock
def ar1 (F:Nat->Prop)(own:Own)(w:World)(k:Tag):List (List k.T)->List Value->List Nat->Prop
 | [],[],bs=>bs=[]|l::ls,v::vs,bs=>∃ b1 b2,bs=b1++b2/\qZ v=true/\arY F own w k l v b1/\ar1 F own w k ls vs b2|_,_,_=>False
def ash (F:Nat->Prop)(own:Own)(w:World)(hd:Hd):Ob->Prop
 | .cells l=>∃ b cs ty,hd.p=some b/\hd.bs=[b]/\w.heap[b]? =some (.cells cs ty (0,0))/\cs.size=l.length/\∀ (j:Nat) (s:SV),l[j]? =some s->Rel F own w s (cs.getD j undef)| .dead=>True| .row k l=>arY F own w k l hd.v hd.bs| .mp kk vk l asE=>∃ b es clock,hd.v=.map (some b)/\hd.bs=[b]/\w.heap[b]? =some (.map es clock)/\asJ F own w kk vk (fT kk vk l asE) es/\Stamped es clock/\as_ own kk vk l es clock asE
 | .ar2 k l=>(hd.v=.slice none 0 0/\l=[]/\hd.vs=[]/\hd.bs=[])\/
   ∃ b o cap cs ty bs,hd.v=.slice (some ⟨b,o,none⟩) l.length cap/\hd.bs=b::bs/\hd.bs.Nodup/\w.heap[b]? =some (.cells cs ty (0,0))/\o+cap<=cs.size/\l.length<=cap/\l.length<=aI/\
    (∀ (i:Nat) (v:Value),hd.vs[i]? =some v->cs[o+i]? =some v)/\ar1 F own w k l hd.vs bs
 | .ab r=>hd.v=r.yv/\r.R (λb=>dA F own b/\b ∉ hd.bs) hd.bs w
 | .raw o=>∃ b,hd.p=some b/\hd.bs=[b]/\w.heap[b]? =some o| .mi mid n left cur=>∃ b,hd.p=some b/\hd.bs=[b]/\∀ i,mid=some i->∃ (hdm:Hd) (bm:Nat) (seen:Array Nat) (c:Nat) (ss:List Nat),own i=some hdm/\hdm.v=.map (some bm)/\w.heap[b]? =some (.mapIter (some bm) c seen c)/\hd.vs=stV ss c/\ss.length=n/\left.Nodup/\(∀ k,k∈left↔∃ s,ss[k]? =some s/\¬s∈seen.toList)/\∀ j,cur=some j->∃ s,ss[j]? =some s/\seen.back? =some s| .fwd n=>∀ i,n=some i->∃ hd2,own i=some hd2/\hd2.v=hd.v/\qZ hd.v=true| .fz k l=>Rel F own w (.rs k l) hd.v
variable {F':Nat->Prop}{ee:Own}{w':World}
variable {k:Tag}{l:List k.T}{cs:Array Value}
theorem asb.carry(g:asa F own w F' ee w'){o:Nat}(h:asb F own w k l o cs):asb F' ee w' k l o cs:=
 λi x hi j s E=>by have⟨u,h1,h2⟩:=h i x hi j s E;exact⟨u,h1,h2.carry g⟩
variable {v:Value}
theorem arY.carry(g:asa F own w F' ee w'){bs:List Nat}(X:∀ b∈bs,w'.heap[b]? =w.heap[b]?)(h:arY F own w k l v bs):arY F' ee w' k l v bs:=by
 rcases h with h| ⟨b,o,cap,cs,ty,h1,h2,Y,E,V,W,O⟩;exact .inl h;exact .inr ⟨b,o,cap,cs,ty,h1,h2,g6,E,V,W,O.carry g⟩
theorem ar1.carry(g:asa F own w F' ee w'):∀ {l:List (List k.T)} {vs:List Value} {bs:List Nat},(∀ b∈bs,w'.heap[b]? =w.heap[b]?)->ar1 F own w k l vs bs->ar1 F' ee w' k l vs bs
 | [],[],bs,_,h=>h
 |l::ls,v::vs,bs,O,⟨X,V,h1,Y,h2,W⟩ =>⟨X,V,h1,Y,h2.carry g λb E=>O b g6,ar1.carry g (λb E=>O b g6) W⟩
 | [],_::_,_,_,h=>h.elim|_::_,[],_,_,h=>h.elim
variable {es:Array MapEntry}
theorem asJ.carry(g:asa F own w F' ee w'){kk E:Tag}{l:List (kk.T×E.T)}(h:asJ F own w kk E l es):asJ F' ee w' kk E l es:=
 ⟨h.1,λi x hi=>by have⟨e,h1,h2,h3,h4⟩:=h.2 i x hi;exact⟨e,h1,h2,h3.carry g,h4.carry g⟩⟩
theorem as_.ids(g:∀ (id:Nat) (hd:Hd),own id=some hd->∃ hd',ee id=some hd'/\hd.like hd'){kk E:Tag}{l:List (kk.T×E.T)}{clock:Nat}{p:Option (Nat×Option kk.T)}(h:as_ own kk E l es clock p):as_ ee kk E l es clock p:=by
 cases p with
 |none=>trivial
 |some q=>
  have⟨i,q⟩:=q;cases q with
  |some x=>
   have⟨hd2,e,h1,h2,h3⟩:=h;have⟨hd',e1,e2⟩:=g _ _ h1;exact⟨hd',e,e1,h2,e2.2.1.trans h3⟩
  |none=>
   have⟨hd2,h1,h2⟩:=h;have⟨hd',e1,e2⟩:=g _ _ h1;exact⟨hd',e1,e2.2.2.trans h2⟩
theorem ash.carry (g:asa F own w F' ee w')(hsz:w.heap.size<=w'.heap.size){hd:Hd}(Y:∀ b∈hd.bs,w'.heap[b]? =w.heap[b]?){o:Ob}(h:ash F own w hd o):ash F' ee w' hd o:=by
 cases o with
 |cells l=>have⟨b,cs,ty,h1,h2,O,W,V⟩:=h;exact⟨b,cs,ty,h1,h2,g6,W,λj s hj=>(V j s hj).carry g⟩
 |dead=>trivial|row k l=>exact arY.carry g Y h
 |mp kk vk l asE=>have⟨b,es,clock,h1,h2,O,W,V,X⟩:=h;exact⟨b,es,clock,h1,h2,g6,W.carry g,V,X.ids g.ids⟩
 |ar2 k l=>
  rcases h with h| ⟨b,o,cap,cs,ty,bs,h1,h2,O,W,V,X,h7,h8,h9⟩;exact .inl h;exact .inr ⟨b,o,cap,cs,ty,bs,h1,h2,O,g6,V,X,h7,h8,h9.carry g λb' hb'=>Y b' g6⟩
 |ab r=>
  refine⟨h.1,r.loc _ _ _ w w' h.2 hsz (λb E hn=>?_) (λb E hn=>⟨?_,hn.2⟩)⟩;by_cases hm:b∈hd.bs
  exact Y b hm;exact(g.keep b E λho=>hn ⟨ho,hm⟩).2;exact aoU λho=>(g.keep b E ho).1 hn.1
 |raw o=>have⟨b,h1,h2,O⟩:=h;exact⟨b,h1,h2,g6⟩
 |mi mid n left cur=>
  have⟨b,h1,h2,O⟩:=h;refine⟨b,h1,h2,λi hi=>?_⟩;have⟨hdm,bm,seen,c,ss,k1,k2,k3,k4⟩:=O i hi;have⟨hd',e1,e2⟩:=g.ids _ _ k1;exact⟨hd',bm,seen,c,ss,e1,e2.2.1.trans k2,g6,k4⟩
 |fwd n=>
  intro i hi;have⟨hd2,k1,k2,k3⟩:=h i hi;have⟨hd',e1,e2⟩:=g.ids _ _ k1;exact⟨hd',e1,e2.2.1.trans k2,k3⟩
 |fz k l=>exact Rel.carry g h
structure Hp (F:Nat->Prop)(own:Own)(w:World)(h:List Ob):Prop where
 dom:∀ (id:Nat) (hd:Hd),own id=some hd->id<h.length
 arN:∀ b,F b->b<w.heap.size
 apart:∀ (id:Nat) (hd:Hd) (b:Nat),own id=some hd->b∈hd.bs->¬F b
 inj:∀ (i j:Nat) (hi hj:Hd) (b:Nat),own i=some hi->own j=some hj->b∈hi.bs->b∈hj.bs->i=j
 lt:∀ (id:Nat) (hd:Hd) (b:Nat),own id=some hd->b∈hd.bs->b<w.heap.size
 obs:∀ (id:Nat),d_ (ap h id)=false->∃ hd,own id=some hd/\ash F own w hd (ap h id)
variable {h:List Ob}
theorem Hp.at(O:Hp F own w h){id:Nat}{o:Ob}(E:ap h id=o)(hd:d_ o=false):∃ hd,own id=some hd/\ash F own w hd o:=by
 subst E;exact O.obs id hd
theorem Hp.upd{h':List Ob}(O:Hp F own w h)(g:aso F own w ee w')(U:Nat->Prop)(V:h.length<=h'.length)
  (same:∀ id,¬U id->ee id=own id/\ap h' id=ap h id/\∀ hd b,own id=some hd->b∈hd.bs->w'.heap[b]? =w.heap[b]?)
  (new:∀ id hd,U id->ee id=some hd->id<h'.length/\∀ b∈hd.bs,b<w'.heap.size/\¬F b/\∀ j W,j≠id->ee j=some W->b ∉ W.bs)
  (obs:∀ id,U id->d_ (ap h' id)=false->∃ hd,ee id=some hd/\ash F ee w' hd (ap h' id)):Hp F ee w' h':=by
 refine⟨λid hd h1=>?_,λb Y=>aoy (O.arN b Y) g.size,λid hd b h1 h2=>?_,λi j hi W b h1 h2 h3 h4=>?_,λid hd b h1 h2=>?_,λid hd=>?_⟩;by_cases E:U id
 grind
 rw[(same id E).1]at h1;exact aoy (O.dom id hd h1) V;by_cases E:U id
 grind
 rw[(same id E).1]at h1;exact O.apart id hd b h1 h2;by_cases X:U i
 grind
 by_cases huj:U j
 grind
 rw[(same i X).1]at h1;rw[(same j huj).1]at h2;exact O.inj i j hi W b h1 h2 h3 h4;by_cases E:U id
 grind
 rw[(same id E).1]at h1;exact aoy (O.lt id hd b h1 h2) g.size;by_cases E:U id
 grind
 have⟨e1,e2,e3⟩:=same id E;rw[e2]at hd |-;have⟨hdd,q1,q2⟩:=O.obs id hd;exact⟨hdd,g6,q2.carry g.asr g.size λb Y=>e3 hdd b q1 Y⟩
theorem Hp.asx(V:Hp F own w h)(g:aso F own w own w')(E:∀ (id:Nat) (hd:Hd) (b:Nat),own id=some hd->b∈hd.bs->w'.heap[b]? =w.heap[b]?):Hp F own w' h:=
 V.upd g (λ_=>False) (aom _) (λid _=>⟨rfl,rfl,λhd b h1 h2=>E id hd b h1 h2⟩) (λ_ _ O=>O.elim) (λ_ O=>O.elim)
theorem Hp.below(O:Hp F own w h)(E:Below w.heap.size w w'):Hp F own w' h:=
 O.asx (aso.below F own E) λid hd b h1 h2=>E.block b (O.lt id hd b h1 h2)
structure asQ (own:Own)(h:List Ob)(nx:Nat):Prop where
 none:own nx=none
 dead:ap h nx=.dead
theorem Hp.nx(O:Hp F own w h):asQ own h h.length:=by
 refine⟨?_,oz (aom _)⟩;cases E:own h.length with
 |none=>rfl|some hd=>exact absurd (O.dom _ _ E) (apt _)
def Own.set (a:Own)(b:Nat)(c:Hd):Own:=λj=>if j=b then some c else a j
theorem Own.ar_ (own:Own)(id:Nat)(hd:Hd):own.set id hd id=some hd:=by simp[Own.set]
theorem Own.asg (own:Own){id j:Nat}(hd:Hd)(h:j≠id):own.set id hd j=own j:=by simp[Own.set,h]
structure Step (F:Nat->Prop)(own:Own)(w:World)(h':List Ob)(ee:Own)(w':World):Prop where
 hp:Hp F ee w' h'
 fr:Fr { w:=w,own:=own} ee w'
 fresh:∀ id,own id=none->d_ (ap h' id)=true->ee id=none
theorem wb(Y:Hp F own w h){nx:Nat}(hn:asQ own h nx){w1:World}(hw1:w1.heap=w.heap/\w1.os=w.os/\w1.tape=w.tape/\w1.output=w.output)(o:Obj)(ob:Ob)(hd:Hd)(hbs:hd.bs=[w.heap.size])
  (hob:∀ ee:Own,aso F own w ee (w1.alloc o)->ash F ee (w1.alloc o) hd ob) (hnd:d_ ob=false:=by rfl):Step F own w (cW h nx ob) (own.set nx hd) (w1.alloc o):=by
 have⟨q1,q2,q3,q4⟩:=hw1;have hheap:(w1.alloc o).heap=w.heap.push o:=by show w1.heap.push o=_;rw[q1]
 have V:∀ b,b<w.heap.size->(w1.alloc o).heap[b]? =w.heap[b]?:=λb W=>g6
 have hsz:(w1.alloc o).heap.size=w.heap.size+1:=g6
 have ids:∀ (id:Nat) (E:Hd),own id=some E->∃ hd',own.set nx hd id=some hd'/\E.like hd':=λid E h1=>by
  have X:id≠nx:=λe=>by rw[e,hn.none]at h1;cases h1
  exact⟨E,by grind [Own.asg],.refl _⟩
 have fr:Fr { w:=w,own:=own} (own.set nx hd) (w1.alloc o):=Fr.asH ids (λid E b h1 h2=>by
   grind [Own.ar_,Own.asg]) (λb W _=>V b W) g5 q2 q3 q4
 have g:aso F own w (own.set nx hd) (w1.alloc o):=fr.asx;refine⟨Y.upd g (· =nx) (by grind [cT]) (λid O=>⟨Own.asg _ _ O,by rw[dU,if_neg (λe=>O e.symm)],λE b h1 h2=>V b (Y.lt id E b h1 h2)⟩) (λid E O h1=>?_) (λid O _=>?_),fr,λid h1 h2=>?_⟩
 rotate_left 2
 grind [dU,Own.asg]
 subst O;rw[Own.ar_]at h1;cases h1;refine⟨by grind [cT],λb W=>?_⟩;rw[hbs]at W;simp at W;subst W;refine⟨g5,λhf=>apt _ (Y.arN _ hf),λj hj X h2 h3=>?_⟩;rw[Own.asg _ _ X]at h2;exact apt _ (Y.lt j hj _ h2 h3);grind [Own.ar_,dU]
theorem q_(W:Hp F own w h){id:Nat}{hd:Hd}(h1:own id=some hd){b:Nat}(hb:b∈hd.bs)(hsz:w'.heap.size=w.heap.size)(O:∀ k,k≠b->w'.heap[k]? =w.heap[k]?)(q2:w'.os=w.os)(q3:w'.tape=w.tape)(q4:w'.output=w.output)(ob:Ob)
  (hob:aso F own w own w'->ash F own w' hd ob):Step F own w (cW h id ob) own w':=by
 have hlt:=W.dom id hd h1;have fr:Fr { w:=w,own:=own} own w':=Fr.asH (λ_ E h=>⟨E,h,.refl _⟩) (λid E b h1 h2=>.inl ⟨id,E,h1,h2⟩) (λk _ hn=>O k λe=>hn ⟨id,hd,h1,e▸hb⟩) g5 q2 q3 q4;refine⟨W.upd fr.asx (· =id) (by rw[cT,if_pos hlt];omega) (λj X=>⟨rfl,by rw[dU,if_neg (λe=>X e.symm)],λE Y h2 h3=>O Y λe=>X (W.inj j id E hd Y h2 h1 h3 (e▸hb))⟩) (λj E X h2=>?_) (λj X _=>?_),fr,λ_ h1 _=>h1⟩;subst X;rw[h1]at h2;cases h2;exact⟨by simp_all [cT],λY V=>⟨by rw[hsz];exact W.lt j hd Y h1 V,W.apart j hd Y h1 V,λi hi hne h3 h4=>hne (W.inj i j hi hd Y h3 h1 h4 V)⟩⟩;subst X;refine⟨hd,h1,?_⟩;rw[dU,if_pos rfl];exact hob fr.asx
theorem J5(V:Hp F own w h){id:Nat}{hd:Hd}(h1:own id=some hd)(ob:Ob)(hob:ash F own w hd ob):Step F own w (cW h id ob) own w:=by
 have hlt:=V.dom id hd h1;have fr:Fr { w:=w,own:=own} own w:=Fr.asH (λ_ E h=>⟨E,h,.refl _⟩) (λid E b h1 h2=>.inl ⟨id,E,h1,h2⟩) (λ_ _ _=>rfl) (aom _) rfl rfl rfl;refine⟨V.upd fr.asx (· =id) (by rw[cT,if_pos hlt];omega) (λj W=>⟨rfl,by rw[dU,if_neg (λe=>W e.symm)],λ_ _ _ _=>rfl⟩) (λj E W h2=>?_) (λj W _=>?_),fr,λ_ h1 _=>h1⟩;subst W;rw[h1]at h2;cases h2;exact⟨by simp_all [cT],λX O=>⟨V.lt j hd X h1 O,V.apart j hd X h1 O,λi hi Y h3 h4=>Y (V.inj i j hi hd X h3 h1 h4 O)⟩⟩;simp_all [dU]
theorem S5 {O E:List Nat}{c V:Nat}(h:stV O c=stV E V):c=V/\O=E:=by
 unfold stV at h;simp[apS,Value.int.injEq]at h;refine⟨g5,?_⟩;induction O generalizing E with
 |nil=>simp_all|cons a r W=>cases E <;>grind
variable {t:TypeId}{ti:TI}
theorem ce(h:ku P t=some ti):∃ i d z,P.info? t=some i/\P.underlying t=some d/\i.zero=some z/\Bq P d=true/\ti=eK P t i d:=by
 unfold ku at h;split at h
 rename_i i d hi hd;cases E:i.zero <;>grind;cases h
theorem eb{i:TypeInfo}(h:P.info? t=some i):(sizeOf t).run P w=.ok i.size w:=by
 simp[sizeOf,typeInfo,h]
theorem zt{d:TypeDesc}(h:P.underlying t=some d):(isAgg t).run P w=.ok (lI P t) w:=by
 simp[isAgg,aoT,run_underlying h,lI,h];cases d <;>simp
theorem oZ (b o n:Nat):Addr.add ⟨b,o,none⟩ n=⟨b,o+n,none⟩:=by grind [Addr.add]
variable {ty:TypeId}
theorem fh{b:Nat}{fr:Nat×Nat}(h:w.heap[b]? =some (.cells cs ty fr))(j:Nat):w.cell? ⟨b,j,none⟩=cs[j]?:=by
 simp[World.cell?,h]
theorem Gj{b:Nat}(h:w.heap[b]? =some (.cells cs ty (0,0)))(j:Nat):w.frozen? ⟨b,j,none⟩=false:=by
 simp[World.frozen?,h]
variable {s':SV}
theorem BD(V:ku P t=some ti){l:List SV}{b o off:Nat}(c:Nat->Value)
  (hc:∀ (j:Nat) (s:SV),l[j]? =some s->w.cell? ⟨b,o+j,none⟩=some (c j)/\Rel F own w s (c j))  (E:sQ ti.agg ti.size l off=some s'):
  ∃ u,(loadVar t ⟨b,o+off,none⟩).run P w=.ok u w/\Rel F own w s' u:=by
 obtain⟨i,d,z,hi,hd,hz,hq,rfl⟩:=ce V;simp[eK]at E;simp[loadVar,aoT,zt hd];cases X:lI P t with
 |true=>
  simp[sQ,X,se,LJ,Fv]at E;cases O:Nat.ble (off+i.size) l.length with
  |false=>grind
  |true=>
   simp[O,cond_true,aoo]at E;subst E;have Y:off+i.size<=l.length:=nbl O;simp[if_true,aoT,eb hi,aoW];rw[run_loadCells w ⟨b,o+off,none⟩ i.size (λj=>c (off+j)) (λj W=>by
    have:=(hc (off+j) _ (aov g5)).1;grind [oZ])]
   refine⟨_,rfl,.agg (by simp;omega) λj s W=>?_⟩;simp_all <;>grind
 |false=>
  simp_all [sQ,iu]
theorem wZ {o:Option SV}{s:SV}(h:v9 o=.val s):o=some s:=by
 cases o with
 |none=>simp[v9]at h|some x=>grind [v9]
theorem uk {α:Type}{l:List α}{i:Nat}{d:α}(h:i<l.length):l[i]? =some (l.getD i d):=g6
theorem asb.get{o:Nat}(h:asb F own w k l o cs){i:Nat}(hi:i<l.length){j:Nat}{s:SV}(E:(cellsOf k (l.getD i (fg k)))[j]? =some s):
  cs[o+i*aa k+j]? =some (cs.getD (o+i*aa k+j) undef)/\Rel F own w s (cs.getD (o+i*aa k+j) undef):=by
 have⟨u,h1,h2⟩:=h i _ (uk hi) j s E;simp_all
theorem ar1.get:∀ {l:List (List k.T)} {vs:List Value} {bs:List Nat} {i:Nat} {v:Value},ar1 F own w k l vs bs->vs[i]? =some v->∃ E,qZ v=true/\i<l.length/\arY F own w k (l.getD i []) v E/\∀ b∈E,b∈bs
 | [],[],bs,i,v,_,h=>by simp at h
 |l::ls,u::vs,bs,0,v,⟨E,b2,h1,h0,h2,h3⟩,h=>g6
 |l::ls,u::vs,bs,i+1,v,⟨E,b2,h1,h0,h2,h3⟩,h=>by
  obtain⟨O,X,V,W,Y⟩:=ar1.get h3 (by simpa using h);grind
 | [],_::_,_,_,_,h,_=>h.elim|_::_,[],_,_,_,h,_=>h.elim
theorem ar1.len:∀ {l:List (List k.T)} {vs:List Value} {bs:List Nat},ar1 F own w k l vs bs->vs.length=l.length
 | [],[],_,_=>rfl
 |l::O,u::vs,bs,⟨W,V,h1,X,h2,E⟩ =>by simp[ar1.len E]
 | [],_::_,_,h=>h.elim|_::_,[],_,h=>h.elim
theorem N4(hp:Hp F own w h)(ht:ku P t=some ti){s:SV}(hr:Rel F own w s v)(E:tq ti h s=.val s'):
  ∃ u,(Instr.loadAt t v).run P w=.ok u w/\Rel F own w s' u:=by
 cases hr with
 |ptr h1 h2=>
  rename_i id off b hd;simp[tq]at E;cases V:ap h id with
  |cells l=>
   rw[V]at E;have O:=wZ E;have⟨hd',e0,b',cs,ty,X,e2,e3,e4,e5⟩:=hp.at V rfl;rw[h1]at e0;cases e0;rw[h2]at X;cases X;have:=BD (P:=P) (w:=w) (F:=F) (own:=own) (b:=b) (o:=0) (off:=off) ht (λj=>cs.getD j undef) (λj s hj=>by
    refine⟨?_,e5 j s hj⟩;have hjl:j<cs.size:=g6
    rw[fh e3];simp[hjl]) O
   grind [Instr.loadAt,Instr.sureAddr]
  |_=>rw[V]at E;simp[Bu]at E
 |ep c h1 h2=>
  rename_i cells off b o;have O:=wZ E;have:=BD (P:=P) (w:=w) (F:=F) (own:=own) (b:=b) (o:=o) (off:=off) ht c (λj s hj=>⟨(h1 j s hj).2,h2 j s hj⟩) O;grind [Instr.loadAt,Instr.sureAddr]
 |rp h1 h2 h3=>
  rename_i W id off n cap b o i hd;simp[tq]at E;cases V:ap h id with
  |row k l=>
   rw[V]at E;simp[FZ]at E;cases Y:Nat.beq W (aa k)with
   |false=>grind
   |true=>
    rw[Y]at E;have hsz:=aok Y;have O:=wZ E;have⟨hd',e0,e⟩:=hp.at V rfl;rw[h1]at e0;cases e0;rcases e with⟨a,X,_⟩ | ⟨b',o',cap',cs,ty,X,e2,e3,e4,e5,e6,e7⟩;grind
    rw[h2]at X;obtain⟨⟨rfl,rfl,_⟩,rfl,rfl⟩:=X;have:=BD (P:=P) (w:=w) (F:=F) (own:=own) (b:=b) (o:=o+i.toNat*W) (off:=off) ht (λj=>cs.getD (o+i.toNat*aa k+j) undef) (λj s hj=>by
     have:=e7.get h3 hj;grind [fh]) O
    grind [Instr.loadAt,Instr.sureAddr]
  |ar2 k l=>
   rw[V]at E;simp[FZ]at E;cases Y:Nat.beq W 1&&Nat.beq off 0&& !ti.agg with
   |false=>grind
   |true=>
    rw[Y]at E;simp[aoj,aox]at Y;simp[cond_true,OR.val.injEq]at E;subst E;have⟨hd',e0,e⟩:=hp.at V rfl;rw[h1]at e0;cases e0;rcases e with⟨X,_⟩ | ⟨b',o',cap',cs,ty,bs,X,e2,e3,e4,e5,e6,e7,e8,e9⟩;grind
    rw[h2]at X;simp[aqw]at X;have hlen:=e9.len;have hv:hd.vs[i.toNat]? =some (hd.vs.getD i.toNat undef):=uk g5;have⟨b1,q1,q2,q3,q4⟩:=e9.get hv;refine⟨_,?_,.gr h1 hv q1⟩;obtain⟨i',d,z,hi,hdd,hz,hq,rfl⟩:=ce ht;have hcell:w.cell? ⟨b,o+i.toNat,none⟩=some (hd.vs.getD i.toNat undef):=by grind [fh]
    have hag:lI P t=false:=Y.2;simp_all [Instr.loadAt,Instr.sureAddr,loadVar,zt]
  |_=>rw[V]at E;simp[FZ]at E
 |gp h1 h2 h3=>
  rename_i W id off n cap b o i j hd;simp[tq]at E;cases V:ap h id with
  |ar2 k l=>
   rw[V]at E;simp[CV]at E;cases Y:Nat.beq W (aa k)with
   |false=>grind
   |true=>
    rw[Y]at E;have hsz:=aok Y;have O:=wZ E;have⟨hd',e0,e⟩:=hp.at V rfl;rw[h1]at e0;cases e0;rcases e with⟨_,_,X,_⟩ | ⟨b',o',cap',cs,ty,bs,X,e2,e3,e4,e5,e6,e7,e8,e9⟩;grind
    have⟨b1,q1,q2,q3,q4⟩:=e9.get h2;rcases q3 with⟨a,k1,_⟩ | ⟨b2,o2,cap2,cs2,ty2,k1,k2,k3,k4,k5,k6,k7⟩;grind
    obtain⟨⟨rfl,rfl,_⟩,rfl,rfl⟩:=k1;have:=BD (P:=P) (w:=w) (F:=F) (own:=own) (b:=b) (o:=o+j.toNat*W) (off:=off) ht (λq=>cs2.getD (o+j.toNat*aa k+q) undef) (λq s hj=>by
     have:=k7.get h3 hj;grind [fh]) O
    grind [Instr.loadAt,Instr.sureAddr]
  |_=>rw[V]at E;simp[CV]at E
 |_=>simp[tq]at E
variable {f:Nat}
theorem S6(E:ku P t=some ti){x:Nat×Nat×Bool}(O:nth ti.fields f=some x):
  ∃ fs fd,P.underlying t=some (.struct fs)/\fs[f]? =some fd/\x=(fd.offset,pm P fd.type,lI P fd.type):=by
 obtain⟨i,d,z,hi,hd,W,V,rfl⟩:=ce E;simp[eK,iu]at O;grind
theorem aaE{s:SV}{n:Nat}(hr:Rel F own w s v)(h:CW n s=.val s'):
  ∃ b o,v=.pointer (some ⟨b,o,none⟩)/\Rel F own w s' (.pointer (some ⟨b,o+n,none⟩)):=by
 cases hr with
 |ptr h1 h2=>simp[CW,OR.val.injEq]at h;subst h;exact⟨_,_,rfl,.ptr h1 h2⟩
 |ep c h1 h2=>simp[CW,OR.val.injEq]at h;subst h;exact⟨_,_,rfl,by rw[apI];exact .ep c h1 h2⟩
 |rp h1 h2 E=>simp[CW,OR.val.injEq]at h;subst h;exact⟨_,_,rfl,by rw[apI];exact .rp h1 h2 E⟩
 |gp h1 h2 E=>simp[CW,OR.val.injEq]at h;subst h;exact⟨_,_,rfl,by rw[apI];exact .gp h1 h2 E⟩
 |_=>simp[CW]at h
theorem LL(O:ku P t=some ti){o n:Nat}{g:Bool}(W:nth ti.fields f=some (o,n,g))(hn:1<=n){s:SV}
  (hr:Rel F own w s v) (h:CW o s=.val s'):∃ u,(Instr.fieldAt t v f).run P w=.ok u w/\Rel F own w s' u:=by
 have⟨fs,fd,hu,hfd,he⟩:=S6 O W;obtain⟨b,q,rfl,V⟩:=aaE hr h;obtain⟨rfl,rfl,rfl⟩:=he;refine⟨_,?_,V⟩;have E:(sizeOf fd.type).run P w=.ok (pm P fd.type) w:=by
  grind [pm,eb]
 simp[Instr.fieldAt,aoT,run_underlying hu,aoW,hfd,Instr.sureAddr,aqx,fieldPlace,E];rw[if_neg g5];simp[oZ]
theorem Uv(ht:ku P t=some ti){s:SV}(hr:Rel F own w s v)(h:ue (nth ti.fields f) (I4 s)=.val s'):
  ∃ u,(Instr.field t v f).run P w=.ok u w/\Rel F own w s' u:=by
 cases Y:nth ti.fields f with
 |none=>grind [ue]
 |some x=>
  have⟨fs,fd,hu,hfd,he⟩:=S6 ht Y;obtain⟨rfl,rfl,rfl⟩:=he;obtain⟨i,d,z,hi,hd,hz,hq,rfl⟩:=ce ht;have W:(P.info? fd.type).isSome/\(P.underlying fd.type).isSome:=by
   simp[Bq]at hq;grind
  have⟨fi,hfi⟩:=aqj.1 W.1;have⟨fd',hfu⟩:=aqj.1 W.2;have key:∀ (l:List SV) (vs:Array Value),vs.size=l.length->(∀ (j:Nat) (s:SV),l[j]? =some s->Rel F own w s (vs.getD j undef))->ue (some (fd.offset,pm P fd.type,lI P fd.type)) (some l)=.val s'->
    ∃ u,(part fd.type vs fd.offset).run P w=.ok u w/\Rel F own w s' u:=by
   intro l vs hl V O;simp[ue]at O;cases E:sQ (lI P fd.type) (pm P fd.type) l fd.offset with
   |none=>grind [v9]
   |some q=>
    simp[E,v9,OR.val.injEq]at O;subst O;simp[pm,hfi]at E;simp[part,aoT,zt hfu,aoW];cases ha:lI P fd.type with
    |true=>
     simp[sQ,ha,se,LJ,Fv]at E;cases hb:Nat.ble (fd.offset+fi.size) l.length with
     |false=>grind
     |true=>
      simp[hb,cond_true,aoo]at E;subst E;simp only[if_true,aoT,eb hfi];refine⟨_,rfl,.agg (by simp;omega) λj s X=>?_⟩;simp_all <;>grind
    |false=>
     simp[sQ,ha,iu]at E;have h1:=V _ _ E;have hlt:fd.offset<vs.size:=g6
     refine⟨vs.getD fd.offset undef,?_,h1⟩;simp[hlt]
  cases hr with
  |agg h0 h1=>
   rw[Y]at h;have⟨u,hu,hru⟩:=key _ _ h0 h1 h;simp_all [Instr.field,run_underlying,asAgg]
  |v x=>
   cases v with
   |agg cs=>
    rw[Y]at h;have⟨u,hu,hru⟩:=key (cs.toList.map .v) cs (by simp) (λj s X=>by
     simp at X;obtain⟨z,hz,rfl⟩:=X;simp[hz];exact .v _) h
    simp_all [Instr.field,run_underlying,asAgg]
   |_=>simp[I4,ue]at h
  |_=>simp[I4,ue]at h
end
section
variable {P:Program}{F:Nat->Prop}{own:Own}{w:World}
def vn (k:IntKind)(n:Int):(asIntOf (.int k n)).run P w=.ok (k,n) w:=rfl
variable {t e:TypeId}{E:TypeInfo}{o:Nat}{k:IntKind}
theorem sf(hd:P.underlying t=some (.slice e))(O:P.info? e=some E){b n cap:Nat}{i:Int}(V:0<=i)(h1:i.toNat<n):
  (Instr.indexAt t (.slice (some ⟨b,o,none⟩) n cap) (.int k i)).run P w=.ok (.pointer (some ⟨b,o+i.toNat*E.size,none⟩)) w:=by
 simp[Instr.indexAt,aoT,vn,aoW,run_underlying hd];simp_all [eb,oZ]
theorem C0{len:Nat}(hd:P.underlying t=some (.array len e))(O:P.info? e=some E){b:Nat}{i:Int}(hc:0<=i/\i< (len:Int)):
  (Instr.indexAt t (.pointer (some ⟨b,o,none⟩)) (.int k i)).run P w=.ok (.pointer (some ⟨b,o+i.toNat*E.size,none⟩)) w:=by
 simp[Instr.indexAt,aoT,vn,aoW,run_underlying hd,Instr.sureAddr];simp_all [eb,oZ]
theorem Uw{h:List Ob}(hp:Hp F own w h){ti te:TI}(ht:ku P t=some ti)(hte:ku P ti.elem=some te){s si:SV}{v vi:Value}{r:OR}
  (hr:Rel F own w s v) (hri:Rel F own w si vi) (O:jk ti te.size h s si=r) (W:r≠ .bad):
  ∃ c s',r=.chk c s'/\(c->∃ u,(Instr.indexAt t v vi).run P w=.ok u w/\Rel F own w s' u):=by
 obtain⟨i,d,z,hi,hd,hz,hq,rfl⟩:=ce ht;obtain⟨ie,de,ze,hie,hde,hze,hqe,hte'⟩:=ce hte;have hes:te.size=ie.size:=by rw[hte'];rfl
 have key:∀ k n,si=.v (.int k n)->∃ c s',r=.chk c s'/\(c->∃ u,(Instr.indexAt t v (.int k n)).run P w=.ok u w/\Rel F own w s' u):=by
  rintro k n rfl;have slice:(eK P t i d).isSlice=true->∃ e,d=.slice e/\P.info? e=some ie:=λhs=>by
   cases d <;>simp[eK]at hs;grind [eK]
  have arr:(eK P t i d).asF=true->∃ len e,d=.array len e/\P.info? e=some ie/\(eK P t i d).len=len:=λhs=>by
   cases d <;>simp[eK]at hs;grind [eK]
  cases hr with
  |rs cf h0 h0' h1 h2=>
   rename_i Y l b o cap;simp[jk]at O;cases V:(eK P t i d).isSlice&&Nat.beq te.size (aa Y)with
   |false=>grind
   |true=>
    rw[V]at O;simp only[aoj]at V;obtain⟨e,rfl,E⟩:=slice V.1;have hsz:te.size=aa Y:=aok V.2;refine⟨_,_,O.symm,λhc=>⟨_,sf hd E hc.1 g5,?_⟩⟩;have hlt:n.toNat<l.length:=g5
    have:=Rel.ep (F:=F) (own:=own) (w:=w) (cells:=cellsOf Y (l.getD n.toNat (fg Y))) (off:=0) (b:=b) (o:=o+n.toNat*aa Y) (cf n.toNat)
     (λj s hj=>h1 n.toNat _ (uk hlt) j s hj) (λj s hj=>h2 n.toNat _ (uk hlt) j s hj)
    grind
  |rs0=>
   simp[jk]at O;grind
  |os h1 h2=>
   rename_i id hdd;simp[jk]at O;cases V:(eK P t i d).isSlice with
   |false=>grind
   |true=>
    obtain⟨e,rfl,E⟩:=slice V;cases ho:ap h id with
    |row Y l=>
     rw[ho]at O;simp[Lt]at O;cases X:Nat.beq te.size (aa Y)with
     |false=>grind
     |true=>
      rw[X]at O;have⟨hd',e0,e1⟩:=hp.at ho rfl;rw[h1]at e0;cases e0;refine⟨_,_,O.symm,λhc=>?_⟩;rcases e1 with⟨a,q1,rfl,_⟩ | ⟨b,o,cap,cs,ty,q1,q2,q3,q4,q5,q6,q7⟩;grind
      rw[q1];refine⟨_,sf hd E hc.1 g5,?_⟩;have:=Rel.rp (F:=F) (own:=own) (w:=w) (sz:=te.size) (off:=0) (i:=n) h1 q1 g5;grind
    |ar2 Y l=>
     rw[ho]at O;simp[Lt]at O;cases X:Nat.beq te.size 1 with
     |false=>grind
     |true=>
      rw[X]at O;have hsz:=aok X;have⟨hd',e0,e1⟩:=hp.at ho rfl;rw[h1]at e0;cases e0;refine⟨_,_,O.symm,λhc=>?_⟩;rcases e1 with⟨q1,rfl,_⟩ | ⟨b,o,cap,cs,ty,bs,q1,q2,q3,q4,q5,q6,q7,q8,q9⟩;grind
      rw[q1];refine⟨_,sf hd E hc.1 g5,?_⟩;have:=Rel.rp (F:=F) (own:=own) (w:=w) (sz:=1) (off:=0) (i:=n) h1 q1 g5;grind
    |_=>rw[ho]at O;exact absurd O.symm W
  |gr h1 h2 h3=>
   rename_i id q hdd;simp[jk]at O;cases V:(eK P t i d).isSlice with
   |false=>grind
   |true=>
    obtain⟨e,rfl,E⟩:=slice V;cases ho:ap h id with
    |ar2 Y l=>
     rw[ho]at O;simp only[QH]at O;cases X:Nat.beq te.size (aa Y)with
     |false=>grind
     |true=>
      rw[X]at O;have⟨hd',e0,e1⟩:=hp.at ho rfl;rw[h1]at e0;cases e0;refine⟨_,_,O.symm,λhc=>?_⟩;rcases e1 with⟨_,_,q1,_⟩ | ⟨b,o,cap,cs,ty,bs,q1,q2,q3,q4,q5,q6,q7,q8,q9⟩;grind
      have⟨b1,k1,k2,k3,k4⟩:=q9.get h2;rcases k3 with⟨a,m1,m2,_⟩ | ⟨b2,o2,cap2,cs2,ty2,m1,m2,m3,m4,m5,m6,m7⟩;grind
      subst m1;refine⟨_,sf hd E hc.1 g5,?_⟩;have:=Rel.gp (F:=F) (own:=own) (w:=w) (sz:=te.size) (off:=0) (i:=q) (j:=n) h1 h2 g5;grind
    |_=>rw[ho]at O;exact absurd O.symm W
  |ls cf hz h0 h1 h2=>
   rename_i s m l b o cap;simp[jk]at O;cases V:(eK P t i d).isSlice&&Nat.beq te.size s with
   |false=>grind
   |true=>
    rw[V]at O;simp only[aoj]at V;obtain⟨e,rfl,E⟩:=slice V.1;have hsz:=aok V.2;unfold QI at O;cases hx:Nat.ble 1 s&&Nat.ble (n.toNat*s+s) (sz l)with
    |false=>rw[hx]at O;exact absurd O.symm W
    |true=>
     rw[hx]at O;simp only[aoj,se]at hx;have g1:=nbl hx.1;have g2:=nbl hx.2;have hlt:n.toNat<m:=Nat.lt_of_mul_lt_mul_right (a:=s) g5;refine⟨_,_,O.symm,λhc=>⟨_,sf hd E hc hlt,?_⟩⟩;have:=Rel.ep (F:=F) (own:=own) (w:=w) (cells:=l) (off:=n.toNat*s) (b:=b) (o:=o) cf h1 h2;grind
  |ptr h1 h2=>
   simp[jk]at O;cases V:(eK P t i d).asF with
   |false=>grind
   |true=>
    obtain⟨len,e,rfl,E,hl⟩:=arr V;exact⟨_,_,O.symm,λhc=>⟨_,C0 hd E hc,by rw[<-hes];exact .ptr h1 h2⟩⟩
  |ep cf h1 h2=>
   simp[jk]at O;cases V:(eK P t i d).asF with
   |false=>grind
   |true=>
    obtain⟨len,e,rfl,E,hl⟩:=arr V;exact⟨_,_,O.symm,λhc=>⟨_,C0 hd E hc,by rw[<-hes,apI];exact .ep cf h1 h2⟩⟩
  |rp h1 h2 h3=>
   simp[jk]at O;cases V:(eK P t i d).asF with
   |false=>grind
   |true=>
    obtain⟨len,e,rfl,E,hl⟩:=arr V;exact⟨_,_,O.symm,λhc=>⟨_,C0 hd E hc,by rw[<-hes,apI];exact .rp h1 h2 h3⟩⟩
  |_=>simp only[jk]at O;exact absurd O.symm W
 cases hri with
 |v=>
  cases vi with
  |int k n=>grind
  |_=>cases s <;>first|(simp only[jk]at O;exact absurd O.symm W) |(exact absurd O.symm W)
 |_=>cases s <;>first|(simp only[jk]at O;exact absurd O.symm W) |(exact absurd O.symm W)
variable {k':IntKind}
theorem QV(h:Nat.beq (kN k) (kN k')=true):k=k':=by
 cases k <;>cases k' <;>simp[kN]at h <;>rfl
theorem N5{op:BinOp}(h:D9 op k k'=true)(h1:op≠ .shl)(h2:op≠ .shr):k=k':=by
 cases op <;>simp only[D9]at h <;>first|exact QV h|exact absurd rfl h1|grind
variable {a:Int}{ty:TypeId}
theorem Ux{op:BinOp}{b:Int}{s:SV}(E:D9 op k k'=true)(h:v8 op k a b=.val s):∃ u,(binOp op ty (.int k a) (.int k' b)).run P w=.ok u w/\s=.v u:=by
 by_cases h1:op=.shl
 grind [v8]
 by_cases h2:op=.shr
 grind [v8]
 obtain rfl:=N5 E h1 h2;cases op <;>simp[v8]at h <;>subst h <;>exact⟨_,by simp[binOp,Op.intArith,Op.intCmp,Op.intBits,aix,orI,aiy,SO],rfl⟩
theorem Uy{op:BinOp}{b:Int}{s:SV}{c:Prop}(O:D9 op k k'=true)(h:v8 op k a b=.chk c s)(hc:c):∃ u,(binOp op ty (.int k a) (.int k' b)).run P w=.ok u w/\s=.v u:=by
 by_cases E:op=.shr
 subst E;simp only[v8,OR.chk.injEq]at h;have⟨rfl,rfl⟩:=h;simp[binOp];unfold Op.shift;rw[if_neg (Int.not_lt.2 hc)];rfl;by_cases h1:op=.shl
 subst h1;simp only[v8,OR.chk.injEq]at h;have⟨rfl,rfl⟩:=h;simp[binOp];unfold Op.shift;rw[if_neg (Int.not_lt.2 hc)];rfl;obtain rfl:=N5 O h1 E;cases op <;>simp only[v8,reduceCtorEq]at h <;>first|exact absurd rfl E|exact absurd rfl h1|(obtain⟨rfl,rfl⟩:=h;exact⟨_,by simp[binOp,Op.intDiv,hc],rfl⟩)
theorem wc {k k':Tag}(h:Nat.beq (Bk k) (Bk k')=true):k=k':=by
 have h':=aok h;cases k <;>cases k' <;>first|rfl|(simp[Bk]at h';done)
theorem Ec (op:BinOp)(t:TypeId)(x y:Operand)(k k':IntKind)(a b:Int):(eqGuard op t x y (.int k a) (.int k' b)).run P w=.ok () w:=by
 simp_all [eqGuard]
theorem QW{op:BinOp}{b:Int}{r:OR}(h:adC op (.v (.int k a)) (.v (.int k' b))=r)(hr:r≠ .bad):D9 op k k'=true/\r=v8 op k a b:=by
 grind [adC]
end
def ar7 (F:Nat->Prop)(b:Own)(w:World)(l:List SV)(a:Array Value):Prop:=a.size=l.length/\∀ (j:Nat) (s:SV),l[j]? =some s->Rel F b w s (a.getD j undef)
section
variable {P:Program}{F:Nat->Prop}{own:Own}{w:World}
theorem J6 (off:Nat):∀ (l:List Value) (k:Nat) (cs:Array Value),off+k+l.length<=cs.size->
  ((l.zipIdx k).foldl (λ(cs:Array Value) (x:Value×Nat) =>cs.setIfInBounds (off+x.2) x.1) cs).size=cs.size/\
  ∀ j,((l.zipIdx k).foldl (λ(cs:Array Value) (x:Value×Nat) =>cs.setIfInBounds (off+x.2) x.1) cs)[j]? =if off+k<=j/\j<off+k+l.length then l[j - off - k]? else cs[j]?
 | [],k,cs,_=>by
  simp_all [if_neg]
 |x::xs,k,cs,h=>by
  simp[aon]at h;have⟨h1,h2⟩:=J6 off xs (k+1) (cs.setIfInBounds (off+k) x) (by simp;omega);simp[List.zipIdx_cons];grind
theorem N6 (v:Value)(off:Nat)(cs:Array Value)(h:off+v.cells.size<=cs.size):
  (v.cells.zipIdx.foldl (λcs (c,j) =>cs.setIfInBounds (off+j) c) cs).size=cs.size/\
  ∀ j,(v.cells.zipIdx.foldl (λcs (c,j) =>cs.setIfInBounds (off+j) c) cs)[j]? =if off<=j/\j<off+v.cells.size then v.cells[j - off]? else cs[j]?:=by
 have:=J6 off v.cells.toList 0 cs (by simpa using h);grind [Array.toList_zipIdx]
theorem vo {vs ws:Array Value}{i j:Nat}(h:vs[i]? =ws[j]?):vs.getD i undef=ws.getD j undef:=by
 simp_all
theorem Fx {E place':Nat->Option (Nat×Nat)}(hpl:∀ i,place' i=E i):∀ (W:List (Nat×SV)) (vps:List (Nat×Value)) (cells l:List SV) (vs:Array Value),ar7 F own w cells vs->
  (W.map (·.1)=vps.map (·.1))->(∀ (j:Nat) (x:Nat×SV) (y:Nat×Value),W[j]? =some x->vps[j]? =some y->Rel F own w x.2 y.2)->mY E cells W=some l->
  ∃ V,Instr.fill place' vs vps=some V/\ar7 F own w l V
 | [],[],cells,l,vs,hr,_,_,h=>by
  simp[mY]at h;subst h;exact⟨vs,rfl,hr⟩
 | [],_::_,_,_,_,_,h,_,_=>by simp at h
 |_::_,[],_,_,_,_,h,_,_=>by simp at h
 |(i,s)::W,(i',v)::vps,cells,l,vs,hr,X,O,h=>by
  simp[aoO,apS]at X;have⟨rfl,X⟩:=X;have h0:Rel F own w s v:=O 0 _ _ rfl rfl;simp[mY]at h;cases hp:E i with
  |none=>grind
  |some os=>
   have⟨off,size⟩:=os;cases hf:qQ s with
   |none=>grind
   |some xs=>
    simp[hp,hf]at h;cases Y:Nat.beq (sz xs) size&&Nat.ble (off+size) (sz cells)with
    |false=>grind
    |true=>
     rw[Y]at h;simp only[aoj,se]at Y;have e1:xs.length=size:=aok Y.1;have e2:off+size<=cells.length:=nbl Y.2;have⟨f1,f2⟩:=Gi h0 hf;have hle:off+v.cells.size<=vs.size:=by rw[hr.1];omega
     have⟨g1,g2⟩:=N6 v off vs hle;have hr':ar7 F own w (iG cells off xs) (v.cells.zipIdx.foldl (λcs (c,j) =>cs.setIfInBounds (off+j) c) vs):=by
      refine⟨by rw[g1,oY];exact hr.1,λj x hj=>?_⟩;rw[p9 _ _ _ g5]at hj;by_cases hjr:off<=j/\j<off+xs.length
      simp_all;rw[if_neg hjr]at hj;have:=hr.2 _ _ hj;simp_all [if_neg]
     have⟨V,q1,q2⟩:=Fx hpl W vps _ l _ hr' X (λj x y hx hy=>O (j+1) x y hx hy) h;simp_all [Instr.fill]
theorem p_ {k:Kd}{s:SV}{v:Value}(h:Rel F own w s v):Rel F own w (NM k s) v:=by
 unfold NM;split;have:=c8 h;subst this;exact .rs0;cases h;exact .rs0;have:=c8 h;subst this;exact .rm0;exact h
theorem BE:∀ (ks:List Kd) (l:List SV),(AE ks l).length=l.length
 | [],l=>by simp[AE]
 |k::ks,[] =>by simp[AE]
 |k::ks,s::r=>by simp[AE,BE ks r]
theorem wd:∀ (ks:List Kd) (l:List SV) (j:Nat) (s:SV),(AE ks l)[j]? =some s->∃ s0,l[j]? =some s0/\(s=s0\/∃ k,s=NM k s0)
 | [],l,j,s,h=>⟨s,by grind [AE],.inl rfl⟩
 |k::ks,[],j,s,h=>by simp[AE]at h
 |k::ks,x::r,0,s,h=>by grind [AE]
 |k::ks,x::r,j+1,s,h=>by simpa using wd ks r j s h
variable {l:List SV}
theorem ar7.nrm{ks:List Kd}{vs:Array Value}(h:ar7 F own w l vs):ar7 F own w (AE ks l) vs:=
 ⟨by rw[BE];exact h.1,λj s V=>by
  obtain⟨s0,O,E| ⟨k,E⟩⟩:=wd _ _ _ _ V;subst E;exact h.2 j _ O;subst E;exact p_ (h.2 j _ O)⟩
theorem J7 {E:Nat->Option (Nat×Nat)}:∀ (O:List (Nat×SV)) (cells l:List SV),mY E cells O=some l->l.length=cells.length
 | [],cells,l,h=>by grind [mY]
 |(i,v)::O,cells,l,h=>by
  simp[mY]at h;split at h
  rename_i off size vs _ _;cases V:Nat.beq (sz vs) size&&Nat.ble (off+size) (sz cells)with
  |false=>grind|true=>rw[V]at h;rw[J7 O _ _ h,oY]
  cases h
theorem zu (v:Value):ar7 F own w (svs v) v.cells:=by
 refine⟨by simp[svs],λj s E=>?_⟩;simp[svs]at E;obtain⟨z,O,rfl⟩:=E;simp[O];exact .v _
theorem N7 {fs:List Field}:(fs.all λf=>(P.info? f.type).isSome&&(P.underlying f.type).isSome)=true->
  fs.mapM (λf=>(P.info? f.type).map λi=>(f.offset,i.size))=some (fs.map λf=>(f.offset,pm P f.type)):=by
 induction fs with
 |nil=>intro _;rfl
 |cons f fs E=>
  grind [pm]
variable {t:TypeId}{ti:TI}
theorem WD(ht:ku P t=some ti){V:List (Nat×SV)}{vps:Array (Nat×Value)}(hm:V.map (·.1)=vps.toList.map (·.1))
  (O:∀ (j:Nat) (x:Nat×SV) (y:Nat×Value),V[j]? =some x->vps.toList[j]? =some y->Rel F own w x.2 y.2)
  (h:(ti.asF=true/\∃ te,ku P ti.elem=some te/\mY (λi=>some (i*te.size,te.size)) ti.zero V=some l)\/
     (ti.asF=false/\ti.agg=true/\mY (λi=>(nth ti.fields i).map λf=>(f.1,f.2.1)) ti.zero V=some l)):
  ∃ u,(Instr.build t vps).run P w=.ok u w/\Rel F own w (.agg l) u:=by
 obtain⟨i,d,z,hi,hd,hz,hq,rfl⟩:=ce ht;have E:(eK P t i d).zero=svs z:=by simp[eK,hz]
 rcases h with⟨Y,te,hte,W⟩ | ⟨Y,hg,W⟩;have⟨ie,de,ze,hie,hde,hze,hqe,he⟩:=ce hte;cases d <;>simp[eK]at Y;simp[eK]at hie;rw[E]at W;have X:te.size=ie.size:=by rw[he];rfl
 have⟨vs',q1,q2⟩:=Fx (place':=λi=>some (i*ie.size,ie.size)) (λi=>by rw[X]) V vps.toList _ l z.cells (zu z) hm O W;exact⟨.agg vs',run_build w t vps vs' (by grind [Program.built]),.agg q2.1 q2.2⟩;cases d with
 |struct fs=>
  rw[E]at W;have hmp:=N7 (P:=P) (fs:=fs.toList) (by grind [Bq]);have⟨vs',q1,q2⟩:=Fx (place':=λi=>(fs.toList.map λf=>(f.offset,pm P f.type)).toArray[i]?) (λi=>by
   simp[eK,iu];rfl) V vps.toList _ l z.cells (zu z) hm O W
  exact⟨.agg vs',run_build w t vps vs' (by grind [Program.built]),.agg q2.1 q2.2⟩
 |array len e=>simp[eK]at Y|_=>simp[eK,lI,hd]at hg
theorem N8 (z:List SV)(E:0<z.length):∀ (n i:Nat),(EN n z)[i]? =if i<n*z.length then z[i % z.length]? else none
 |0,i=>by simp[EN]
 |n+1,i=>by
  rw[EN,apl];by_cases hi:i<z.length
  rw[if_pos hi,if_pos g6,aqV hi];rw[N8 z E n];by_cases O:i - z.length<n*z.length
  grind [Nat.mod_eq_sub_mod]
  grind
theorem yA (z:List SV):∀ n,(EN n z).length=n*z.length
 |0=>by simp[EN]
 |n+1=>by rw[EN,aoq,yA z n,aqf];omega
theorem J8 {s:SV}(h:fit .s s=true): .v (.string (toS s))=s:=by
 cases s <;>simp only[fit,aot]at h;rename_i x;cases x <;>simp only[aot]at h;rfl
theorem J9 {s:SV}(h:fit .b s=true): .v (.bool (toB s))=s:=by
 cases s <;>simp only[fit,aot]at h;rename_i x;cases x <;>simp only[aot]at h;rfl
variable {k:IntKind}
theorem aaF{k':IntKind}(h:Nat.beq (kN k) (kN k')=true):k=k':=by
 cases k <;>cases k' <;>first|rfl|(simp[kN]at h;done)
theorem J_{s:SV}(h:fit (.n k) s=true): .v (.int k (toI s))=s:=by
 cases s <;>simp only[fit,aot]at h;rename_i x;cases x <;>simp only[aot]at h;have:=aaF h;subst this;rfl
theorem xR {k:Tag}{s:SV}(h:fit (.r k) s=true):∃ l,s=.rs k l:=by
 cases s <;>simp only[fit,aot]at h;have:=wc h;subst this;grind
theorem WE {k k2:Tag}{s:SV}(h:fit (.m k k2) s=true):∃ l,s=.rm k k2 l:=by
 cases s <;>simp only[fit,aot]at h;simp only[aoj]at h;have E:=wc h.1;have O:=wc h.2;subst E;subst O;grind
theorem QX {s:SV}(h:fit (.r .reach) s=true): .rs .reach (vX s)=s:=by obtain⟨l,rfl⟩:=xR h;rfl
theorem Uz {s:SV}(h:fit (.r .dd) s=true): .rs .dd (yl s)=s:=by obtain⟨l,rfl⟩:=xR h;rfl
theorem UA {s:SV}(h:fit (.r .asn) s=true): .rs .asn (ym s)=s:=by obtain⟨l,rfl⟩:=xR h;rfl
theorem QY {s:SV}(h:fit (.r .right) s=true): .rs .right (vY s)=s:=by obtain⟨l,rfl⟩:=xR h;rfl
theorem UB {s:SV}(h:fit (.r .asy) s=true): .rs .asy (yn s)=s:=by obtain⟨l,rfl⟩:=xR h;rfl
theorem WF {s:SV}(h:fit (.r .int) s=true): .rs .int (Bl s)=s:=by obtain⟨l,rfl⟩:=xR h;rfl
theorem UC {s:SV}(h:fit (.r .asz) s=true): .rs .asz (yo s)=s:=by obtain⟨l,rfl⟩:=xR h;rfl
theorem UD {s:SV}(h:fit (.r .part) s=true): .rs .part (FR s)=s:=by obtain⟨l,rfl⟩:=xR h;rfl
theorem N9 {s:SV}(h:fit (.r .arH) s=true): .rs .arH (AD s)=s:=by obtain⟨l,rfl⟩:=xR h;rfl
theorem QZ {s:SV}(h:fit (.r .W2) s=true): .rs .W2 (CP s)=s:=by obtain⟨l,rfl⟩:=xR h;rfl
theorem Q0 {s:SV}(h:fit (.r .order) s=true): .rs .order (CQ s)=s:=by obtain⟨l,rfl⟩:=xR h;rfl
theorem UE {s:SV}(h:fit (.r .ints) s=true): .rs .ints (Bm s)=s:=by obtain⟨l,rfl⟩:=xR h;rfl
theorem x9 {s:SV}(h:fit (.m .W1 .int) s=true): .rm .W1 .int (mX s)=s:=by obtain⟨l,rfl⟩:=WE h;rfl
theorem zT {s:SV}(h:fit (.m .art .bool) s=true): .rm .art .bool (lH s)=s:=by obtain⟨l,rfl⟩:=WE h;rfl
theorem LM {s:SV}(h:fit (.m .int .int) s=true): .rm .int .int (yp s)=s:=by obtain⟨l,rfl⟩:=WE h;rfl
theorem aiJ {s:SV}(h:fit .f s=true):fnV (toF s)=s:=by
 unfold fit at h;split at h <;>first|rfl|simp_all
theorem ra{k:Kd}{ks:List Kd}(h:vZ (k::ks) l=true):∃ x r,l=x::r/\fit k x=true/\vZ ks r=true:=by
 cases l with
 |nil=>simp[vZ]at h|cons x r=>grind [vZ]
theorem we(h:vZ [] l=true):l=[]:=by
 grind [vZ]
variable {k:Tag}{x:k.T}
theorem sg(h:xN k l=some x):cellsOf k x=l:=by
 unfold xN at h;cases E:vZ (ez k) l with
 |false=>grind
 |true=>
  simp[E,cond_true,aoo]at h;subst h;cases k <;>simp only[ez]at E <;>
   (repeat (obtain⟨_,_,rfl,_,E⟩:=ra E)) <;>(obtain rfl:=we E) <;>
   simp_all [cellsOf,mkE,at0,J8,J_,J9,aiJ,QX,Uz,UA,QY,UB,WF,UC,UD,N9,QZ,Q0,UE,x9,zT,LM
   ]
def nX(h:pY k l=some x):cellsOf k x=AE (ez k) l:=sg h
theorem Gk(h:pY k l=some x){vs:Array Value}(hr:ar7 F own w l vs):ar7 F own w (cellsOf k x) vs:=by
 rw[nX h];exact hr.nrm
theorem Q2(h:pY k l=some x):l.length=aa k:=by
 rw[<-cm k x,nX h,BE]
theorem C2(x:k.T):pY k (cellsOf k x)=some x:=by
 cases k <;>first|rfl|(cases x <;>rfl)
theorem Ed{y:k.T}(h:cellsOf k x=cellsOf k y):x=y:=by
 grind [C2]
theorem I6 (k:Tag):0<aa k:=by cases k <;>simp[aa]
theorem Gl {k:Tag}{size:Nat}(W:size=aa k):∀ (n:Nat) (l:List SV) (xs:List k.T),tt k size n l=some xs->
  xs.length=n/\∀ (i:Nat) (x:k.T),xs[i]? =some x->∀ (j:Nat) (s:SV),(cellsOf k x)[j]? =some s->∃ s0,l[i*size+j]? =some s0/\(s=s0\/∃ q,s=NM q s0)
 |0,l,xs,h=>by
  grind [tt]
 |n+1,l,xs,h=>by
  simp only[tt,LJ,Fv]at h;cases O:pY k (l.take size)with
  |none=>grind
  |some y=>
   cases hr:tt k size n (l.drop size)with
   |none=>grind
   |some X=>
    simp only[O,hr,aoo]at h;subst h;obtain⟨h1,h2⟩:=Gl W n _ _ hr;refine⟨by simp[h1],λi x E j s V=>?_⟩;cases i with
    |zero=>
     simp at E;subst E;rw[nX O]at V;have⟨s0,e1,e2⟩:=wd _ _ _ _ V;grind
    |succ i=>
     simp at E;grind
variable {ps:List (Nat×SV)}
theorem N_{i:TypeInfo}{e:TypeId}{E:TypeInfo}{O:Value}(hi:P.info? t=some i)(hd:P.underlying t=some (.slice e))(hie:P.info? e=some E)(hze:E.zero=some O)(hzl:O.cells.size=E.size){n:Nat}{vps:Array (Nat×Value)}
  (hm:ps.map (·.1)=vps.toList.map (·.1)) (W:∀ (j:Nat) (x:Nat×SV) (y:Nat×Value),ps[j]? =some x->vps.toList[j]? =some y->Rel F own w x.2 y.2)
  (hf:mY (λi=>some (i*E.size,E.size)) (EN n (svs O)) ps=some l) (hpos:0<E.size) (hle:n*E.size<=16777216):
  ∃ V,(Instr.buildSlice t n vps).run P w=.ok (.slice (some ⟨w.heap.size,0,none⟩) n n) (w.alloc (.cells V e))/\ar7 F own w l V/\V.size=n*E.size:=by
 have X:(svs O).length=E.size:=by simp[svs,hzl]
 let cz:Array Value:=if n*E.size=0 then #[]else O.cells
 have hz0:ar7 F own w (EN n (svs O)) ((Array.range (n*E.size)).map (cz[· % cz.size]!)):=by
  refine⟨by simp[yA,X],λj s hj=>?_⟩;rw[N8 _ g5]at hj;by_cases hjn:j<n*(svs O).length
  have Y:cz=O.cells:=g6
  have hm1:j % O.cells.size<O.cells.size:=aqq _ g5;have:=(zu (F:=F) (own:=own) (w:=w) O).2 (j % O.cells.size) s g6;simp_all;grind
 have⟨V,q1,q2⟩:=Fx (place':=λi=>some (i*E.size,E.size)) (λi=>rfl) ps vps.toList _ l _ hz0 hm W hf;refine⟨V,?_,q2,?_⟩;simp[Instr.buildSlice,aoT,run_underlying hd,aoW,eb hie];by_cases hn0:n*E.size=0
 have Y:cz= #[]:=g6
 simp_all [newRow];have Y:cz=O.cells:=g6
 simp_all [zeroValue,typeInfo,newRow];have h1:=J7 _ _ _ hf;rw[q2.1,h1,yA,X]
variable {h:List Ob}
theorem auV(W:Hp F own w h):¬dA F own w.heap.size:=by
 rintro (O| ⟨id,hd',E,V⟩);exact apt _ (W.arN _ O);exact apt _ (W.lt id hd' _ E V)
theorem adV(hp:Hp F own w h){te:TI}(ht:ku P t=some ti)(hte:ku P ti.elem=some te){n:Nat}{vps:Array (Nat×Value)}
  (hm:ps.map (·.1)=vps.toList.map (·.1)) (Y:∀ (j:Nat) (x:Nat×SV) (y:Nat×Value),ps[j]? =some x->vps.toList[j]? =some y->Rel F own w x.2 y.2) {r:OR}
  (E:bsS ti te n ps=r) (hr:r≠ .bad):
  ∃ s cs ty u,r=.asD s/\(Instr.buildSlice t n vps).run P w=.ok u (w.alloc (.cells cs ty))/\Rel F own (w.alloc (.cells cs ty)) s u/\∀ (k:Tag) (xs:List k.T),s=.rs k xs->u=.slice (some ⟨w.heap.size,0,none⟩) xs.length xs.length/\xs.length*aa k<=cs.size/\xs.length<=aI/\asb F own w k xs 0 cs:=by
 obtain⟨i,d,z,hi,hd,hz,hq,rfl⟩:=ce ht;obtain⟨ie,de,ze,W,hde,hze,hqe,he⟩:=ce hte;have V:te.size=ie.size:=by rw[he];rfl
 have O:te.zero=svs ze:=by simp_all [eK]
 have hg:∀ cs ty,aso F own w own (w.alloc (.cells cs ty)):=λcs ty=>aso.below F own (sd w _);have hnew:=auV hp;unfold bsS at E;cases hn:Nat.beq n 0 with
 |true=>
  have hn0:=aok hn;subst hn0;cases d with
  |slice e=>
   subst E;have hps:ps=[]:=by
    grind
   simp[eK]at W;have hv:vps= #[]:=by
    simp_all
   subst hv;subst hps;refine⟨_,#[],e,.slice (some ⟨w.heap.size,0,none⟩) 0 0,rfl,?_,.e0,λ_ _ e=>(by cases e)⟩;have he0:Array.map (λ(_:Nat) =>(default:Value)) (Array.range 0)= #[]:=aqD (by simp);simp[Instr.buildSlice,run_underlying hd,eb W,Instr.fill,newRow,he0]
  |_=>simp[eK]at E;exact absurd E.symm hr
 |false=>
 rw[hn]at E;rw[V]at E;cases hf:mY (λi=>some (i*ie.size,ie.size)) (EN n te.zero) ps with
 |none=>
  rw[hf]at E;exfalso;cases as7:adH te.tag with
  |none=>rw[as7]at E;exact hr E.symm|some k=>rw[as7]at E;cases hio:aan ps <;>rw[hio]at E <;>exact hr E.symm
 |some l=>
 have typed:∀ k,bsT k (eK P t i d) te n (some l)=r->∃ s cs ty u,r=.asD s/\(Instr.buildSlice t n vps).run P w=.ok u (w.alloc (.cells cs ty))/\Rel F own (w.alloc (.cells cs ty)) s u/\∀ (k:Tag) (xs:List k.T),s=.rs k xs->u=.slice (some ⟨w.heap.size,0,none⟩) xs.length xs.length/\xs.length*aa k<=cs.size/\xs.length<=aI/\asb F own w k xs 0 cs:=by
  intro k E;simp[bsT]at E;cases hc:Nat.beq te.size (aa k)&&(eK P t i d).isSlice&&Nat.ble (n*te.size) 16777216&&Nat.beq (sz te.zero) te.size with
  |false=>rw[hc]at E;exact absurd E.symm hr
  |true=>
  rw[hc]at E;simp only[aoj,se]at hc;have⟨⟨⟨c1,c2⟩,c3⟩,c4⟩:=hc;have c1:=aok c1;have c3:=nbl c3;have c4:=aok c4;cases hel:tt k te.size n l with
  |none=>rw[hel]at E;exact absurd E.symm hr
  |some xs=>
  rw[hel]at E;subst E;cases d with
  |slice e=>
   have X:0<te.size:=by rw[c1];exact I6 k
   have hzl:ze.cells.size=ie.size:=by rw[<-V,<-c4,O];simp[svs]
   rw[O]at hf;have⟨vs',q1,q2,q3⟩:=N_ hi hd W hze hzl hm Y hf g5 (by rw[<-V];exact c3);have⟨x1,x2⟩:=Gl c1 n l xs hel;refine⟨_,vs',e,_,rfl,q1,?_,?_⟩
   rotate_left
   intro k' xs' e';cases e';refine⟨by rw[x1],?_,by have:n<=n*te.size:=apw n X;unfold aI;omega,λi x hx j s hj=>?_⟩;grind
   have⟨s0,h1,h2⟩:=x2 i x hx j s hj;rw[c1]at h1;have hlt:i*aa k+j<vs'.size:=by rw[q2.1];exact(aop.1 h1).1
   have h3:=q2.2 _ _ h1;refine⟨vs'.getD (i*aa k+j) undef,by simp_all,?_⟩;rcases h2 with rfl| ⟨q,rfl⟩;exact h3;exact p_ h3;have:=Rel.rs (F:=F) (own:=own) (w:=w.alloc (.cells vs' e)) (k:=k) (l:=xs) (b:=w.heap.size) (o:=0) (cap:=xs.length) (λi j=>vs'.getD (i*aa k+j) undef) (aom _)
    (by have:n<=n*te.size:=apw n X;unfold aI;omega)
    (λi x hx j s hj=>⟨hnew,by
     have⟨s0,h1,_⟩:=x2 i x hx j s hj;rw[c1]at h1;have hlt:i*aa k+j<vs'.size:=by rw[q2.1];exact(aop.1 h1).1
     simp[hlt]⟩)
    (λi x hx j s hj=>by
     have⟨s0,h1,h2⟩:=x2 i x hx j s hj;rw[c1]at h1;have h3:=(q2.2 _ _ h1).mono (hg vs' e);rcases h2 with rfl| ⟨q,rfl⟩;exact h3;exact p_ h3)
   grind
  |_=>simp[eK]at c2
 have untyped:bsU (eK P t i d) te n (some l)=r->∃ s cs ty u,r=.asD s/\(Instr.buildSlice t n vps).run P w=.ok u (w.alloc (.cells cs ty))/\Rel F own (w.alloc (.cells cs ty)) s u/\∀ (k:Tag) (xs:List k.T),s=.rs k xs->u=.slice (some ⟨w.heap.size,0,none⟩) xs.length xs.length/\xs.length*aa k<=cs.size/\xs.length<=aI/\asb F own w k xs 0 cs:=by
  intro E;simp[bsU]at E;cases hc:(eK P t i d).isSlice&&Nat.ble 1 te.size&&Nat.ble (n*te.size) 16777216&&Nat.beq (sz te.zero) te.size with
  |false=>rw[hc]at E;exact absurd E.symm hr
  |true=>
  simp[lsS]at E;simp only[aoj,se]at hc;have⟨⟨⟨c2,c1⟩,c3⟩,c4⟩:=hc;have c1:=nbl c1;have c3:=nbl c3;have c4:=aok c4;cases hc2:Nat.beq (sz l) (n*te.size)&&wT l with
  |false=>grind
  |true=>
  simp only[aoj,se]at hc2;have hln:=aok hc2.1;cases d with
  |slice e=>
   have hzl:ze.cells.size=ie.size:=by rw[<-V,<-c4,O];simp[svs]
   rw[O]at hf;have⟨vs',q1,q2,q3⟩:=N_ hi hd W hze hzl hm Y hf g5 (by rw[<-V];exact c3);have:=Rel.ls (F:=F) (own:=own) (w:=w.alloc (.cells vs' e)) (z:=te.size) (n:=n) (l:=l) (b:=w.heap.size) (o:=0) (cap:=n) (λj=>vs'.getD j undef) hln.symm (aom _)
    (λj s hj=>⟨hnew,by
     have hlt:j<vs'.size:=g6
     simp[hlt]⟩)
    (λj s hj=>(q2.2 _ _ hj).mono (hg vs' e))
   grind
  |_=>simp[eK]at c2
 unfold bsG at E;grind
end
structure auI (b:Nat)(ty:TypeId)(cs':Array Value)(w w':World):Prop where
 here:w'.heap[b]? =some (.cells cs' ty (0,0))
 size:w'.heap.size=w.heap.size
 other:∀ k,k≠b->w'.heap[k]? =w.heap[k]?
 os:w'.os=w.os
 tape:w'.tape=w.tape
 output:w'.output=w.output
section
variable {P:Program}{F:Nat->Prop}{own:Own}{w:World}
theorem li {b o:Nat}{ty:TypeId}:∀ (vs:List Value) (i:Nat) (w:World) (cs:Array Value),w.heap[b]? =some (.cells cs ty (0,0))->o+i+vs.length<=cs.size->(∀ v∈vs,v.oneCell'=true)->
  ∃ E w',(storeCells ⟨b,o,none⟩ vs i).run P w=.ok () w'/\auI b ty E w w'/\E.size=cs.size/\∀ j,E[j]? =if o+i<=j/\j<o+i+vs.length then vs[j - (o+i)]? else cs[j]?
 | [],i,w,cs,V,_,_=>by
  refine⟨cs,w,by rfl,⟨V,rfl,λ_ _=>rfl,rfl,rfl,rfl⟩,rfl,λj=>?_⟩;grind
 |v::vs,i,w,cs,V,hle,W=>by
  simp[aon]at hle;have hlt:o+i<cs.size:=g5
  have X:w.cell? ⟨b,o+i,none⟩=some cs[o+i]:=by rw[fh V];simp[hlt]
  have hrun:(store (Addr.add ⟨b,o,none⟩ i) v).run P w=.ok () (w.setCell ⟨b,o+i,none⟩ v):=by
   grind [oZ,run_store,Gj]
  have O:=setCell_eq_setRow w b (o+i) cs ty (0,0) v V;have Y:(w.setCell ⟨b,o+i,none⟩ v).heap[b]? =some (.cells (cs.setIfInBounds (o+i) v) ty (0,0)):=by
   rw[O];exact setRow_heap w b cs _ ty (0,0) V
  have⟨E,w',e1,e2,e3,e4⟩:=li (o:=o) vs (i+1) _ _ Y (by simp;omega) (λv hv=>W v (by simp[hv]));refine⟨E,w',?_,⟨e2.here,by rw[e2.size];simp,λk hk=>?_,by rw[e2.os];rfl,by rw[e2.tape];rfl,by rw[e2.output];rfl⟩,by rw[e3];simp,λj=>?_⟩;grind [storeCells,Sem.run_bind,Result.andThen_ok]
  rw[e2.other k hk,O];exact setRow_other w b k _ hk;grind
variable {v:Value}
theorem WG{s:SV}(h:QJ s=true)(hr:Rel F own w s v):v.oneCell'=true:=by
 cases hr <;>first|rfl|(exact nW (by assumption)) |(simp[QJ]at h;done) |(rename_i x;cases x <;>first|rfl|(simp[QJ]at h;done)) |(cases v <;>first|rfl|(simp[QJ]at h;done))
theorem Ee:∀ {l:List SV},wT l=true->∀ (j:Nat) (s:SV),l[j]? =some s->QJ s=true
 | [],_,j,s,h=>by simp at h
 |x::r,h,0,s,hs=>by grind [wT]
 |x::r,h,j+1,s,hs=>by simp[wT]at h hs;exact Ee h.2 j s hs
variable {t:TypeId}{ti:TI}{sx:SV}{off:Nat}
theorem zv(ht:ku P t=some ti){V:Value}(X:Rel F own w sx V){xs:List SV}(hf:qQ sx=some xs)(Y:xs.length=ti.size)(O:∀ (j:Nat) (s:SV),xs[j]? =some s->∀ v,Rel F own w s v->v.oneCell'=true)
  {b:Nat} {cs:Array Value} {ty:TypeId} (hb:w.heap[b]? =some (.cells cs ty (0,0))) (hle:off+xs.length<=cs.size):
  ∃ E w',(Instr.storeAt t (.pointer (some ⟨b,off,none⟩)) V).run P w=.ok () w'/\auI b ty E w w'/\E.size=cs.size/\
   (∀ j,off<=j->j<off+xs.length->∃ u,E[j]? =some u/\∀ s,xs[j - off]? =some s->Rel F own w s u)/\(∀ j,¬ (off<=j/\j<off+xs.length)->E[j]? =cs[j]?):=by
 obtain⟨i,d,z,hi,hd',hz,hq,rfl⟩:=ce ht;have⟨f1,f2⟩:=Gi X hf;have⟨E,w',q1,q2,q3,q4⟩:=li (P:=P) (b:=b) (o:=off) (ty:=ty) V.cells.toList 0 w cs hb (by simp;omega) (λu hu=>by
  have⟨j,hj⟩:=ao9 hu;have hjl:j<V.cells.size:=g6
  have W:=aov (l:=xs) (i:=j) g5;have:=O j _ W _ (f2 j _ W);simp_all)
 have hsz2:V.cells.size=i.size:=by rw[f1,Y];rfl
 refine⟨E,w',by simp_all [Instr.storeAt,Instr.sureAddr,storeVar,eb],q2,q3,λj h1 h2=>?_,λj h1=>?_⟩;simp_all <;>grind;grind
variable {ee:Own}{k:Tag}{o:Nat}{x:k.T}
theorem asb.put{w':World}(g:aso F own w ee w'){l:List k.T}{cs E:Array Value}(h:asb F own w k l o cs){i:Nat}(hi:i<l.length){xs:List SV}(hx:pY k (iG (cellsOf k (l.getD i (fg k))) off xs)=some x)
  (hle:off+xs.length<=aa k)
  (hin:∀ j,o+i*aa k+off<=j->j<o+i*aa k+off+xs.length->∃ u,E[j]? =some u/\∀ s,xs[j - (o+i*aa k+off)]? =some s->Rel F own w s u)
  (V:∀ j,¬ (o+i*aa k+off<=j/\j<o+i*aa k+off+xs.length)->E[j]? =cs[j]?):asb F ee w' k (l.set i x) o E:=by
 intro X y hy j s hj;rw[ap_]at hy;have hjl:j<aa k:=by grind [cm]
 by_cases O:i=X
 subst O;rw[if_pos rfl,if_pos hi]at hy;simp only[aoo]at hy;subst hy;rw[nX hx]at hj;obtain⟨s0,Y,e2⟩:=wd _ _ _ _ hj;rw[p9 _ _ _ (by grind [cm])]at Y;have fin:∀ u,Rel F own w s0 u->Rel F ee w' s u:=λu hu=>by
  rcases e2 with rfl| ⟨q,rfl⟩;exact hu.mono g;exact p_ (hu.mono g)
 by_cases W:off<=j/\j<off+xs.length
 rw[if_pos W]at Y;obtain⟨u,h1,h2⟩:=hin (o+i*aa k+j) g5 g5;grind
 rw[if_neg W]at Y;have⟨h1,h2⟩:=h.get hi Y;grind
 rw[if_neg O]at hy;have⟨u,h1,h2⟩:=h X y hy j s hj;refine⟨u,?_,h2.mono g⟩;rw[V];exact h1;rcases Nat.lt_or_gt_of_ne O with hlt|hlt;have:(i+1)*aa k<=X*aa k:=aoz _ hlt;grind
 have:(X+1)*aa k<=i*aa k:=aoz _ hlt;grind
variable {n:Nat}
theorem S7{cap i size m E:Nat}(h1:o+cap*size<=E)(h2:n<=cap)(V:i<n)(O:off+m<=size):o+i*size+off+m<=E:=by
 have W:(i+1)*size<=cap*size:=aoz _ g5;grind
theorem ar1.put{w':World}(g:aso F own w ee w'){l':List k.T}{b:Nat}(O:∀ c,c≠b->w'.heap[c]? =w.heap[c]?):
  ∀ {l:List (List k.T)} {vs:List Value} {bs:List Nat} {i:Nat},ar1 F own w k l vs bs->bs.Nodup->vs[i]? =some v->(∀ E,arY F own w k (l.getD i []) v E->b∈E)->(∀ E,arY F own w k (l.getD i []) v E->arY F ee w' k l' v E)->ar1 F ee w' k (l.set i l') vs bs
 | [],[],bs,i,_,_,h,_,_=>by simp at h
 |l::ls,u::vs,bs,0,⟨E,b2,h1,h0,h2,h3⟩,hn,h,hb,hr=>by
  simp at h;subst h;refine⟨E,b2,h1,h0,hr E h2,h3.carry g.asr λc hc=>O c λe=>?_⟩;grind
 |l::ls,u::vs,bs,i+1,⟨E,b2,h1,h0,h2,h3⟩,hn,h,hb,hr=>by
  rw[h1]at hn;rw[apF]at hn;have h':vs[i]? =some v:=by simpa using h
  have⟨b3,q1,q2,q3,q4⟩:=h3.get h';have V:=hb b3 g6;exact⟨E,b2,h1,h0,h2.carry g.asr λc hc=>O c λe=>hn.2.2 _ hc _ (q4 b V) e,
   ar1.put g O h3 hn.2.1 h' (λE hb1=>hb E g6) λE hb1=>hr E g6⟩
 | [],_::_,_,_,h,_,_,_,_=>h.elim|_::_,[],_,_,h,_,_,_,_=>h.elim
theorem Ka{l l' xs:List SV}(Y:pY k (iG l off xs)=some x)(hl:l.length=aa k)(hle:off+xs.length<=aa k)(j:Nat)(s:SV)(W:xs[j]? =some s)(v:Value)(hv:Rel F own w s v):v.oneCell'=true:=by
 have X:=(aop.1 W).1;have h1:(iG l off xs)[off+j]? =some s:=by
  simp_all [p9]
 have hc:=nX Y;have E:off+j< (cellsOf k x).length:=by rw[cm];omega
 have⟨s1,h2⟩:∃ s1,(cellsOf k x)[off+j]? =some s1:=⟨_,aov E⟩;have O:=h2;rw[hc]at O;have⟨s0,e1,e2⟩:=wd _ _ _ _ O;have V:Rel F own w s1 v:=by
  grind [p_]
 exact nW (LK h2 V)
theorem UF{h:List Ob}(hp:Hp F own w h)(ht:ku P t=some ti){s:SV}{vx:Value}(hr:Rel F own w s v)(hrx:Rel F own w sx vx){r:OR}
  (E:sR ti.size h s (qQ sx)=r) (V:r≠ .bad):
  ∃ ups,r=.eff True True ups .any/\∃ w',(Instr.storeAt t v vx).run P w=.ok () w'/\Step F own w (br h ups) own w':=by
 cases hf:qQ sx with
 |none=>rw[hf]at E;cases s <;>exact absurd E.symm V
 |some xs=>
 rw[hf]at E;cases hr with
 |ptr h1 h2=>
  rename_i id off b hd;simp[sR]at E;cases W:Nat.beq (sz xs) ti.size with
  |false=>grind
  |true=>
  rw[W]at E;cases X:ap h id with
  |cells l=>
   rw[X]at E;simp[QK]at E;cases hc:Nat.ble (off+sz xs) (sz l)&&wT xs with
   |false=>grind
   |true=>
   rw[hc]at E;subst E;simp only[aoj,se]at hc W;have hsz:=aok W;have O:=nbl hc.1;have⟨hd',e0,b',cs,ty,e1,e2,e3,e4,e5⟩:=hp.at X rfl;rw[h1]at e0;cases e0;rw[h2]at e1;cases e1;have⟨cs',w',q1,q2,q3,q4,q5⟩:=zv (P:=P) ht hrx hf hsz (λj s hj v hv=>WG (Ee hc.2 j s hj) hv) (off:=off) e3 g5;refine⟨_,rfl,w',q1,q_ hp h1 (by simp[e2]) q2.size q2.other q2.os q2.tape q2.output _ λg=>⟨b,cs',ty,h2,e2,q2.here,by rw[q3,e4,oY],λj s hj=>?_⟩⟩;rw[p9 _ _ _ O]at hj;by_cases hjr:off<=j/\j<off+xs.length
   rw[if_pos hjr]at hj;have⟨u,k1,k2⟩:=q4 j hjr.1 hjr.2;have:=(k2 s hj).mono g;simp_all;rw[if_neg hjr]at hj;have:=(e5 j s hj).mono g;simp_all
  |_=>rw[X]at E;exact absurd E.symm V
 |rp h1 h2 h3=>
  rename_i szt id off n cap b o i hd;simp[sR]at E;cases W:Nat.beq (sz xs) ti.size with
  |false=>grind
  |true=>
  rw[W]at E;cases X:ap h id with
  |row k l=>
   rw[X]at E;simp only[QL]at E;cases hc:Nat.beq szt (aa k)&&Nat.ble (off+sz xs) szt with
   |false=>grind
   |true=>
   rw[hc]at E;simp only[aoj,se]at hc W;have hsz:=aok W;have Y:=aok hc.1;have O:=nbl hc.2;subst Y;cases hx:pY k (iG (cellsOf k (l.getD i.toNat (fg k))) off xs)with
   |none=>rw[hx]at E;exact absurd E.symm V
   |some x=>
   rw[hx]at E;subst E;have⟨hd',e0,e⟩:=hp.at X rfl;rw[h1]at e0;cases e0;rcases e with⟨a,e1,_⟩ | ⟨b',o',cap',cs,ty,e1,e2,e3,e4,e5,e6,e7⟩;grind
   rw[h2]at e1;obtain⟨⟨rfl,rfl,_⟩,rfl,rfl⟩:=e1;have⟨cs',w',q1,q2,q3,q4,q5⟩:=zv (P:=P) ht hrx hf hsz (λj s hj v hv=>Ka (l':=[]) hx (cm _ _) O j s hj v hv) e3 (S7 e4 e5 h3 O);refine⟨_,rfl,w',q1,q_ hp h1 (by simp[e2]) q2.size q2.other q2.os q2.tape q2.output _ λg=>.inr ⟨b,o,cap,cs',ty,g6,e2,q2.here,g5,g6,g6,e7.put g h3 hx O q4 q5⟩⟩
  |_=>rw[X]at E;exact absurd E.symm V
 |gp h1 h2 h3=>
  rename_i szt id off n cap b o i j hd;simp only[sR]at E;cases W:Nat.beq (sz xs) ti.size with
  |false=>grind
  |true=>
  rw[W]at E;cases X:ap h id with
  |ar2 k l=>
   rw[X]at E;simp only[QM]at E;cases hc:Nat.beq szt (aa k)&&Nat.ble (off+sz xs) szt with
   |false=>grind
   |true=>
   rw[hc]at E;simp only[aoj,se]at hc W;have hsz:=aok W;have Y:=aok hc.1;have O:=nbl hc.2;subst Y;cases hx:pY k (iG (cellsOf k ((l.getD i.toNat []).getD j.toNat (fg k))) off xs)with
   |none=>rw[hx]at E;exact absurd E.symm V
   |some x=>
   rw[hx]at E;subst E;have⟨hd',e0,e⟩:=hp.at X rfl;rw[h1]at e0;cases e0;rcases e with⟨_,_,e1,_⟩ | ⟨b',o',cap',cs,ty,bs,e1,e2,e3,e4,e5,e6,e7,e8,e9⟩;grind
   have⟨b1,k1,k2,k3,k4⟩:=e9.get h2;have hrow:∀ b1,arY F own w k (l.getD i.toNat []) (.slice (some ⟨b,o,none⟩) n cap) b1->∃ cs ty,b1=[b]/\n=(l.getD i.toNat []).length/\w.heap[b]? =some (.cells cs ty (0,0))/\o+cap*aa k<=cs.size/\(l.getD i.toNat []).length<=cap/\(l.getD i.toNat []).length<=aI/\asb F own w k (l.getD i.toNat []) o cs:=by
    rintro b1 (⟨a,m1,_⟩ | ⟨b2,o2,cap2,cs2,ty2,m1,m2,m3,m4,m5,m6,m7⟩) <;>grind
   obtain⟨cs2,ty2,m1,rfl,m3,m4,m5,m6,m7⟩:=hrow b1 k3;have⟨cs',w',q1,q2,q3,q4,q5⟩:=zv (P:=P) ht hrx hf hsz (λj s hj v hv=>Ka (l':=[]) hx (cm _ _) O j s hj v hv) m3 (S7 m4 m5 h3 O);have hbb:b∈hd.bs:=g6
   have V:b'≠b:=λe=>by
    grind
   refine⟨_,rfl,w',q1,q_ hp h1 hbb q2.size q2.other q2.os q2.tape q2.output _ λg=>.inr ⟨b',o',cap',cs,ty,bs,g6,e2,e3,by rw[q2.other b' V];exact e4,g5,g6,g6,e8,?_⟩⟩;rw[e2,ao2]at e3;refine e9.put g q2.other e3.2 h2 (λb1 hb1=>?_) λb1 hb1=>?_;grind
   obtain⟨cs3,ty3,rfl,_,n3,n4,n5,n6,n7⟩:=hrow b1 hb1;exact .inr ⟨b,o,cap,cs',ty2,by simp,rfl,q2.here,g5,g6,g6,m7.put g h3 hx O q4 q5⟩
  |_=>rw[X]at E;exact absurd E.symm V
 |_=>simp only[sR]at E;exact absurd E.symm V
theorem w5(E:cN (P.underlying t)≠0){xs:Array Value}(hn:n<xs.size):(part t xs n).run P w=.ok (xs.getD n undef) w:=by
 have:(isAgg t).run P w=.ok false w:=by
  unfold isAgg;cases hd:P.underlying t with
  |none=>grind [cN]|some d=>rw[hd]at E;cases d <;>simp[cN]at E <;>simp[run_underlying hd]
 simp_all [part]
theorem Q3{Y sy:SV}{vx X:Value}(W:Rel F own w Y vx)(hy:Rel F own w sy X){b:Bool}(h:eqV (cN (P.underlying t)) Y sy=some b)(d:Nat):(Op.equalIn (d+1) t vx X).run P w=.ok b w:=by
 unfold eqV at h;split at h
 rename_i k a k' c;have ex:=c8 W;have V:=c8 hy;subst ex;subst V;cases E:Nat.beq (cN (P.underlying t)) 1&&Nat.beq (kN k) (kN k')with
 |false=>grind
 |true=>
  rw[E]at h;simp[cond_true,aoo]at h;subst h;simp only[aoj]at E;have hk:=QV E.2;subst hk;have hc:=aok E.1;cases hd:P.underlying t with
  |none=>grind [cN]
  |some O=>
   rw[hd]at hc;cases O <;>simp[cN]at hc;simp[Op.equalIn,run_underlying hd]
 have ex:=c8 W;have V:=c8 hy;subst ex;subst V;cases E:Nat.beq (cN (P.underlying t)) 2 with
 |false=>grind
 |true=>
  rw[E]at h;simp[cond_true,aoo]at h;subst h;have hc:=aok E;cases hd:P.underlying t with
  |none=>grind [cN]
  |some O=>
   rw[hd]at hc;cases O <;>simp[cN]at hc;simp[Op.equalIn,run_underlying hd]
 have ex:=c8 W;have V:=c8 hy;subst ex;subst V;cases E:Nat.beq (cN (P.underlying t)) 3 with
 |false=>grind
 |true=>
  rw[E]at h;simp[cond_true,aoo]at h;subst h;have hc:=aok E;cases hd:P.underlying t with
  |none=>grind [cN]
  |some O=>
   rw[hd]at hc;cases O <;>simp[cN]at hc;simp[Op.equalIn,run_underlying hd]
 cases h
theorem yB {d:Nat}:∀ (fs:List Field) (n:Nat) (E O:List SV) (xs V:Array Value) (b:Bool),eqFields P n fs=true->eqL (fs.map λf=>cN (P.underlying f.type)) E O=some b->n+E.length<=xs.size->n+O.length<=V.size->
  (∀ (j:Nat) (s:SV),E[j]? =some s->Rel F own w s (xs.getD (n+j) undef))->(∀ (j:Nat) (s:SV),O[j]? =some s->Rel F own w s (V.getD (n+j) undef))->
  (Op.eqFields (d+1) xs V fs).run P w=.ok b w
 | [],n,E,O,xs,V,b,_,h,_,_,_,_=>by
  cases E <;>cases O <;>simp[eqL]at h;simp_all [Op.eqFields]
 |f::fs,n,E,O,xs,V,b,hf,h,h1,h2,h3,X=>by
  simp only[eqFields,aoj]at hf;have⟨⟨⟨q1,q2⟩,q3⟩,q4⟩:=hf;have hn:f.name≠ "_":=g6
  have ho:f.offset=n:=aok q2;have hc:cN (P.underlying f.type)≠0:=by simp_all <;>grind
  cases E with
  |nil=>simp[eqL]at h
  |cons x E=>
   cases O with
   |nil=>simp[eqL]at h
   |cons y O=>
    simp[aoO,eqL]at h;cases hv:eqV (cN (P.underlying f.type)) x y with
    |none=>grind [Bt]
    |some b1=>
     cases Y:eqL (fs.map λf=>cN (P.underlying f.type)) E O with
     |none=>grind [Bt]
     |some b2=>
      rw[hv,Y]at h;simp[Bt,aoo]at h;subst h;simp[aon]at h1 h2;have e1:=w5 (P:=P) (w:=w) hc (xs:=xs) (n:=n) g5;have e2:=w5 (P:=P) (w:=w) hc (xs:=V) (n:=n) g5;have W:=Q3 (P:=P) (h3 0 x rfl) (X 0 y rfl) hv d;simp only[apE]at W;simp only[Op.eqFields,if_pos hn,ho,aoT,e1,e2,aoW,W];cases b1 with
      |false=>simp
      |true=>
       have ih:=yB (d:=d) fs (n+1) E O xs V b2 q4 Y g5 g5 (λj s hj=>by have:=h3 (j+1) s g6;grind) (λj s hj=>by have:=X (j+1) s g6;grind);grind
variable {O X:List SV}{E:Array Value}
theorem Oa{fs:Array Field}(hd:P.underlying t=some (.struct fs)){xs:Array Value}(hx:ar7 F own w O xs)(hy:ar7 F own w X E){b:Bool}
  (hc:pb P t (.struct fs)≠[]) (h:eqL (pb P t (.struct fs)) O X=some b):(Op.equal t (.agg xs) (.agg E)).run P w=.ok b w/\P.eqGuardType P.depth t=false:=by
 simp[pb]at hc h;cases V:!P.stoodInHeld t&& !P.eqGuardType P.depth t&&eqFields P 0 fs.toList with
 |false=>grind
 |true=>
  rw[V]at h;simp[aoj,aox]at V;have⟨⟨q1,q2⟩,q3⟩:=V;refine⟨?_,q2⟩;have Y:P.fieldsOf t=fs:=by simp[Program.fieldsOf,hd]
  unfold Op.equal Op.maxDepth;rw[run_equalIn_struct w 9999 t xs E g6 q1,Y];exact yB (P:=P) (d:=9998) fs.toList 0 O X xs E b q3 h (by rw[hx.1];omega) (by rw[hy.1];omega) (λj s W=>by simpa using hx.2 j s W) (λj s W=>by simpa using hy.2 j s W)
theorem S8:∀ {E bs:List Nat} {l m:List SV} {b:Bool},eqL (E++bs) l m=some b->∃ V O,eqL E (l.take E.length) (m.take E.length)=some V/\eqL bs (l.drop E.length) (m.drop E.length)=some O/\b=(V&&O)/\E.length<=l.length/\E.length<=m.length
 | [],bs,l,m,b,h=>⟨true,b,by simp[eqL],by simpa using h,by simp,by simp,by simp⟩
 |c::E,bs,[],m,b,h=>by simp[eqL]at h
 |c::E,bs,x::l,[],b,h=>by simp[eqL]at h
 |c::E,bs,x::l,y::m,b,h=>by
  simp[aoJ,eqL]at h;cases Y:eqV c x y with
  |none=>grind [Bt]
  |some b0=>
   cases W:eqL (E++bs) l m with
   |none=>grind [Bt]
   |some X=>
    have⟨V,O,e1,e2,e3,e4,e5⟩:=S8 W;grind [eqL,Bt]
theorem WH{lx ly:List SV}{xs ys:Array Value}{b:Bool}(h:eqL (sa P t) lx ly=some b)(hp:0< (sa P t).length)(V:lx.length=(sa P t).length)(W:ly.length=(sa P t).length)(h1:n+lx.length<=xs.size)(h2:n+ly.length<=ys.size)
  (h3:∀ (j:Nat) (s:SV),lx[j]? =some s->Rel F own w s (xs.getD (n+j) undef)) (h4:∀ (j:Nat) (s:SV),ly[j]? =some s->Rel F own w s (ys.getD (n+j) undef)) (d:Nat):
  ∃ vx vy,(part t xs n).run P w=.ok vx w/\(part t ys n).run P w=.ok vy w/\(Op.equalIn (d+2) t vx vy).run P w=.ok b w:=by
 by_cases hst:∃ E,P.underlying t=some (.struct E)
 have⟨E,hd⟩:=hst;have e:sa P t=bif !P.stoodInHeld t&&eqFields P 0 E.toList&&Nat.beq (pm P t) E.size&&(P.info? t).isSome then E.toList.map λf=>cN (P.underlying f.type)else []:=by grind [sa]
 cases hb:!P.stoodInHeld t&&eqFields P 0 E.toList&&Nat.beq (pm P t) E.size&&(P.info? t).isSome with
 |false=>grind
 |true=>
  rw[hb]at e;simp only[aoj,aox]at hb;have⟨⟨⟨q1,q2⟩,q3⟩,q4⟩:=hb;have hsz:=aok q3;have⟨i,hi⟩:=aqj.1 q4;have hszi:i.size=E.size:=by grind [pm]
  have hlen:(sa P t).length=E.size:=by rw[e];simp
  have O:∀ X:Array Value,(part t X n).run P w=.ok (.agg (X.extract n (n+i.size))) w:=λX=>by
   simp_all [part,zt,lI,eb]
  have Y:∀ (X:Array Value) (l:List SV),l.length=E.size->n+l.length<=X.size->(∀ (j:Nat) (s:SV),l[j]? =some s->Rel F own w s (X.getD (n+j) undef))->∀ (j:Nat) (s:SV),l[j]? =some s->Rel F own w s ((X.extract n (n+i.size)).getD (0+j) undef):=λX l hl hz hr j s hj=>by
   grind [vo]
  refine⟨_,_,O xs,O ys,?_⟩;have hfo:P.fieldsOf t=E:=by simp[Program.fieldsOf,hd]
  rw[run_equalIn_struct w (d+1) t _ _ g6 q1,hfo];rw[e]at h;rw[hlen]at V W;exact yB (P:=P) (d:=d) E.toList 0 lx ly _ _ b q2 h (by simp;omega) (by simp;omega) (Y xs lx V h1 h3) (Y ys ly W h2 h4)
 have e:sa P t=bif Nat.blt 0 (cN (P.underlying t))then [cN (P.underlying t)]else []:=by
  grind [sa]
 cases hb:Nat.blt 0 (cN (P.underlying t))with
 |false=>grind
 |true=>
  rw[hb]at e;have hc:cN (P.underlying t)≠0:=by simp_all <;>grind
  rw[e]at h V W;match lx,ly,V,W with
  | [x],[y],_,_=>
   simp[eqL]at h;cases hv:eqV (cN (P.underlying t)) x y with
   |none=>grind [Bt]
   |some b1=>
    simp[Bt]at h;have e3:=Q3 (P:=P) (h3 0 x rfl) (h4 0 y rfl) hv (d+1);grind [w5]
theorem BF {d:Nat}:∀ (fs:List Field) (n:Nat) (E O:List SV) (xs V:Array Value) (b:Bool),v7 P n fs=true->eqL (fs.flatMap λf=>sa P f.type) E O=some b->n+E.length<=xs.size->n+O.length<=V.size->
  (∀ (j:Nat) (s:SV),E[j]? =some s->Rel F own w s (xs.getD (n+j) undef))->(∀ (j:Nat) (s:SV),O[j]? =some s->Rel F own w s (V.getD (n+j) undef))->
  (Op.eqFields (d+2) xs V fs).run P w=.ok b w
 | [],n,E,O,xs,V,b,_,h,_,_,_,_=>by
  cases E <;>cases O <;>simp[eqL]at h;simp_all [Op.eqFields]
 |f::fs,n,E,O,xs,V,b,X,h,h1,h2,h3,Y=>by
  simp only[v7,aoj]at X;have⟨⟨⟨q1,q2⟩,q3⟩,q4⟩:=X;have hn:f.name≠ "_":=g6
  have ho:f.offset=n:=aok q2;have hc:0< (sa P f.type).length:=nbl q3;simp[aoF]at h;have⟨b1,b2,e1,e2,e3,e4,e5⟩:=S8 h;subst e3;have⟨vx,vy,p1,p2,p3⟩:=WH (P:=P) (n:=n) e1 hc (by simp;omega) (by simp;omega) (by simp;omega) (by simp;omega) (λj s W=>h3 j s g6) (λj s W=>Y j s g6) d;simp[Op.eqFields,if_pos hn,ho,aoT,p1,p2,aoW,p3];cases b1 with
  |false=>simp
  |true=>
   have ih:=BF (d:=d) fs (n+(sa P f.type).length) (E.drop (sa P f.type).length) (O.drop (sa P f.type).length) xs V b2 q4 e2 (by simp;omega) (by simp;omega) (λj s W=>g6) (λj s W=>g6);grind
theorem UG{d:TypeDesc}(hd:P.underlying t=some d){xs:Array Value}(hx:ar7 F own w O xs)(hy:ar7 F own w X E){b:Bool}
  (hc:Lq P t d≠[]) (h:eqL (Lq P t d) O X=some b):(Op.equal t (.agg xs) (.agg E)).run P w=.ok b w/\P.eqGuardType P.depth t=false:=by
 cases d with
 |struct fs=>
  simp[Lq]at hc h;cases V:!P.stoodInHeld t&& !P.eqGuardType P.depth t&&v7 P 0 fs.toList with
  |false=>grind
  |true=>
   rw[V]at h;simp[aoj,aox]at V;have⟨⟨q1,q2⟩,q3⟩:=V;refine⟨?_,q2⟩;have Y:P.fieldsOf t=fs:=by simp[Program.fieldsOf,hd]
   unfold Op.equal Op.maxDepth;rw[run_equalIn_struct w 9999 t xs E g6 q1,Y];exact BF (P:=P) (d:=9997) fs.toList 0 O X xs E b q3 h (by rw[hx.1];omega) (by rw[hy.1];omega) (λj s W=>by simpa using hx.2 j s W) (λj s W=>by simpa using hy.2 j s W)
 |_=>exact absurd rfl hc
end
section
variable {P:Program}{F:Nat->Prop}{own:Own}{w:World}
def Own.move (b:Own)(K:List Nat)(c:Nat)(a:Hd):Own:=λj=>if j=c then some a else if j∈K then(b j).map (λa=>{ a with bs:=[]})else b j
theorem lD (nx:Nat)(E:Ob):∀ (K:List Nat) (h:List Ob) (j:Nat),nx ∉ K->(∀ id∈K,id<h.length)->
  ap (br h (K.map (λid=>(id,Ob.dead))++[(nx,E)])) j=(if j=nx then E else if j∈K then .dead else ap h j)/\h.length<=(br h (K.map (λid=>(id,Ob.dead))++[(nx,E)])).length/\nx< (br h (K.map (λid=>(id,Ob.dead))++[(nx,E)])).length
 | [],h,j,_,_=>by
  simp[aoZ,aos,br];refine⟨by simp_all [dU,eq_comm],?_,?_⟩ <;>rw[cT] <;>split <;>omega
 |id::K,h,j,hn,W=>by
  simp[aoD,not_or]at hn;have O:=W id (by simp);have V:(cW h id Ob.dead).length=h.length:=by rw[cT,if_pos O]
  have⟨q1,q2,q3⟩:=lD nx E K (cW h id .dead) j hn.2 (λi hi=>g6);simp[aoO,aoJ,br];rw[q1,dU];grind
variable {h:List Ob}
theorem mh(hp:Hp F own w h){nx:Nat}(hn:asQ own h nx){w':World}(K:List Nat)(hK:∀ id∈K,∃ hd,own id=some hd)(hd':Hd)(ob:Ob)
  (hbs:∀ b∈hd'.bs,(∃ id∈K,∃ hd,own id=some hd/\b∈hd.bs)\/(w.heap.size<=b/\b<w'.heap.size))
  (hold:∀ b,b<w.heap.size->(¬ ∃ id∈K,∃ hd,own id=some hd/\b∈hd.bs)->w'.heap[b]? =w.heap[b]?) (hsz:w.heap.size<=w'.heap.size) (q2:w'.os=w.os) (q3:w'.tape=w.tape) (q4:w'.output=w.output)
  (hob:∀ ee,aso F own w ee w'->ash F ee w' hd' ob) (hnd:d_ ob=false:=by rfl):Step F own w (br h (K.map (λid=>(id,Ob.dead))++[(nx,ob)])) (own.move K nx hd') w':=by
 have hnK:nx ∉ K:=λE=>by have⟨hd,e⟩:=hK nx E;rw[hn.none]at e;cases e
 have Y:∀ id∈K,id<h.length:=λid E=>by have⟨hd,e⟩:=hK id E;exact hp.dom _ _ e
 have fr:Fr { w:=w,own:=own} (own.move K nx hd') w':=by
  refine Fr.asH (λid hd h1=>?_) (λid hd b h1 h2=>?_) (λb hb hnb=>hold b hb λ⟨id,_,hd,e1,e2⟩ =>hnb ⟨id,hd,e1,e2⟩) hsz q2 q3 q4;have W:id≠nx:=λe=>by rw[e,hn.none]at h1;cases h1
  simp[Own.move,if_neg W];by_cases E:id∈K
  exact⟨{ hd with bs:=[]},by simp[E,h1],rfl,rfl,rfl⟩;exact⟨hd,by simp[E,h1],.refl _⟩;grind [Own.move]
 refine⟨hp.upd fr.asx (λid=>id=nx\/id∈K) (lD nx ob K h 0 hnK Y).2.1 (λid O=>?_) (λid hd O h1=>?_) (λid O hd=>?_),fr,λid h1 h2=>?_⟩
 rotate_left 3
 grind [lD,Own.move]
 simp[not_or]at O;refine⟨by grind [Own.move],by simp_all [lD],λhd b h1 h2=>hold b (hp.lt id hd b h1 h2) ?_⟩;rintro⟨X,E,V,e1,e2⟩;exact O.2 (hp.inj id X hd V b h1 e1 h2 e2▸E);simp[Own.move]at h1;by_cases e:id=nx
 subst e;rw[if_pos rfl]at h1;cases h1;refine⟨(lD _ ob K h 0 hnK Y).2.2,λb hb=>?_⟩;rcases hbs b hb with⟨X,E,V,e1,e2⟩ |h3;refine⟨aoy (hp.lt X V b e1 e2) hsz,hp.apart X V b e1 e2,λj hj W h4 h5=>?_⟩;simp[Own.move,if_neg W]at h4;by_cases hm2:j∈K
 grind
 rw[if_neg hm2]at h4;exact hm2 (hp.inj j X hj V b h4 e1 h5 e2▸E);refine⟨h3.2,λhf=>by have:=hp.arN b hf;omega,λj hj W h4 h5=>?_⟩;simp[Own.move,if_neg W]at h4;by_cases hm2:j∈K
 grind
 rw[if_neg hm2]at h4;have:=hp.lt j hj b h4 h5;omega;rw[if_neg e]at h1;have E:id∈K:=O.resolve_left e;rw[if_pos E]at h1;cases ho:own id with
 |none=>grind
 |some V=>
  rw[ho]at h1;simp at h1;subst h1;exact⟨aoy (Y id E) (lD nx ob K h 0 hnK Y).2.1,λb hb=>by simp at hb⟩
 rw[(lD nx ob K h id hnK Y).1]at hd |-;by_cases e:id=nx
 subst e;rw[if_pos rfl]at hd |-;exact⟨hd',by simp[Own.move],hob _ fr.asx⟩;rw[if_neg e]at hd;have E:id∈K:=O.resolve_left e;rw[if_pos E]at hd;cases hd
structure Src (P:Program)(F:Nat->Prop)(own:Own)(w:World)(k:Tag)(m:List k.T)(v:Value)(news:List Value):Prop where
 len:∃ a cap,v=.slice a m.length cap
 cells:∀ (w1:World),w1.heap=w.heap->(Builtin.firstCells (aa k) m.length v).run P w1=.ok news.toArray w1
 size:news.length=m.length*aa k
 rel:∀ (i:Nat) (x:k.T),m[i]? =some x->∀ (j:Nat) (s:SV),(cellsOf k x)[j]? =some s->∃ u,news[i*aa k+j]? =some u/\Rel F own w s u
variable {n:Nat}
theorem Oc{size p:Nat}(h:p<n*size):p / size<n/\p % size<size/\p / size*size+p % size=p:=by
 have E:0<size:=by
  grind
 refine⟨(Nat.div_lt_iff_lt_mul E).2 h,aqq _ E,?_⟩;grind [Nat.div_add_mod]
variable {k:Tag}{m:List k.T}{v:Value}
theorem Src.one{news:List Value}(h:Src P F own w k m v news):∀ u∈news,u.oneCell'=true:=by
 intro u E;have⟨p,hp⟩:=ao9 E;have hlt:=(aop.1 hp).1;rw[h.size]at hlt;have⟨h1,h2,h3⟩:=Oc hlt;have hc:p % aa k< (cellsOf k (m.getD (p / aa k) (fg k))).length:=by grind [cm]
 have⟨u',e1,e2⟩:=h.rel _ _ (uk h1) _ _ (aov hc);rw[h3,hp]at e1;simp[aoo]at e1;subst e1;exact nW (LK (aov hc) e2)
theorem Q4{l:List k.T}{b o cap:Nat}(hc:∀ (i:Nat) (x:k.T),l[i]? =some x->∀ (j:Nat) (s:SV),(cellsOf k x)[j]? =some s->∃ u,w.cell? ⟨b,o+i*aa k+j,none⟩=some u/\Rel F own w s u):
  ∃ news,Src P F own w k l (.slice (some ⟨b,o,none⟩) l.length cap) news:=by
 have key:∀ p,p<l.length*aa k->w.cell? ⟨b,o+p,none⟩=some ((w.cell? ⟨b,o+p,none⟩).getD undef):=by
  intro p V;have⟨h1,h2,h3⟩:=Oc V;have X:p % aa k< (cellsOf k (l.getD (p / aa k) (fg k))).length:=by grind [cm]
  have⟨u,e1,_⟩:=hc _ _ (uk h1) _ _ (aov X);grind
 refine⟨(List.range (l.length*aa k)).map λp=>(w.cell? ⟨b,o+p,none⟩).getD undef,⟨_,_,rfl⟩,λw1 O=>?_,by simp,λi x hi j s Y=>?_⟩;refine run_firstCells_some w1 _ _ _ _ _ _ (by simp) λj v Y=>?_;grind [oZ,wa]
 have E:=(aop.1 hi).1;have W:j<aa k:=by grind [cm]
 have hlt:i*aa k+j<l.length*aa k:=by
  have:(i+1)*aa k<=l.length*aa k:=aoz _ E;grind
 rw[apj,List.getElem?_range hlt];grind
theorem BG{a:Option Addr}{cap:Nat}:Src P F own w k [] (.slice a 0 cap) []:=
 ⟨⟨_,_,rfl⟩,λw1 _=>by cases a <;>simp[Builtin.firstCells,loadCells,loadCellsFrom],by simp,λi x h=>by simp at h⟩
theorem ul{k':Tag}{l:List k'.T}(h:Bw k k' l=some m):∃ e:k'=k,m=e▸l:=by
 grind [Bw]
theorem LN{l:List k.T}{bs:List Nat}(h:arY F own w k l v bs):∃ news,Src P F own w k l v news:=by
 rcases h with⟨a,rfl,rfl,_⟩ | ⟨b,o,cap,cs,ty,rfl,h2,W,V,X,Y,E⟩;exact⟨[],BG⟩;exact Q4 λi x hi j s O=>by
  have⟨u,e1,e2⟩:=E i x hi j s O;grind [fh]
theorem An {α:Type}{l:List α}{a b i:Nat}{x:α}(h:((l.take b).drop a)[i]? =some x):l[a+i]? =some x/\a+i<b:=by
 grind
variable {l:List k.T}
theorem WI{x:Value}{bs:List Nat}(h:arY F own w k l x bs){sz cap:Nat}{lo hi:Int}{a:Option Addr}(h2:adU x sz lo hi a)(hz:sz=aa k):
  ∃ news,Src P F own w k ((l.take hi.toNat).drop lo.toNat) (.slice a (hi.toNat - lo.toNat) cap) news:=by
 have nil:hi.toNat<=lo.toNat->∃ news,Src P F own w k ((l.take hi.toNat).drop lo.toNat) (.slice a (hi.toNat - lo.toNat) cap) news:=λX=>by
  have e:(l.take hi.toNat).drop lo.toNat=[]:=aq2 (by simp;omega);rw[e,show hi.toNat - lo.toNat=0 by omega];exact⟨[],BG⟩
 rcases h2 with h2| ⟨b,o,n,c,rfl,h3,rfl⟩;exact nil h2;rcases h with⟨a,e,rfl,_⟩ | ⟨b',o',V,cs,ty,e,q2,q3,q4,q5,q6,Y⟩;grind
 cases e;have E:((l.take hi.toNat).drop lo.toNat).length=hi.toNat - lo.toNat:=by simp;omega
 rw[<-E];exact Q4 λi x O j s W=>by
  have⟨e1,_⟩:=An O;have⟨u,g1,g2⟩:=Y _ x e1 j s W;grind [fh]
theorem LO(Y:Hp F own w h){s:SV}(hr:Rel F own w s v)(E:v_ k h s=some m):∃ news,Src P F own w k m v news:=by
 cases hr with
 |rs c h0 h0' h1 h2=>
  obtain⟨e,rfl⟩:=ul E;subst e;exact Q4 λi x hi j s hj=>⟨_,(h1 i x hi j s hj).2,h2 i x hi j s hj⟩
 |rs0=>
  obtain⟨e,rfl⟩:=ul E;subst e;exact⟨[],BG⟩
 |e0=>simp[v_]at E;subst E;exact⟨[],BG⟩
 |v x=>
  unfold v_ at E;split at E
  grind
  rename_i W;cases W;simp at E;subst E;exact⟨[],BG⟩;grind
  grind
  grind
  cases E
 |os h1 h2=>
  rename_i id hd;simp[v_]at E;cases O:ap h id with
  |row k' l=>
   rw[O]at E;obtain⟨e,rfl⟩:=ul E;subst e;have⟨hd',e0,e1⟩:=Y.at O rfl;rw[h1]at e0;cases e0;exact LN e1
  |_=>rw[O]at E;cases E
 |vw h1 h2 V=>
  rename_i sz id cap lo hi hd a;simp[v_]at E;cases O:ap h id with
  |row k' l=>
   rw[O]at E;simp[adK]at E;cases X:Nat.beq sz (aa k')with
   |false=>grind
   |true=>
    rw[X]at E;obtain⟨e,rfl⟩:=ul E;subst e;have⟨hd',e0,e1⟩:=Y.at O rfl;rw[h1]at e0;cases e0;exact WI e1 h2 (aok X)
  |_=>rw[O]at E;cases E
 |_=>simp[v_]at E
theorem sT (z:Array Value)(n:Nat):(Builtin.zeroCells z n).size=n*z.size:=by simp[Builtin.zeroCells]
variable {t t2 ty e e2:TypeId}{z:Value}{a0:Option Addr}{m:Nat}
theorem vp{i:TypeInfo}(ht:P.underlying t=some (.slice e))(W:P.underlying t2=some (.slice e2))(hi:P.info? e=some i)(hz:i.zero=some z){cap:Nat}{olds:List Value}
  (O:∀ w1:World,w1.heap=w.heap->(Builtin.firstCells i.size n (.slice a0 n cap)).run P w1=.ok olds.toArray w1)   {news:List Value} (hv:∃ a c,v=.slice a m c) (E:∀ w1:World,w1.heap=w.heap->(Builtin.firstCells i.size m v).run P w1=.ok news.toArray w1)
  (Y:cap<n+m) (h63:n+m<=9223372036854775807) (V:(n+m)*i.bytes<=dT):
  (Builtin.append_ #[t,t2] ty #[.slice a0 n cap,v]).run P w=.ok (.slice (some ⟨w.heap.size,0,none⟩) (n+m) (grownCap w (n+m) cap e)) (w.drew.alloc (.cells (olds.toArray++news.toArray++Builtin.zeroCells z.cells (grownCap w (n+m) cap e - (n+m))) e)):=by
 obtain⟨a,c,rfl⟩:=hv;have X:¬ (281474976710656<Builtin.nextslicecap (n+m) cap*i.bytes):=by have:=growslice_fits Y V;omega
 have h1:=O w.drew rfl;have h2:=E w.drew rfl;simp[Builtin.append_,run_underlying ht,run_underlying W,sizeOf,typeInfo,zeroValue,hi,hz,Builtin.lenOf,Question.forced,h1,h2,newRow,grownCap];grind
theorem yC{i:TypeInfo}(X:P.underlying t=some (.slice e))(O:P.underlying t2=some (.slice e2))(hi:P.info? e=some i){b o cap:Nat}{news:List Value}(Y:∃ a c,v=.slice a m c)(E:(Builtin.firstCells i.size m v).run P w=.ok news.toArray w)
  (W:n+m<=cap) {w':World} (V:(storeCells ⟨b,o+n*i.size,none⟩ news 0).run P w=.ok () w'):
  (Builtin.append_ #[t,t2] ty #[.slice (some ⟨b,o,none⟩) n cap,v]).run P w=.ok (.slice (some ⟨b,o,none⟩) (n+m) cap) w':=by
 obtain⟨a,c,rfl⟩:=Y;simp[Builtin.append_,run_underlying X,run_underlying O,sizeOf,typeInfo,hi,Builtin.lenOf,W,E,oZ,V]
theorem Ef{X:TypeId}{i:TypeInfo}(V:P.underlying t=some (.slice e))(O:P.underlying t2=some (.slice X))(hi:P.info? e=some i){cap:Nat}(W:∃ a c,v=.slice a 0 c)(E:(Builtin.firstCells i.size 0 v).run P w=.ok #[] w):
  (Builtin.append_ #[t,t2] ty #[.slice a0 0 cap,v]).run P w=.ok (.slice a0 0 cap) w:=by
 obtain⟨a,c,rfl⟩:=W;cases a0 <;>simp[Builtin.append_,run_underlying V,run_underlying O,sizeOf,typeInfo,hi,Builtin.lenOf,E,storeCells]
def tA (w:World)(E O:Nat)(e:TypeId):E<=grownCap w E O e:=grownCap_ge w E O e
def aaG (P:Program)(F:Nat->Prop)(b:Own)(w:World)(k:Tag)(l m:List k.T)(v:Value)(c:List Nat):Prop:=c=[]/\m≠[]/\(∃ a,v=.slice a l.length l.length)/\∃ olds,Src P F b w k l v olds
theorem UH(hp:Hp F own w h){nx:Nat}(hn:asQ own h nx){i:TypeInfo}(ht:P.underlying t=some (.slice e))(ht2:P.underlying t2=some (.slice e2))(hi:P.info? e=some i)(hz:i.zero=some z)(hzs:z.cells.size=i.size)(hk:i.size=aa k)(hby:1<=i.bytes)
  {m:List k.T} {u:Value} {bs:List Nat} (hrow:arY F own w k l v bs\/aaG P F own w k l m v bs) {K:List Nat} (hK:∀ id∈K,∃ hd,own id=some hd) (hKb:∀ b∈bs,∃ id∈K,∃ hd,own id=some hd/\b∈hd.bs) (hKo:∀ id∈K,∀ hd,own id=some hd->∀ b∈hd.bs,b∈bs)
  {news:List Value} (Y:Src P F own w k m u news) (hfit:(l++m).length*i.bytes<=dT):
  (l++m).length<=aI/\∃ v' hd' w',(Builtin.append_ #[t,t2] ty #[v,u]).run P w=.ok v' w'/\hd'.v=v'/\qZ v'=true/\Step F own w (br h (K.map (λid=>(id,Ob.dead))++[(nx,.row k (l++m))])) (own.move K nx hd') w':=by
 have hlen:(l++m).length<=aI:=by
  have:(l++m).length<=(l++m).length*i.bytes:=apw _ hby;grind [dT,aI]
 refine⟨hlen,?_⟩;have h63:(l++m).length<=9223372036854775807:=by grind [aI]
 have O:=Y.len;rw[aoq]at hlen h63 hfit;have W:∀ (a0:Option Addr) (cap:Nat) (olds:List Value),v=.slice a0 l.length cap->cap<l.length+m.length->(∀ w1:World,w1.heap=w.heap->(Builtin.firstCells i.size l.length v).run P w1=.ok olds.toArray w1)->olds.length=l.length*aa k->
   (∀ (i:Nat) (x:k.T),l[i]? =some x->∀ (j:Nat) (s:SV),(cellsOf k x)[j]? =some s->∃ u,olds[i*aa k+j]? =some u/\Rel F own w s u)->
   ∃ v' hd' w',(Builtin.append_ #[t,t2] ty #[v,u]).run P w=.ok v' w'/\hd'.v=v'/\qZ v'=true/\Step F own w (br h (K.map (λid=>(id,Ob.dead))++[(nx,.row k (l++m))])) (own.move K nx hd') w':=by
  intro a0 cap olds hv hcap X hol asX;rw[hv]at X;have E:=vp (P:=P) (ty:=ty) ht ht2 hi hz X O (by rw[hk];exact Y.cells) hcap h63 hfit;rw[<-hv]at E;have hge:=tA w (l.length+m.length) cap e;let cs:=olds.toArray++news.toArray++Builtin.zeroCells z.cells (grownCap w (l.length+m.length) cap e - (l.length+m.length))
  have hcs:cs.size=grownCap w (l.length+m.length) cap e*aa k:=by
   simp[cs,Array.size_append,aqa,sT,hzs,hk,hol,Y.size,<-aqP];grind
  refine⟨_,⟨none,_,[],[w.heap.size]⟩,_,E,rfl,rfl,mh hp hn K hK _ _ (λb hb=>?_) (λb hb _=>?_) ?_ rfl rfl rfl λee g=>?_⟩;simp_all;exact sb w.drew _ b hb;simp_all;refine .inr ⟨w.heap.size,0,grownCap w (l.length+m.length) cap e,cs,e,by simp,rfl,lW w.drew _,g5,g6,g6,λq x hq j s hj=>?_⟩;rw[apl]at hq;split at hq
  have⟨u',e1,e2⟩:=asX q x hq j s hj;refine⟨u',?_,e2.mono g⟩;grind
  have⟨u',e1,e2⟩:=Y.rel (q - l.length) x hq j s hj;refine⟨u',?_,e2.mono g⟩;have hb:=(aop.1 e1).1;have hqq:q*aa k+j=olds.length+((q - l.length)*aa k+j):=by
   have:q=l.length+(q - l.length):=g5
   grind
  simp only[cs];simp_all [aoL]
 rcases hrow with(⟨a,rfl,rfl,rfl⟩ | ⟨b,o,cap,cs,tyb,rfl,rfl,h3,h4,h5,h6,h7⟩) | ⟨rfl,hm,⟨a,hv⟩,olds,ho⟩
 rotate_left 2
 have:0<m.length:=ao8.2 hm;exact W a l.length olds hv g5 (by rw[hk];exact ho.cells) ho.size ho.rel;by_cases hm:m=[]
 subst hm;have hnw:news=[]:=aoE (by simpa using Y.size);subst hnw;have E:=Ef (P:=P) (ty:=ty) ht ht2 hi (a0:=a) (cap:=0) O (by have:=Y.cells w rfl;rw[hk];exact this);exact⟨_,⟨none,_,[],[]⟩,w,E,rfl,rfl,mh hp hn K hK _ _ (λb hb=>by simp at hb) (λ_ _ _=>rfl) (aom _) rfl rfl rfl λee g=>.inl ⟨a,rfl,rfl,rfl⟩⟩;have:0<m.length:=ao8.2 hm;exact W a 0 [] rfl g5 (λw1 _=>by cases a <;>simp[Builtin.firstCells,loadCells,loadCellsFrom]) (by simp) (λi x hx=>by simp at hx);by_cases V:l.length+m.length<=cap
 have hfits:o+l.length*aa k+news.length<=cs.size:=by
  rw[Y.size];have:(l.length+m.length)*aa k<=cap*aa k:=aoz _ V;grind
 obtain⟨cs',w',q1,q2,q3,q4⟩:=li (P:=P) (b:=b) (o:=o+l.length*aa k) (ty:=tyb) news 0 w cs h3 g5 Y.one;have E:=yC (P:=P) (ty:=ty) ht ht2 hi (b:=b) (o:=o) (n:=l.length) (cap:=cap) O (by have:=Y.cells w rfl;rw[hk];exact this) V (w':=w') g6;refine⟨_,⟨none,_,[],[b]⟩,w',E,rfl,rfl,mh hp hn K hK _ _ (λb' hb'=>g6) (λb' hb' hn'=>q2.other b' λe=>hn' (by simp_all)) (by rw[q2.size];omega) q2.os q2.tape q2.output λee g=>?_⟩;refine .inr ⟨b,o,cap,cs',tyb,by simp,rfl,q2.here,g5,g6,g6,λq x hq j s hj=>?_⟩;have hjl:j<aa k:=by grind [cm]
 rw[apl]at hq;split at hq
 rename_i hlt;have⟨u',e1,e2⟩:=h7 q x hq j s hj;refine⟨u',?_,e2.mono g⟩;have:(q+1)*aa k<=l.length*aa k:=aoz _ hlt;grind
 have⟨u',e1,e2⟩:=Y.rel (q - l.length) x hq j s hj;refine⟨u',?_,e2.mono g⟩;have hb:=(aop.1 e1).1;have hqq:o+q*aa k+j=o+l.length*aa k+0+((q - l.length)*aa k+j):=by
  have:q=l.length+(q - l.length):=g5
  grind
 simp_all;have⟨olds,ho⟩:=LN (P:=P) (F:=F) (own:=own) (w:=w) (k:=k) (l:=l) (v:=.slice (some ⟨b,o,none⟩) l.length cap) (bs:=[b]) (.inr ⟨b,o,cap,cs,tyb,rfl,rfl,h3,h4,h5,h6,h7⟩);exact W (some ⟨b,o,none⟩) cap olds rfl g5 (by rw[hk];exact ho.cells) ho.size ho.rel
end
section
variable {P:Program}{F:Nat->Prop}{own:Own}{w:World}
variable {v:Value}
theorem jz{id:Nat}(h:Rel F own w (.os id) v):∃ hd,own id=some hd/\v=hd.v/\qZ hd.v=true:=by
 cases h with|os h1 h2=>grind
variable {k:Tag}
theorem arY.blocks{l:List k.T}{bs:List Nat}(h:arY F own w k l v bs):bs=[]\/∃ b,bs=[b]:=by
 rcases h with⟨_,_,_,e⟩ | ⟨b,_,_,_,_,_,e,_⟩ <;>grind
variable {m:List k.T}
theorem ar1.app{u:Value}{E:List Nat}(W:qZ u=true)(O:arY F own w k m u E):∀ {l:List (List k.T)} {vs:List Value} {bs:List Nat},ar1 F own w k l vs bs->ar1 F own w k (l++[m]) (vs++[u]) (bs++E)
 | [],[],bs,h=>by grind [ar1]
 |l::ls,v::vs,bs,⟨c1,V,h1,Y,h2,X⟩ =>⟨c1,V++E,g6,Y,h2,ar1.app W O X⟩
 | [],_::_,_,h=>h.elim|_::_,[],_,h=>h.elim
variable {h:List Ob}{t t2 ty e e2:TypeId}{z:Value}
theorem Gm(hp:Hp F own w h){nx:Nat}(hn:asQ own h nx){i:TypeInfo}(ht:P.underlying t=some (.slice e))(ht2:P.underlying t2=some (.slice e2))(hi:P.info? e=some i)(hz:i.zero=some z)(hsz:i.size=1)(hzs:z.cells.size=1)(hby:1<=i.bytes)
   {l:List (List k.T)}  {hd E:Hd} {id2:Nat} (W:own id2=some E) (ho2:ap h id2=.row k m) (hone:qZ E.v=true) {K:List Nat}
  (hob:ash F own w hd (.ar2 k l)) (hd0:(hd.bs=[]/\K=[id2])\/∃ id,id≠id2/\own id=some hd/\K=[id,id2]) {u:Value} (hu:Rel F own w (.ls 1 [.os id2]) u) (hfit:(l++[m]).length*i.bytes<=dT):
  (l++[m]).length<=aI/\∃ v' hd' w',(Builtin.append_ #[t,t2] ty #[hd.v,u]).run P w=.ok v' w'/\hd'.v=v'/\qZ v'=true/\Step F own w (br h (K.map (λid=>(id,Ob.dead))++[(nx,.ar2 k (l++[m]))])) (own.move K nx hd') w':=by
 have hlen:(l++[m]).length<=aI:=by
  have:(l++[m]).length<=(l++[m]).length*i.bytes:=apw _ hby;grind [dT,aI]
 refine⟨hlen,?_⟩;have h63:(l++[m]).length<=9223372036854775807:=by grind [aI]
 simp only[aoq,aon,aoI,aou]at hlen h63 hfit;obtain⟨hd2',e0,hm⟩:=hp.at ho2 rfl;rw[W]at e0;cases e0;have hK2:id2∈K:=g6
 have hK:∀ id∈K,∃ hd,own id=some hd:=by
  grind
 have hKb:∀ b∈hd.bs,∃ id∈K,∃ hd,own id=some hd/\b∈hd.bs:=by
  grind
 have hdisj:∀ b∈hd.bs,b ∉ E.bs:=by
  rcases hd0 with⟨h1,rfl⟩ | ⟨id,hne,h1,rfl⟩;grind
  intro b hb hb2;exact hne (hp.inj id id2 hd E b h1 W hb hb2)
 have hlt:∀ b∈hd.bs,b<w.heap.size:=λb hb=>by have⟨id,_,hd',h1,h2⟩:=hKb b hb;exact hp.lt id hd' b h1 h2
 have hnd2:E.bs.Nodup:=by
  rcases hm.blocks with e| ⟨b,e⟩ <;>rw[e] <;>simp
 have hsrc:∃ a c,u=.slice a 1 c/\∀ w1:World,w1.heap=w.heap->(Builtin.firstCells i.size 1 u).run P w1=.ok #[E.v] w1:=by
  cases hu with
  |ls c hz h0 h1 h2=>
   rename_i m b o cap;have hm1:m=1:=by simpa using hz
   subst hm1;have⟨q1,q2⟩:=h1 0 _ rfl;have⟨hd3,q3,q4,q5⟩:=jz (h2 0 _ rfl);refine⟨_,_,rfl,λw1 hw1=>?_⟩;have:=run_firstCells_some (P:=P) w1 i.size 1 ⟨b,o,none⟩ 1 cap [E.v] (by simp[hsz]) (λj v hj=>by
    grind [oZ,wa])
   omega
 obtain⟨au,cu,hue,X⟩:=hsrc;have fin:∀ (ee:Own) (w':World),aso F own w ee w'->(∀ b∈E.bs,w'.heap[b]? =w.heap[b]?)->arY F ee w' k m E.v E.bs:=λee w' g hb=>arY.carry g.asr hb hm;have grow:∀ (a0:Option Addr) (cap:Nat) (bs:List Nat),hd.v=.slice a0 l.length cap->cap<l.length+1->(∀ w1:World,w1.heap=w.heap->(Builtin.firstCells i.size l.length hd.v).run P w1=.ok hd.vs.toArray w1)->hd.vs.length=l.length->bs.Nodup->(∀ b∈bs,b∈hd.bs)->
   ar1 F own w k l hd.vs bs->
   ∃ v' hd' w',(Builtin.append_ #[t,t2] ty #[hd.v,u]).run P w=.ok v' w'/\hd'.v=v'/\qZ v'=true/\Step F own w (br h (K.map (λid=>(id,Ob.dead))++[(nx,.ar2 k (l++[m]))])) (own.move K nx hd') w':=by
  intro a0 cap bs hv hcap holds hol hbn hbsub hgi;rw[hv]at holds;have V:=vp (P:=P) (ty:=ty) ht ht2 hi hz holds ⟨au,cu,hue⟩ (news:=[E.v]) X hcap h63 hfit;rw[<-hv]at V;have hge:=tA w (l.length+1) cap e;let cs:=hd.vs.toArray++[E.v].toArray++Builtin.zeroCells z.cells (grownCap w (l.length+1) cap e - (l.length+1))
  have hcs:cs.size=grownCap w (l.length+1) cap e:=by
   grind [sT]
  refine⟨_,⟨none,_,hd.vs++[E.v],w.heap.size::(bs++E.bs)⟩,_,V,rfl,rfl,mh hp hn K hK _ _ (λb hb=>?_) (λb hb _=>?_) ?_ rfl rfl rfl λee g=>?_⟩;simp_all <;>grind;exact sb w.drew _ b hb;simp_all;have O:∀ b,b<w.heap.size->(w.drew.alloc (.cells cs e)).heap[b]? =w.heap[b]?:=λb hb=>sb w.drew _ b hb;refine .inr ⟨w.heap.size,0,grownCap w (l.length+1) cap e,cs,e,bs++E.bs,by simp,rfl,?_,lW w.drew _,g5,g6,g6,λq v hq=>?_,?_⟩;rw[ao2,apF];refine⟨λhb=>?_,hbn,hnd2,λa ha b hb e=>hdisj a (hbsub a ha) (e▸hb)⟩;rcases aoQ.1 hb with hb|hb;grind
  exact apt _ (hp.lt id2 E _ W hb);grind
  exact ar1.app hone (fin ee _ g λb hb=>O b (hp.lt id2 E b W hb)) (hgi.carry g.asr λb hb=>O b (hlt b (hbsub b hb)))
 rcases hob with⟨hv,rfl,hvs,hbs⟩ | ⟨b,o,cap,cs,tyb,bs,hv,hbs,hbn,h4,h5,h6,h7,h8,h9⟩;refine grow none 0 [] hv (by simp) (λw1 _=>by simp_all [Builtin.firstCells]) (by rw[hvs];rfl) apL (λb hb=>by cases hb) ?_;rw[hvs];rfl;have Y:=hbn;rw[hbs,ao2]at Y;by_cases hroom:l.length+1<=cap
 obtain⟨cs',w',q1,q2,q3,q4⟩:=li (P:=P) (b:=b) (o:=o+l.length*i.size) (ty:=tyb) [E.v] 0 w cs h4 g6 (λv hv=>by grind [nW]);have V:=yC (P:=P) (ty:=ty) ht ht2 hi (b:=b) (o:=o) (n:=l.length) (cap:=cap) (news:=[E.v]) ⟨au,cu,hue⟩ (X w rfl) hroom (w':=w') q1;have O:∀ c,c≠b->w'.heap[c]? =w.heap[c]?:=q2.other;rw[<-hv]at V;refine⟨_,⟨none,_,hd.vs++[E.v],b::(bs++E.bs)⟩,w',V,rfl,rfl,mh hp hn K hK _ _ (λc hc=>?_) (λb' hb' hn'=>q2.other b' λe=>hn' g6) (by rw[q2.size];omega) q2.os q2.tape q2.output λee g=>?_⟩;grind
 refine .inr ⟨b,o,cap,cs',tyb,bs++E.bs,by simp,rfl,?_,q2.here,g5,g6,g6,λq v hq=>?_,?_⟩;grind
 have hvl:=h9.len;rw[apl]at hq;split at hq
 grind
 have:q=hd.vs.length:=g6
 simp_all;exact ar1.app hone (fin ee _ g λc hc=>O c λe=>hdisj b (by simp[hbs]) (e▸hc)) (h9.carry g.asr λc hc=>O c λe=>Y.1 (e▸hc));refine grow _ cap bs hv g5 (λw1 hw1=>?_) h9.len Y.2 (λc hc=>g6) h9;rw[hv];refine run_firstCells_some (P:=P) w1 i.size l.length ⟨b,o,none⟩ _ cap hd.vs (by rw[h9.len,hsz,aqu]) λj v hj=>?_;grind [oZ,fh]
def _root_.Go.Sx.Own.fz (a:Own)(b:Nat):Own:=λj=>if j=b then(a j).map (λc=>{ c with bs:=[]})else a j
theorem adW(V:Hp F own w h){id:Nat}{hd:Hd}(E:own id=some hd){b:Nat}(O:b∈hd.bs):¬dA F (own.fz id) b:=by
 rintro (hf| ⟨j,Y,e,X⟩);exact V.apart id hd b E O hf;simp[Own.fz]at e;by_cases W:j=id
 grind
 rw[if_neg W]at e;exact W (V.inj j id Y hd b e E X O)
theorem adX(E:Hp F own w h){id b:Nat}(Y:w.heap.size<=b):¬dA F (own.fz id) b:=by
 rintro (X| ⟨j,W,e,O⟩);exact absurd (E.arN b X) g5;simp[Own.fz]at e;by_cases V:j=id
 simp_all <;>grind;rw[if_neg V]at e;exact absurd (E.lt j W b e O) g5
theorem WJ {id:Nat}{hd:Hd}(O:own id=some hd){w':World}(E:∀ b,b<w.heap.size->b ∉ hd.bs->w'.heap[b]? =w.heap[b]?)(W:w.heap.size<=w'.heap.size)(Y:w'.os=w.os)(q3:w'.tape=w.tape)(q4:w'.output=w.output):Fr { w:=w,own:=own} (own.fz id) w':=by
 refine Fr.asH (λj X h1=>?_) (λj X b h1 h2=>?_) (λb hb V=>E b hb λhm=>V ⟨id,hd,O,hm⟩) W Y q3 q4;simp[Own.fz];by_cases e:j=id
 exact⟨{ X with bs:=[]},g6,rfl,rfl,rfl⟩;exact⟨X,g6,.refl _⟩;grind [Own.fz]
theorem LP(W:Hp F own w h){id:Nat}{hd:Hd}(O:own id=some hd){w':World}(E:Ob)(fr:Fr { w:=w,own:=own} (own.fz id) w')(V:∀ b,b<w.heap.size->b ∉ hd.bs->w'.heap[b]? =w.heap[b]?)
  (hob:ash F (own.fz id) w' { hd with bs:=[]} E):Step F own w (br h [(id,E)]) (own.fz id) w':=by
 have hl:id<h.length:=W.dom _ _ O;have hat:∀ j,ap (br h [(id,E)]) j=if id=j then E else ap h j:=λj=>dU ..;have Y:(br h [(id,E)]).length=h.length:=by show(cW h id E).length=_;rw[cT,if_pos hl]
 refine⟨W.upd fr.asx (λj=>j=id) g5 (λj X=>?_) (λj X hu h1=>?_) (λj hu _=>?_),fr,λj h1 _=>?_⟩;refine⟨by simp[Own.fz,X],g6,λhd' b h1 h2=>V b (W.lt j hd' b h1 h2) λhm=>X (W.inj j id hd' hd b h1 O h2 hm)⟩;simp[Own.fz]at h1;grind
 simp_all [Own.fz];grind [Own.fz]
variable {l:List k.T}
theorem asb.rs{o b cap:Nat}{cs:Array Value}(hc:l.length<=cap)(X:l.length<=aI)(V:¬dA F own b)(W:w.heap[b]? =some (.cells cs ty (0,0)))(O:asb F own w k l o cs):Rel F own w (.rs k l) (.slice (some ⟨b,o,none⟩) l.length cap):=by
 refine .rs (λi j=>cs.getD (o+i*aa k+j) undef) hc X (λi x hi j s E=>⟨V,?_⟩) (λi x hi j s E=>?_);have⟨u,e1,_⟩:=O i x hi j s E;rw[fh W];simp_all;have⟨u,e1,e2⟩:=O i x hi j s E;simp_all
theorem Q5(hp:Hp F own w h){i:TypeInfo}(ht:P.underlying t=some (.slice e))(ht2:P.underlying t2=some (.slice e2))(hi:P.info? e=some i)(hz:i.zero=some z)(hzs:z.cells.size=i.size)(hk:i.size=aa k)(hby:1<=i.bytes)
   {id:Nat} {hd:Hd} (hid:own id=some hd) (hrow:arY F own w k l hd.v hd.bs) (hfit:(l++l).length*i.bytes<=dT):
  (l++l).length<=aI/\∃ v' w',(Builtin.append_ #[t,t2] ty #[hd.v,hd.v]).run P w=.ok v' w'/\Rel F (own.fz id) w' (.rs k (l++l)) v'/\Step F own w (br h [(id,.fz k l)]) (own.fz id) w':=by
 have hlen:(l++l).length<=aI:=by
  have:(l++l).length<=(l++l).length*i.bytes:=apw _ hby;grind [dT,aI]
 refine⟨hlen,?_⟩;have h63:(l++l).length<=9223372036854775807:=by grind [aI]
 obtain⟨news,hs⟩:=LN (P:=P) hrow;have W:=hs.len;have hlen2:=hlen;rw[aoq]at hlen2 h63 hfit;have two:∀ (ee:Own) (w':World),aso F own w ee w'->∀ (o:Nat) (cs:Array Value),(∀ (q:Nat) (x:k.T),l[q]? =some x->∀ (j:Nat) (s:SV),(cellsOf k x)[j]? =some s->∃ u,cs[o+q*aa k+j]? =some u/\Rel F own w s u)->
   (∀ (q:Nat) (x:k.T),l[q]? =some x->∀ (j:Nat) (s:SV),(cellsOf k x)[j]? =some s->∃ u,cs[o+l.length*aa k+(q*aa k+j)]? =some u/\Rel F own w s u)->asb F ee w' k (l++l) o cs:=by
  intro ee w' g o cs a1 a2 q x Y j s hj;rw[apl]at Y;split at Y
  have⟨u,e1,e2⟩:=a1 q x Y j s hj;exact⟨u,e1,e2.mono g⟩;have⟨u,e1,e2⟩:=a2 (q - l.length) x Y j s hj;refine⟨u,?_,e2.mono g⟩;have hqq:o+q*aa k+j=o+l.length*aa k+((q - l.length)*aa k+j):=by
   have:q=l.length+(q - l.length):=g5
   grind
  simp_all
 rcases hrow with⟨a,hv,rfl,hbs⟩ | ⟨b,o,cap,cs,tyb,hv,hbs,h3,h4,h5,h6,h7⟩;have hnw:news=[]:=aoE (by simpa using hs.size);subst hnw;have E:=hs.cells w rfl;have O:=Ef (P:=P) (ty:=ty) ht ht2 hi (a0:=a) (cap:=0) W (by rw[hk];exact E);rw[<-hv]at O;have fr:=WJ hid (w':=w) (λ_ _ _=>rfl) (aom _) rfl rfl rfl;exact⟨_,w,O,by rw[hv];exact .rs0,LP hp hid _ fr (λ_ _ _=>rfl) (by rw[hv];exact .rs0)⟩;have hnb:¬dA F (own.fz id) b:=adW hp hid (by simp[hbs]);have E:=hs.cells;rw[hv]at W E;by_cases hroom:l.length+l.length<=cap
 have hfits:o+l.length*aa k+news.length<=cs.size:=by
  rw[hs.size];have:(l.length+l.length)*aa k<=cap*aa k:=aoz _ hroom;grind
 obtain⟨cs',w',q1,q2,q3,q4⟩:=li (P:=P) (b:=b) (o:=o+l.length*aa k) (ty:=tyb) news 0 w cs h3 g5 hs.one;have O:=yC (P:=P) (ty:=ty) ht ht2 hi (b:=b) (o:=o) (n:=l.length) (cap:=cap) W (by rw[hk];exact E w rfl) hroom (w':=w') g6;rw[<-hv]at O;have V:∀ X,X<w.heap.size->X ∉ hd.bs->w'.heap[X]? =w.heap[X]?:=λX _ hn=>q2.other X λe=>hn g6;have fr:=WJ hid V (by rw[q2.size];omega) q2.os q2.tape q2.output;have hat:=two _ _ fr.asx o cs' (λq x Y j s hj=>by
   have⟨u',e1,e2⟩:=h7 q x Y j s hj;have hjl:j<aa k:=by grind [cm]
   have hlt:=(aop.1 Y).1;have:(q+1)*aa k<=l.length*aa k:=aoz _ hlt;grind) (λq x Y j s hj=>by
   have⟨u',e1,e2⟩:=hs.rel q x Y j s hj;have hb:=(aop.1 e1).1;simp_all)
 refine⟨_,w',O,?_,LP hp hid _ fr V ?_⟩;have:=asb.rs (cap:=cap) g6 hlen hnb q2.here hat;grind
 rw[hv];exact asb.rs h5 h6 hnb q2.here λq x Y=>hat q x g6;have O:=vp (P:=P) (ty:=ty) (a0:=some ⟨b,o,none⟩) (n:=l.length) (olds:=news) ht ht2 hi hz (λw1 hw1=>by rw[hk];exact E w1 hw1) W (by rw[hk];exact E) g5 h63 hfit;rw[<-hv]at O;have hge:=tA w (l.length+l.length) cap e;let cs2:=news.toArray++news.toArray++Builtin.zeroCells z.cells (grownCap w (l.length+l.length) cap e - (l.length+l.length))
 have V:∀ X,X<w.heap.size->(w.drew.alloc (.cells cs2 e)).heap[X]? =w.heap[X]?:=λX hb'=>sb w.drew _ X hb';have fr:=WJ hid (w':=w.drew.alloc (.cells cs2 e)) (λX hb' _=>V X hb') g6 rfl rfl rfl;have hat:=two _ _ fr.asx 0 cs2 (λq x Y j s hj=>by
   have⟨u',e1,e2⟩:=hs.rel q x Y j s hj;grind) (λq x Y j s hj=>by
   have⟨u',e1,e2⟩:=hs.rel q x Y j s hj;have hb:=(aop.1 e1).1;have hsz:=hs.size;simp only[cs2];simp_all [aoL])
 refine⟨_,_,O,?_,LP hp hid _ fr (λX hb' _=>V X hb') ?_⟩;have:=asb.rs (cap:=grownCap w (l.length+l.length) cap e) g6 hlen (adX hp (id:=id) (aom _)) (lW w.drew _) hat;grind
 rw[hv];refine asb.rs h5 h6 hnb (by rw[V b (vj h3)];exact h3) λq x Y j s hj=>?_;have⟨u',e1,e2⟩:=h7 q x Y j s hj;exact⟨u',e1,e2.mono fr.asx⟩
theorem Q6(hp:Hp F own w h){i:TypeInfo}(ht:P.underlying t=some (.slice e))(ht2:P.underlying t2=some (.slice e2))(hi:P.info? e=some i)(hz:i.zero=some z)(hzs:z.cells.size=i.size)(hk:i.size=aa k)(hby:1<=i.bytes)
   (hm:m≠[]) {a:Option Addr} {u:Value} {olds news:List Value} (ho:Src P F own w k l (.slice a l.length l.length) olds) (hs:Src P F own w k m u news) (O:(l++m).length*i.bytes<=dT):
  (l++m).length<=aI/\∃ v' w',(Builtin.append_ #[t,t2] ty #[.slice a l.length l.length,u]).run P w=.ok v' w'/\Rel F own w' (.rs k (l++m)) v'/\Step F own w (br h []) own w':=by
 have E:(l++m).length<=aI:=by
  have:(l++m).length<=(l++m).length*i.bytes:=apw _ hby;grind [dT,aI]
 refine⟨E,?_⟩;have Y:(l++m).length<=9223372036854775807:=by grind [aI]
 have W:=E;rw[aoq]at W Y O;have hm1:0<m.length:=ao8.2 hm;have X:=vp (P:=P) (w:=w) (ty:=ty) (a0:=a) (n:=l.length) (olds:=olds) ht ht2 hi hz (λw1 hw1=>by rw[hk];exact ho.cells w1 hw1) hs.len (by rw[hk];exact hs.cells) g5 Y O;let cs2:=olds.toArray++news.toArray++Builtin.zeroCells z.cells (grownCap w (l.length+m.length) l.length e - (l.length+m.length))
 have V:Below w.heap.size w (w.drew.alloc (.cells cs2 e)):=⟨rfl,rfl,rfl,by show w.heap.size<=(w.heap.push _).size;rw[Array.size_push];omega,λb V=>sb w.drew _ b V⟩;have hge:=tA w (l.length+m.length) l.length e;refine⟨_,_,X,?_,hp.below V,(Fr.refl { w:=w,own:=own}).below V,λ_ h1 _=>h1⟩;have g:aso F own w own (w.drew.alloc (.cells cs2 e)):=((Fr.refl { w:=w,own:=own}).below V).asx;have:=asb.rs (F:=F) (own:=own) (k:=k) (l:=l++m) (cap:=grownCap w (l.length+m.length) l.length e) g6 E (λho=>by
  rcases ho with hf| ⟨j,hj,e,hm⟩;exact absurd (hp.arN _ hf) (apt _);exact absurd (hp.lt j hj _ e hm) (apt _)) (lW w.drew (.cells cs2 e)) (o:=0) (λq x hq j s hj=>by
  have o1:=ho.size;rw[apl]at hq;split at hq
  have⟨u',e1,e2⟩:=ho.rel q x hq j s hj;refine⟨u',?_,e2.mono g⟩;have V:=(aop.1 e1).1;rw[aoL (by simp;omega),aoL (by simpa using V)];simpa using e1;have⟨u',e1,e2⟩:=hs.rel (q - l.length) x hq j s hj;refine⟨u',?_,e2.mono g⟩;have V:=(aop.1 e1).1;have hqq:0+q*aa k+j=olds.length+((q - l.length)*aa k+j):=by
   have:q=l.length+(q - l.length):=g5
   grind
  rw[hqq];rw[aoL (by simp;omega),apG (by simp)];simpa using e1)
 rw[aoq]at this;exact this
def Eg (F:Nat->Prop)(own:Own)(w:World)(h:List Ob)(run:Result Value)(r:OR):Prop:=
 ∃ c a ups s,r=.eff c a ups s/\(c->a/\∃ u ee w',run=.ok u w'/\Rel F ee w' s u/\Step F own w (br h ups) ee w')
theorem Fy(hp:Hp F own w h){nx:Nat}(hn:asQ own h nx){ti X te:TI}(ht:ku P t=some ti)(ht2:ku P t2=some X)(hte:ku P ti.elem=some te)(hsl:ti.isSlice=true)(V:X.isSlice=true)
    {u:Value} {bs:List Nat} (W:arY F own w k l v bs) {K:List Nat} (hK:∀ id∈K,∃ hd,own id=some hd) (hKb:∀ b∈bs,∃ id∈K,∃ hd,own id=some hd/\b∈hd.bs) (hKo:∀ id∈K,∀ hd,own id=some hd->∀ b∈hd.bs,b∈bs) {E:SV} (Y:Rel F own w E u) {r:OR} (O:x8 te nx (K.map λid=>(id,Ob.dead)) h E (.row k l)=r) (hne:r≠ .bad):
  Eg F own w h ((Builtin.append_ #[t,t2] ty #[v,u]).run P w) r:=by
 obtain⟨i,d,z,hi,hd,hz,hq,rfl⟩:=ce ht;obtain⟨i2,d2,z2,hi2,hd2,hz2,hq2,rfl⟩:=ce ht2;have⟨ie,de,ze,hie,hde,hze,hqe,hte'⟩:=ce hte;cases d <;>simp[eK]at hsl;cases d2 <;>simp[eK]at V;simp[x8]at O;cases hc:Nat.beq te.size (aa k)&&Nat.beq (sz te.zero) te.size&&Nat.ble 1 te.bytes with
 |false=>grind
 |true=>
  rw[hc]at O;cases hs:v_ k h E with
  |none=>rw[hs]at O;exact absurd O.symm hne
  |some m=>
   rw[hs]at O;subst O;simp only[aoj,se]at hc;have hes:te.size=ie.size:=by rw[hte'];rfl
   have heb:te.bytes=ie.bytes:=by rw[hte'];rfl
   have hez:te.zero=svs ze:=by simp_all [eK]
   have c1:=aok hc.1.1;have c2:=aok hc.1.2;have c3:=nbl hc.2;have⟨news,hsr⟩:=LO (P:=P) hp Y hs;refine⟨_,_,_,_,rfl,λhfit=>?_⟩;have⟨q1,v',hd',w',q2,q3,q4,q5⟩:=UH (P:=P) (ty:=ty) hp hn hd hd2 hie hze (by grind [svs]) (k:=k) g5 g5 (.inl W) hK hKb hKo hsr g6;refine⟨q1,v',_,w',q2,?_,q5⟩;rw[<-q3];exact .os (by simp[Own.move]) g6
theorem aaH(hp:Hp F own w h){nx:Nat}(hn:asQ own h nx){ti ti2 te:TI}(ht:ku P t=some ti)(ht2:ku P t2=some ti2)(hte:ku P ti.elem=some te)(hsl:ti.isSlice=true)(Y:ti2.isSlice=true)
  {l:List SV} {vs:Array Value} (hl:ar7 F own w l vs) {r:OR} (E:nU te nx h l=r) (W:r≠ .bad):Eg F own w h ((Builtin.append_ #[t,t2] ty vs).run P w) r:=by
 have two:∀ (d s:SV),l=[d,s]->∃ vd vu,vs= #[vd,vu]/\Rel F own w d vd/\Rel F own w s vu:=by
  rintro d s rfl;obtain⟨⟨a⟩⟩:=vs;exact absurd hl.1 (by simp);rename_i x xs;cases xs with
  |nil=>exact absurd hl.1 (by simp)
  |cons y ys=>
   cases ys with
   |nil=>exact⟨x,y,rfl,by simpa using hl.2 0 _ rfl,by simpa using hl.2 1 _ rfl⟩
   |cons _ _=>exact absurd hl.1 (by simp)
 have ar2:∀ (e e2:TypeId) (ie:TypeInfo) (ze:Value),P.underlying t=some (.slice e)->P.underlying t2=some (.slice e2)->P.info? e=some ie->ie.zero=some ze->te.size=ie.size->te.bytes=ie.bytes->te.zero=svs ze->True:=λ_ _ _ _ _ _ _ _ _ _ _=>trivial;obtain⟨i,d,z,hi,hd,hz,hq,hti⟩:=ce ht;obtain⟨i2,d2,z2,hi2,X,hz2,hq2,hti2⟩:=ce ht2;obtain⟨ie,de,ze,hie,hde,hze,hqe,hte'⟩:=ce hte;have hes:te.size=ie.size:=by rw[hte'];rfl
 have heb:te.bytes=ie.bytes:=by rw[hte'];rfl
 have hez:te.zero=svs ze:=by simp_all [eK]
 have hsle:∃ e,d=.slice e/\P.info? e=some ie:=by
  subst hti;cases d <;>simp[eK]at hsl;grind [eK]
 have hsle2:∃ e,d2=.slice e:=by
  subst hti2;cases d2 <;>simp[eK]at Y;grind
 obtain⟨e,rfl,hie'⟩:=hsle;obtain⟨e2,rfl⟩:=hsle2;unfold nU at E;split at E
 ·rename_i id id2;obtain⟨vd,vu,rfl,V,O⟩:=two _ _ rfl;cases hc:Nat.beq te.size 1&&Nat.beq (sz te.zero) 1&&Nat.ble 1 te.bytes&& !(Nat.beq id id2)with
  |false=>grind
  |true=>
   rw[hc]at E;simp only[aoj,se]at hc;have c1:=aok hc.1.1.1;have c2:=aok hc.1.1.2;have c3:=nbl hc.1.2;have hne2:id≠id2:=λe=>by simp_all
   cases ho:ap h id with
   |ar2 k l=>
    rw[ho]at E;simp[F6]at E;cases ho2:ap h id2 with
    |row k' m'=>
     rw[ho2]at E;simp[aap]at E;cases hcast:Bw k k' m' with
     |none=>rw[hcast]at E;exact absurd E.symm W
     |some m=>
      obtain⟨ek,rfl⟩:=ul hcast;subst ek;rw[hcast]at E;subst E;obtain⟨hdd,h1,rfl,h2⟩:=jz V;have⟨hd',e0,e1⟩:=hp.at ho rfl;rw[h1]at e0;cases e0;have h2id:∃ X,own id2=some X/\qZ X.v=true:=by
       cases O with
       |ls c hz h0 q1 q2=>have⟨hd3,q3,q4,q5⟩:=jz (q2 0 _ rfl);grind
      have⟨hdd2,h3,h4⟩:=h2id;refine⟨_,_,_,_,rfl,λhfit=>?_⟩;have⟨q1,v',hd',w',q2,q3,q4,q5⟩:=Gm (P:=P) (ty:=ty) hp hn hd X hie' hze g5 (by grind [svs]) g5 h3 ho2 h4 e1 (.inr ⟨id,hne2,h1,rfl⟩) O g6;refine⟨q1,v',_,w',q2,?_,q5⟩;rw[<-q3];exact .os (by simp[Own.move]) g6
    |_=>rw[ho2]at E;exact absurd E.symm W
   |_=>rw[ho]at E;exact absurd E.symm W
 ·rename_i id2;obtain⟨vd,vu,rfl,V,O⟩:=two _ _ rfl;cases hc:Nat.beq te.size 1&&Nat.beq (sz te.zero) 1&&Nat.ble 1 te.bytes with
  |false=>grind
  |true=>
   rw[hc]at E;simp only[aoj,se]at hc;have c1:=aok hc.1.1;have c2:=aok hc.1.2;have c3:=nbl hc.2;cases ho2:ap h id2 with
   |row k m=>
    rw[ho2]at E;subst E;have:=c8 V;subst this;have h2id:∃ X,own id2=some X/\qZ X.v=true:=by
     cases O with
     |ls c hz h0 q1 q2=>have⟨hd3,q3,q4,q5⟩:=jz (q2 0 _ rfl);grind
    have⟨hdd2,h3,h4⟩:=h2id;refine⟨_,_,_,_,rfl,λhfit=>?_⟩;have⟨q1,v',hd',w',q2,q3,q4,q5⟩:=Gm (P:=P) (ty:=ty) (l:=[]) (hd:=⟨none,.slice none 0 0,[],[]⟩) hp hn hd X hie' hze g5 (by grind [svs]) g5 h3 ho2 h4 (.inl ⟨rfl,rfl,rfl,rfl⟩) (.inl ⟨rfl,rfl⟩) O g6;refine⟨q1,v',_,w',q2,?_,q5⟩;rw[<-q3];exact .os (by simp[Own.move]) g6
   |_=>rw[ho2]at E;exact absurd E.symm W
 rename_i id id2;obtain⟨vd,vu,rfl,V,O⟩:=two _ _ rfl;obtain⟨hdd,h1,rfl,h2⟩:=jz V;cases heq:Nat.beq id id2 with
 |true=>
  have atc:=aok heq;subst atc;obtain⟨hdd',h1',rfl,_⟩:=jz O;cases ho:ap h id with
  |row k l=>
   rw[ho]at E;simp[aar]at E;have⟨hd',e0,e1⟩:=hp.at ho rfl;rw[h1]at e0;cases e0;cases hc:Nat.beq te.size (aa k)&&Nat.beq (sz te.zero) te.size&&Nat.ble 1 te.bytes with
   |false=>grind
   |true=>
    rw[hc]at E;subst E;simp only[aoj,se]at hc;have c1:=aok hc.1.1;have c2:=aok hc.1.2;have c3:=nbl hc.2;refine⟨_,_,_,_,rfl,λhfit=>?_⟩;have⟨q1,v',w',q2,q3,q4⟩:=Q5 (P:=P) (ty:=ty) hp hd X hie' hze (by grind [svs]) (k:=k) g5 g5 h1 e1 g6;grind
  |_=>rw[ho]at E;simp[aar]at E;exact absurd E.symm W
 |false=>
  rw[heq]at E;cases ho:ap h id with
  |row k l=>
   rw[ho]at E;have⟨hd',e0,e1⟩:=hp.at ho rfl;rw[h1]at e0;cases e0;exact Fy (P:=P) (K:=[id]) hp hn ht ht2 hte hsl Y e1 g6 (λb hb=>⟨id,by simp,hdd,h1,hb⟩) (λid' hid hd' hh b hb=>g6) O E W
  |_=>rw[ho]at E;simp[x8]at E;exact absurd E.symm W
 rename_i id src _ _;obtain⟨vd,vu,rfl,V,O⟩:=two _ _ rfl;obtain⟨hdd,h1,rfl,h2⟩:=jz V;cases ho:ap h id with
 |row k l=>
  rw[ho]at E;have⟨hd',e0,e1⟩:=hp.at ho rfl;rw[h1]at e0;cases e0;exact Fy (P:=P) (K:=[id]) hp hn ht ht2 hte hsl Y e1 g6 (λb hb=>⟨id,by simp,hdd,h1,hb⟩) (λid' hid hd' hh b hb=>g6) O E W
 |_=>rw[ho]at E;simp[x8]at E;exact absurd E.symm W
 obtain⟨vd,vu,rfl,V,O⟩:=two _ _ rfl;have:=c8 V;subst this;unfold wU at E;split at E
 exact Fy (P:=P) (K:=[]) (l:=[]) (bs:=[]) hp hn ht ht2 hte hsl Y (.inl ⟨none,rfl,rfl,rfl⟩) (by simp) (λb hb=>by cases hb) (λid hid=>by cases hid) O E W;grind
 obtain⟨vd,vu,rfl,V,O⟩:=two _ _ rfl;cases V with
 |e0=>
  unfold wU at E;split at E
  exact Fy (P:=P) (K:=[]) (l:=[]) (bs:=[]) hp hn ht ht2 hte hsl Y (.inl ⟨_,rfl,rfl,rfl⟩) (by simp) (λb hb=>by cases hb) (λid hid=>by cases hid) O E W;grind
 rename_i k l src;obtain⟨vd,vu,rfl,V,O⟩:=two _ _ rfl;cases V with
 |rc V=>
  unfold aas at E;cases hc:Nat.beq te.size (aa k)&&Nat.beq (sz te.zero) te.size&&Nat.ble 1 te.bytes with
  |false=>grind
  |true=>
   rw[hc]at E;cases hs:v_ k h src with
   |none=>rw[hs]at E;exact absurd E.symm W
   |some m=>
    rw[hs]at E;cases m with
    |nil=>exact absurd E.symm W
    |cons x m=>
     subst E;simp only[aoj,se]at hc;have c1:=aok hc.1.1;have c2:=aok hc.1.2;have c3:=nbl hc.2;have⟨news,hsr⟩:=LO (P:=P) hp O hs;have⟨olds,hol⟩:=LO (P:=P) hp V (k:=k) (m:=l) (by simp[v_,Bw]);refine⟨_,_,_,_,rfl,λhfit=>?_⟩;have⟨q1,v',w',q2,q3,q4⟩:=Q6 (P:=P) (ty:=ty) hp hd X hie' hze (by grind [svs]) (k:=k) g5 g5 (by simp) hol hsr g6;exact⟨q1,v',own,w',q2,q3,q4⟩
 grind
end
end Go.Sx
end
