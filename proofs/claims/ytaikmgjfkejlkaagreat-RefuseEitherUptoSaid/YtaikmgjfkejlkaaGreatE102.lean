/- Part of the proof that the law RefuseEither returns true and leaves its arguments as they were, for all arguments of bulk at most 1048576 (the Upto form). -/
import Derived.Test.YtaikmgjfkejlkaaGreatE101
import Derived.Laws.Entries
import Derived.Laws.Tables
import Derived.Laws.StructEq
import Derived.Laws.MakeOwn
import Derived.ChangeKeysEq
set_option linter.all false
set_option maxHeartbeats 4000000
set_option maxRecDepth 100000
section
namespace Go.Sx
open Go.RowKit
def nbl {n m:Nat}(h:Nat.ble n m=true):n<=m:=Nat.le_of_ble_eq_true h
theorem wS {k:Tag}{x:k.T}{j:Nat}{s:SV}(h:(cellsOf k x)[j]? =some s):(∃ y,s=.v y/\pt y=true)\/(∃ (k':Tag) (l:List k'.T),s=.rs k' l/\aoA k'<aoA k)\/(∃ (k' k2:Tag) (l:List (k'.T×k2.T)),s=.rm k' k2 l/\aoA k'<aoA k/\aoA k2<aoA k)\/∃ f,s=.fn f [] []/\aoA k≠0:=by
 have hm:=alf h;cases k <;>simp only[cellsOf,ala,alV,or_false]at hm <;>
  (repeat' (rcases hm with hm|hm)) <;>first|exact .inl ⟨_,rfl,rfl⟩ |exact .inr (.inl ⟨_,_,rfl,by decide⟩) |exact .inr (.inr (.inl ⟨_,_,_,rfl,by decide,by decide⟩)) |(cases x <;>first|exact .inl ⟨_,rfl,rfl⟩ |exact .inr (.inr (.inr ⟨_,rfl,by decide⟩)))
section
variable {P:Program}{F:Nat->Prop}{own:Own}{w:World}
theorem cT {x v:Value}(h:Rel F own w (.v x) v):v=x:=by cases h;rfl
theorem JP {k:Tag}{x:k.T}{j:Nat}{s:SV}{u:Value}(h:(cellsOf k x)[j]? =some s)(hr:Rel F own w s u):pt u=true:=by
 rcases wS h with⟨y,rfl,hy⟩ | ⟨k',l,rfl,_⟩ | ⟨k',k2,l,rfl,_⟩ | ⟨f,rfl,_⟩;grind [cT]
 cases hr <;>rfl;cases hr <;>rfl;cases hr <;>rfl
def ao1 (F:Nat->Prop)(own:Own)(w:World)(k:Tag)(l:List k.T)(o:Nat)(cs:Array Value):Prop:=
 ∀ (i:Nat) (x:k.T),l[i]? =some x->∀ (j:Nat) (s:SV),(cellsOf k x)[j]? =some s->∃ u,cs[o+i*aa k+j]? =some u/\Rel F own w s u
def aoO (F:Nat->Prop)(own:Own)(w:World)(k:Tag)(l:List k.T)(v:Value)(bs:List Nat):Prop:=
 (∃ a,v=.slice a 0 0/\l=[]/\bs=[])\/
 ∃ b o cap cs ty,v=.slice (some ⟨b,o,none⟩) l.length cap/\bs=[b]/\w.heap[b]? =some (.cells cs ty (0,0))/\o+cap*aa k<=cs.size/\l.length<=cap/\l.length<=aN/\ao1 F own w k l o cs
def apw (F:Nat->Prop)(own:Own)(w:World)(kk vk:Tag)(l:List (kk.T×vk.T))(es:Array MapEntry):Prop:=
 es.size=l.length/\∀ (i:Nat) (x:kk.T×vk.T),l[i]? =some x->∃ e,es[i]? =some e/\True/\Rel F own w (svT kk x.1) e.key/\Rel F own w (svT vk x.2) e.val
def eI (kk vk:Tag)(l:List (kk.T×vk.T)):Option (Nat×Option kk.T)->List (kk.T×vk.T)
 |some (_,some x) =>if(iy l x).isSome then l else l++[(x,eG vk)]|_=>l
theorem km {kk E:Tag}{l:List (kk.T×E.T)}{p:Option (Nat×Option kk.T)}(h:noE p=true):eI kk E l p=l:=by
 cases p with
 |none=>rfl
 |some q=>obtain⟨i,q⟩:=q;cases q with
  |none=>rfl|some x=>cases h
def kD (es:Array MapEntry):List Nat:=es.toList.map (·.born)
def Stamped (es:Array MapEntry)(clock:Nat):Prop:=(kD es).Nodup/\∀ n∈kD es,n<clock
def stV (ss:List Nat)(clock:Nat):List Value:=.int .i64 clock::ss.map λn=>.int .i64 (n:Nat)
def apT (own:Own)(kk vk:Tag)(l:List (kk.T×vk.T))(es:Array MapEntry)(clock:Nat):Option (Nat×Option kk.T)->Prop
 |none=>True|some (nx,some x) =>∃ hd2 e,own nx=some hd2/\es[un kk vk l x]? =some e/\hd2.v=.int .i64 e.born|some (nx,none) =>∃ hd2,own nx=some hd2/\hd2.vs=stV (kD es) clock
def aoS (F:Nat->Prop)(own:Own)(w:World)(k:Tag):List (List k.T)->List Value->List Nat->Prop
 | [],[],bs=>bs=[]|l::ls,v::vs,bs=>∃ b1 b2,bs=b1++b2/\pt v=true/\aoO F own w k l v b1/\aoS F own w k ls vs b2|_,_,_=>False
def ao5 (F:Nat->Prop)(own:Own)(w:World)(hd:Hd):Ob->Prop
 | .cells l=>∃ b cs ty,hd.p=some b/\hd.bs=[b]/\w.heap[b]? =some (.cells cs ty (0,0))/\cs.size=l.length/\∀ (j:Nat) (s:SV),l[j]? =some s->Rel F own w s (cs.getD j undef)| .dead=>True| .row k l=>aoO F own w k l hd.v hd.bs| .mp kk vk l apj=>∃ b es clock,hd.v=.map (some b)/\hd.bs=[b]/\w.heap[b]? =some (.map es clock)/\apw F own w kk vk (eI kk vk l apj) es/\Stamped es clock/\apT own kk vk l es clock apj
 | .aoV k l=>(hd.v=.slice none 0 0/\l=[]/\hd.vs=[]/\hd.bs=[])\/
   ∃ b o cap cs ty bs,hd.v=.slice (some ⟨b,o,none⟩) l.length cap/\hd.bs=b::bs/\hd.bs.Nodup/\w.heap[b]? =some (.cells cs ty (0,0))/\o+cap<=cs.size/\l.length<=cap/\l.length<=aN/\
    (∀ (i:Nat) (v:Value),hd.vs[i]? =some v->cs[o+i]? =some v)/\aoS F own w k l hd.vs bs
 | .ab r=>hd.v=r.yv/\r.R (λb=>dg F own b/\b ∉ hd.bs) hd.bs w
 | .raw o=>∃ b,hd.p=some b/\hd.bs=[b]/\w.heap[b]? =some o| .mi mid n left cur=>∃ b,hd.p=some b/\hd.bs=[b]/\∀ i,mid=some i->∃ (hdm:Hd) (bm:Nat) (seen:Array Nat) (c:Nat) (ss:List Nat),own i=some hdm/\hdm.v=.map (some bm)/\w.heap[b]? =some (.mapIter (some bm) c seen c)/\hd.vs=stV ss c/\ss.length=n/\left.Nodup/\(∀ k,k∈left↔∃ s,ss[k]? =some s/\¬s∈seen.toList)/\∀ j,cur=some j->∃ s,ss[j]? =some s/\seen.back? =some s| .fwd n=>∀ i,n=some i->∃ hd2,own i=some hd2/\hd2.v=hd.v/\pt hd.v=true| .fz k l=>Rel F own w (.rs k l) hd.v
variable {F':Nat->Prop}{ee:Own}{w':World}
variable {k:Tag}{l:List k.T}{cs:Array Value}
theorem ao1.carry(g:aoZ F own w F' ee w'){o:Nat}(h:ao1 F own w k l o cs):ao1 F' ee w' k l o cs:=
 λi x hi j s E=>by obtain⟨u,h1,h2⟩:=h i x hi j s E;exact⟨u,h1,h2.carry g⟩
variable {v:Value}
theorem aoO.carry(g:aoZ F own w F' ee w'){bs:List Nat}(X:∀ b∈bs,w'.heap[b]? =w.heap[b]?)(h:aoO F own w k l v bs):aoO F' ee w' k l v bs:=by
 rcases h with h| ⟨b,o,cap,cs,ty,h1,h2,Y,O,W,E,V⟩;exact .inl h;exact .inr ⟨b,o,cap,cs,ty,h1,h2,by grind,O,W,E,V.carry g⟩
theorem aoS.carry(g:aoZ F own w F' ee w'):∀ {l:List (List k.T)} {vs:List Value} {bs:List Nat},(∀ b∈bs,w'.heap[b]? =w.heap[b]?)->aoS F own w k l vs bs->aoS F' ee w' k l vs bs
 | [],[],bs,_,h=>h
 |l::ls,v::vs,bs,O,⟨V,W,h1,X,h2,Y⟩ =>⟨V,W,h1,X,h2.carry g λb E=>O b (by grind),aoS.carry g (λb E=>O b (by grind)) Y⟩
 | [],_::_,_,_,h=>h.elim|_::_,[],_,_,h=>h.elim
variable {es:Array MapEntry}
theorem apw.carry(g:aoZ F own w F' ee w'){kk E:Tag}{l:List (kk.T×E.T)}(h:apw F own w kk E l es):apw F' ee w' kk E l es:=
 ⟨h.1,λi x hi=>by obtain⟨e,h1,h2,V,O⟩:=h.2 i x hi;exact⟨e,h1,h2,V.carry g,O.carry g⟩⟩
theorem apT.ids(g:∀ (id:Nat) (hd:Hd),own id=some hd->∃ hd',ee id=some hd'/\hd.like hd'){kk V:Tag}{l:List (kk.T×V.T)}{clock:Nat}{p:Option (Nat×Option kk.T)}(h:apT own kk V l es clock p):apT ee kk V l es clock p:=by
 cases p with
 |none=>trivial
 |some q=>
  obtain⟨i,q⟩:=q;cases q with
  |some x=>
   obtain⟨O,e,h1,h2,X⟩:=h;obtain⟨hd',E,W⟩:=g _ _ h1;exact⟨hd',e,E,h2,W.2.1.trans X⟩
  |none=>
   obtain⟨O,h1,h2⟩:=h;obtain⟨hd',E,W⟩:=g _ _ h1;exact⟨hd',E,W.2.2.trans h2⟩
theorem ao5.carry (g:aoZ F own w F' ee w')(hsz:w.heap.size<=w'.heap.size){hd:Hd}(hb:∀ b∈hd.bs,w'.heap[b]? =w.heap[b]?){o:Ob}(h:ao5 F own w hd o):ao5 F' ee w' hd o:=by
 cases o with
 |cells l=>obtain⟨b,cs,ty,h1,h2,O,W,V⟩:=h;exact⟨b,cs,ty,h1,h2,by grind,W,λj s hj=>(V j s hj).carry g⟩
 |dead=>trivial|row k l=>exact aoO.carry g hb h
 |mp kk vk l apj=>obtain⟨b,es,clock,h1,h2,O,W,V,Y⟩:=h;exact⟨b,es,clock,h1,h2,by grind,W.carry g,V,Y.ids g.ids⟩
 |aoV k l=>
  rcases h with h| ⟨b,o,cap,cs,ty,bs,h1,h2,O,W,V,Y,h7,h8,h9⟩;exact .inl h;exact .inr ⟨b,o,cap,cs,ty,bs,h1,h2,O,by grind,V,Y,h7,h8,h9.carry g λb' hb'=>hb b' (by grind)⟩
 |ab r=>
  refine⟨h.1,r.loc _ _ _ w w' h.2 hsz (λb E hn=>?_) (λb E hn=>⟨?_,hn.2⟩)⟩;by_cases hm:b∈hd.bs
  exact hb b hm;exact(g.keep b E λho=>hn ⟨ho,hm⟩).2;exact alD λho=>(g.keep b E ho).1 hn.1
 |raw o=>obtain⟨b,h1,h2,O⟩:=h;exact⟨b,h1,h2,by grind⟩
 |mi mid n left cur=>
  obtain⟨b,h1,h2,O⟩:=h;refine⟨b,h1,h2,λi hi=>?_⟩;obtain⟨hdm,bm,seen,c,ss,k1,k2,k3,k4⟩:=O i hi;obtain⟨hd',X,e2⟩:=g.ids _ _ k1;exact⟨hd',bm,seen,c,ss,X,e2.2.1.trans k2,by grind,k4⟩
 |fwd n=>
  intro i hi;obtain⟨hd2,k1,k2,k3⟩:=h i hi;obtain⟨hd',X,e2⟩:=g.ids _ _ k1;exact⟨hd',X,e2.2.1.trans k2,k3⟩
 |fz k l=>exact Rel.carry g h
structure Hp (F:Nat->Prop)(own:Own)(w:World)(h:List Ob):Prop where
 dom:∀ (id:Nat) (hd:Hd),own id=some hd->id<h.length
 aoB:∀ b,F b->b<w.heap.size
 apart:∀ (id:Nat) (hd:Hd) (b:Nat),own id=some hd->b∈hd.bs->¬F b
 inj:∀ (i j:Nat) (hi hj:Hd) (b:Nat),own i=some hi->own j=some hj->b∈hi.bs->b∈hj.bs->i=j
 lt:∀ (id:Nat) (hd:Hd) (b:Nat),own id=some hd->b∈hd.bs->b<w.heap.size
 obs:∀ (id:Nat),dL (ap h id)=false->∃ hd,own id=some hd/\ao5 F own w hd (ap h id)
variable {h:List Ob}
theorem Hp.at(E:Hp F own w h){id:Nat}{o:Ob}(O:ap h id=o)(hd:dL o=false):∃ hd,own id=some hd/\ao5 F own w hd o:=by
 subst O;exact E.obs id hd
theorem Hp.upd{h':List Ob}(O:Hp F own w h)(g:ao_ F own w ee w')(U:Nat->Prop)(V:h.length<=h'.length)
  (same:∀ id,¬U id->ee id=own id/\ap h' id=ap h id/\∀ hd b,own id=some hd->b∈hd.bs->w'.heap[b]? =w.heap[b]?)
  (new:∀ id hd,U id->ee id=some hd->id<h'.length/\∀ b∈hd.bs,b<w'.heap.size/\¬F b/\∀ j X,j≠id->ee j=some X->b ∉ X.bs)
  (obs:∀ id,U id->dL (ap h' id)=false->∃ hd,ee id=some hd/\ao5 F ee w' hd (ap h' id)):Hp F ee w' h':=by
 refine⟨λid hd h1=>?_,λb Y=>ale (O.aoB b Y) g.size,λid hd b h1 h2=>?_,λi j hi X b h1 h2 h3 h4=>?_,λid hd b h1 h2=>?_,λid hd=>?_⟩;by_cases E:U id
 grind
 rw[(same id E).1]at h1;exact ale (O.dom id hd h1) V;by_cases E:U id
 grind
 rw[(same id E).1]at h1;exact O.apart id hd b h1 h2;by_cases hui:U i
 grind
 by_cases huj:U j
 grind
 rw[(same i hui).1]at h1;rw[(same j huj).1]at h2;exact O.inj i j hi X b h1 h2 h3 h4;by_cases E:U id
 grind
 rw[(same id E).1]at h1;exact ale (O.lt id hd b h1 h2) g.size;by_cases E:U id
 grind
 obtain⟨e1,e2,e3⟩:=same id E;rw[e2]at hd |-;obtain⟨W,q1,q2⟩:=O.obs id hd;exact⟨W,by grind,q2.carry g.apb g.size λb Y=>e3 W b q1 Y⟩
theorem Hp.apg(V:Hp F own w h)(g:ao_ F own w own w')(E:∀ (id:Nat) (hd:Hd) (b:Nat),own id=some hd->b∈hd.bs->w'.heap[b]? =w.heap[b]?):Hp F own w' h:=
 V.upd g (λ_=>False) (ak2 _) (λid _=>⟨rfl,rfl,λhd b h1 h2=>E id hd b h1 h2⟩) (λ_ _ O=>O.elim) (λ_ O=>O.elim)
theorem Hp.below(E:Hp F own w h)(O:Below w.heap.size w w'):Hp F own w' h:=
 E.apg (ao_.below F own O) λid hd b h1 h2=>O.block b (E.lt id hd b h1 h2)
structure apB (own:Own)(h:List Ob)(nx:Nat):Prop where
 none:own nx=none
 dead:ap h nx=.dead
theorem Hp.nx(E:Hp F own w h):apB own h h.length:=by
 refine⟨?_,mW (ak2 _)⟩;cases O:own h.length with
 |none=>rfl|some hd=>exact absurd (E.dom _ _ O) (al8 _)
def Own.set (own:Own)(id:Nat)(hd:Hd):Own:=λj=>if j=id then some hd else own j
theorem Own.aoY (own:Own)(id:Nat)(hd:Hd):own.set id hd id=some hd:=by simp[Own.set]
theorem Own.ao3 (own:Own){id j:Nat}(hd:Hd)(h:j≠id):own.set id hd j=own j:=by simp[Own.set,h]
structure Step (F:Nat->Prop)(own:Own)(w:World)(h':List Ob)(ee:Own)(w':World):Prop where
 hp:Hp F ee w' h'
 fr:Fr { w:=w,own:=own} ee w'
 fresh:∀ id,own id=none->dL (ap h' id)=true->ee id=none
theorem uu(Y:Hp F own w h){nx:Nat}(hn:apB own h nx){w1:World}(hw1:w1.heap=w.heap/\w1.os=w.os/\w1.tape=w.tape/\w1.output=w.output)(o:Obj)(ob:Ob)(hd:Hd)(hbs:hd.bs=[w.heap.size])
  (hob:∀ ee:Own,ao_ F own w ee (w1.alloc o)->ao5 F ee (w1.alloc o) hd ob) (hnd:dL ob=false:=by rfl):Step F own w (cL h nx ob) (own.set nx hd) (w1.alloc o):=by
 obtain⟨q1,q2,q3,q4⟩:=hw1;have hheap:(w1.alloc o).heap=w.heap.push o:=by show w1.heap.push o=_;rw[q1]
 have V:∀ b,b<w.heap.size->(w1.alloc o).heap[b]? =w.heap[b]?:=λb W=>by grind
 have hsz:(w1.alloc o).heap.size=w.heap.size+1:=by grind
 have ids:∀ (id:Nat) (E:Hd),own id=some E->∃ hd',own.set nx hd id=some hd'/\E.like hd':=λid E h1=>by
  have X:id≠nx:=λe=>by rw[e,hn.none]at h1;cases h1
  exact⟨E,by grind [Own.ao3],.refl _⟩
 have fr:Fr { w:=w,own:=own} (own.set nx hd) (w1.alloc o):=Fr.apr ids (λid E b h1 h2=>by
   grind [Own.aoY,Own.ao3]) (λb W _=>V b W) (by omega) q2 q3 q4
 have g:ao_ F own w (own.set nx hd) (w1.alloc o):=fr.apg;refine⟨Y.upd g (· =nx) (by grind [cI]) (λid O=>⟨Own.ao3 _ _ O,by rw[dG,if_neg (λe=>O e.symm)],λE b h1 h2=>V b (Y.lt id E b h1 h2)⟩) (λid E O h1=>?_) (λid O _=>?_),fr,λid h1 h2=>?_⟩
 rotate_left 2
 grind [dG,Own.ao3]
 subst O;rw[Own.aoY]at h1;cases h1;refine⟨by grind [cI],λb W=>?_⟩;rw[hbs]at W;simp at W;subst W;refine⟨by omega,λhf=>al8 _ (Y.aoB _ hf),λj hj X h2 h3=>?_⟩;rw[Own.ao3 _ _ X]at h2;exact al8 _ (Y.lt j hj _ h2 h3);grind [Own.aoY,dG]
theorem pu(W:Hp F own w h){id:Nat}{hd:Hd}(h1:own id=some hd){b:Nat}(hb:b∈hd.bs)(hsz:w'.heap.size=w.heap.size)(O:∀ k,k≠b->w'.heap[k]? =w.heap[k]?)(q2:w'.os=w.os)(q3:w'.tape=w.tape)(q4:w'.output=w.output)(ob:Ob)
  (hob:ao_ F own w own w'->ao5 F own w' hd ob):Step F own w (cL h id ob) own w':=by
 have hlt:=W.dom id hd h1;have fr:Fr { w:=w,own:=own} own w':=Fr.apr (λ_ E h=>⟨E,h,.refl _⟩) (λid E b h1 h2=>.inl ⟨id,E,h1,h2⟩) (λk _ hn=>O k λe=>hn ⟨id,hd,h1,e▸hb⟩) (by omega) q2 q3 q4;refine⟨W.upd fr.apg (· =id) (by rw[cI,if_pos hlt];omega) (λj Y=>⟨rfl,by rw[dG,if_neg (λe=>Y e.symm)],λE X h2 h3=>O X λe=>Y (W.inj j id E hd X h2 h1 h3 (e▸hb))⟩) (λj E Y h2=>?_) (λj Y _=>?_),fr,λ_ h1 _=>h1⟩;subst Y;rw[h1]at h2;cases h2;exact⟨by simp_all [cI],λX V=>⟨by rw[hsz];exact W.lt j hd X h1 V,W.apart j hd X h1 V,λi hi hne h3 h4=>hne (W.inj i j hi hd X h3 h1 h4 V)⟩⟩;subst Y;refine⟨hd,h1,?_⟩;rw[dG,if_pos rfl];exact hob fr.apg
theorem Ip(V:Hp F own w h){id:Nat}{hd:Hd}(h1:own id=some hd)(ob:Ob)(hob:ao5 F own w hd ob):Step F own w (cL h id ob) own w:=by
 have hlt:=V.dom id hd h1;have fr:Fr { w:=w,own:=own} own w:=Fr.apr (λ_ E h=>⟨E,h,.refl _⟩) (λid E b h1 h2=>.inl ⟨id,E,h1,h2⟩) (λ_ _ _=>rfl) (ak2 _) rfl rfl rfl;refine⟨V.upd fr.apg (· =id) (by rw[cI,if_pos hlt];omega) (λj W=>⟨rfl,by rw[dG,if_neg (λe=>W e.symm)],λ_ _ _ _=>rfl⟩) (λj E W h2=>?_) (λj W _=>?_),fr,λ_ h1 _=>h1⟩;subst W;rw[h1]at h2;cases h2;exact⟨by simp_all [cI],λX O=>⟨V.lt j hd X h1 O,V.apart j hd X h1 O,λi hi Y h3 h4=>Y (V.inj i j hi hd X h3 h1 h4 O)⟩⟩;simp_all [dG]
theorem QE {O E:List Nat}{c V:Nat}(h:stV O c=stV E V):c=V/\O=E:=by
 unfold stV at h;simp only[amB,Value.int.injEq,true_and]at h;refine⟨by omega,?_⟩;have h2:=h.2;clear h;induction O generalizing E with
 |nil=>simp_all|cons a r W=>cases E <;>grind
variable {t:TypeId}{ti:TI}
theorem bY(h:jn P t=some ti):∃ i d z,P.info? t=some i/\P.underlying t=some d/\i.zero=some z/\zO P d=true/\ti=dP P t i d:=by
 unfold jn at h;split at h
 rename_i i d hi hd;cases E:i.zero <;>grind;cases h
theorem dQ{i:TypeInfo}(h:P.info? t=some i):(sizeOf t).run P w=.ok i.size w:=by
 simp[sizeOf,typeInfo,h]
theorem xL{d:TypeDesc}(h:P.underlying t=some d):(isAgg t).run P w=.ok (kl P t) w:=by
 simp only[isAgg,alv,run_underlying h,alh,kl,h];cases d <;>simp
theorem nG (b o n:Nat):Addr.add ⟨b,o,none⟩ n=⟨b,o+n,none⟩:=by grind [Addr.add]
variable {ty:TypeId}
theorem eJ{b:Nat}{fr:Nat×Nat}(h:w.heap[b]? =some (.cells cs ty fr))(j:Nat):w.cell? ⟨b,j,none⟩=cs[j]?:=by
 simp[World.cell?,h]
theorem EB{b:Nat}(h:w.heap[b]? =some (.cells cs ty (0,0)))(j:Nat):w.frozen? ⟨b,j,none⟩=false:=by
 simp[World.frozen?,h]
variable {s':SV}
theorem zY(W:jn P t=some ti){l:List SV}{b o off:Nat}(c:Nat->Value)
  (hc:∀ (j:Nat) (s:SV),l[j]? =some s->w.cell? ⟨b,o+j,none⟩=some (c j)/\Rel F own w s (c j))  (E:re ti.agg ti.size l off=some s'):
  ∃ u,(loadVar t ⟨b,o+off,none⟩).run P w=.ok u w/\Rel F own w s' u:=by
 obtain⟨i,d,z,hi,hd,hz,hq,rfl⟩:=bY W;simp only[dP]at E;simp only[loadVar,alv,xL hd,alh];cases V:kl P t with
 |true=>
  simp only[re,V,cond_true,qF,JO,DP]at E;cases O:Nat.ble (off+i.size) l.length with
  |false=>grind
  |true=>
   simp only[O,cond_true,ak3]at E;subst E;have X:off+i.size<=l.length:=nbl O;simp only[if_true,alv,dQ hi,alh];rw[run_loadCells w ⟨b,o+off,none⟩ i.size (λj=>c (off+j)) (λj Y=>by
    have:=(hc (off+j) _ (alb (by omega))).1;grind [nG])]
   refine⟨_,rfl,.agg (by simp;omega) λj s Y=>?_⟩;simp_all <;>grind
 |false=>
  simp_all [re,gC]
theorem vr {o:Option SV}{s:SV}(h:uq o=.val s):o=some s:=by
 cases o with
 |none=>simp[uq]at h|some x=>grind [uq]
theorem sB {α:Type}{l:List α}{i:Nat}{d:α}(h:i<l.length):l[i]? =some (l.getD i d):=by grind
theorem ao1.get{o:Nat}(h:ao1 F own w k l o cs){i:Nat}(hi:i<l.length){j:Nat}{s:SV}(E:(cellsOf k (l.getD i (eG k)))[j]? =some s):
  cs[o+i*aa k+j]? =some (cs.getD (o+i*aa k+j) undef)/\Rel F own w s (cs.getD (o+i*aa k+j) undef):=by
 obtain⟨u,h1,h2⟩:=h i _ (sB hi) j s E;simp_all
theorem aoS.get:∀ {l:List (List k.T)} {vs:List Value} {bs:List Nat} {i:Nat} {v:Value},aoS F own w k l vs bs->vs[i]? =some v->∃ E,pt v=true/\i<l.length/\aoO F own w k (l.getD i []) v E/\∀ b∈E,b∈bs
 | [],[],bs,i,v,_,h=>by simp at h
 |l::ls,u::vs,bs,0,v,⟨E,b2,h1,h0,h2,h3⟩,h=>by grind
 |l::ls,u::vs,bs,i+1,v,⟨E,b2,h1,h0,h2,h3⟩,h=>by
  obtain⟨O,X,V,Y,W⟩:=aoS.get h3 (by simpa using h);grind
 | [],_::_,_,_,_,h,_=>h.elim|_::_,[],_,_,_,h,_=>h.elim
theorem aoS.len:∀ {l:List (List k.T)} {vs:List Value} {bs:List Nat},aoS F own w k l vs bs->vs.length=l.length
 | [],[],_,_=>rfl
 |l::V,u::vs,bs,⟨O,W,h1,X,h2,E⟩ =>by simp[aoS.len E]
 | [],_::_,_,h=>h.elim|_::_,[],_,h=>h.elim
theorem L1(hp:Hp F own w h)(ht:jn P t=some ti){s:SV}(hr:Rel F own w s v)(E:qC ti h s=.val s'):
  ∃ u,(Instr.loadAt t v).run P w=.ok u w/\Rel F own w s' u:=by
 cases hr with
 |ptr h1 h2=>
  rename_i id off b hd;simp only[qC]at E;cases X:ap h id with
  |cells l=>
   rw[X]at E;have O:=vr E;obtain⟨hd',Y,b',cs,ty,V,e2,e3,e4,e5⟩:=hp.at X rfl;rw[h1]at Y;cases Y;rw[h2]at V;cases V;have:=zY (P:=P) (w:=w) (F:=F) (own:=own) (b:=b) (o:=0) (off:=off) ht (λj=>cs.getD j undef) (λj s hj=>by
    refine⟨?_,e5 j s hj⟩;have hjl:j<cs.size:=by grind
    rw[ak8,eJ e3];simp[hjl]) O
   grind [Instr.loadAt,Instr.sureAddr]
  |_=>rw[X]at E;simp[zR]at E
 |ep c h1 h2=>
  rename_i cells off b o;simp only[qC]at E;have O:=vr E;have:=zY (P:=P) (w:=w) (F:=F) (own:=own) (b:=b) (o:=o) (off:=off) ht c (λj s hj=>⟨(h1 j s hj).2,h2 j s hj⟩) O;grind [Instr.loadAt,Instr.sureAddr]
 |rp h1 h2 h3=>
  rename_i W id off n cap b o i hd;simp only[qC]at E;cases X:ap h id with
  |row k l=>
   rw[X]at E;simp only[Eg]at E;cases hb:Nat.beq W (aa k)with
   |false=>grind
   |true=>
    rw[hb]at E;have hsz:=ak0 hb;have O:=vr E;obtain⟨hd',Y,e⟩:=hp.at X rfl;rw[h1]at Y;cases Y;rcases e with⟨a,V,_⟩ | ⟨b',o',cap',cs,ty,V,e2,e3,e4,e5,e6,e7⟩;grind
    rw[h2]at V;simp only[al6,ak3,ams]at V;obtain⟨⟨rfl,rfl,_⟩,rfl,rfl⟩:=V;have:=zY (P:=P) (w:=w) (F:=F) (own:=own) (b:=b) (o:=o+i.toNat*W) (off:=off) ht (λj=>cs.getD (o+i.toNat*aa k+j) undef) (λj s hj=>by
     have:=e7.get h3 hj;grind [eJ]) O
    grind [Instr.loadAt,Instr.sureAddr]
  |aoV k l=>
   rw[X]at E;simp only[Eg]at E;cases hb:Nat.beq W 1&&Nat.beq off 0&& !ti.agg with
   |false=>grind
   |true=>
    rw[hb]at E;simp only[akZ,alm]at hb;have hs1:=ak0 hb.1.1;have hs2:=ak0 hb.1.2;subst hs1;subst hs2;simp only[cond_true,OR.val.injEq]at E;subst E;obtain⟨hd',Y,e⟩:=hp.at X rfl;rw[h1]at Y;cases Y;rcases e with⟨V,_⟩ | ⟨b',o',cap',cs,ty,bs,V,e2,e3,e4,e5,e6,e7,e8,e9⟩;grind
    rw[h2]at V;simp only[al6,ak3,ams]at V;obtain⟨⟨rfl,rfl,_⟩,rfl,rfl⟩:=V;have hlen:=e9.len;have hv:hd.vs[i.toNat]? =some (hd.vs.getD i.toNat undef):=sB (by omega);obtain⟨b1,q1,q2,q3,q4⟩:=e9.get hv;refine⟨_,?_,.gr h1 hv q1⟩;obtain⟨i',d,z,hi,hdd,hz,hq,rfl⟩:=bY ht;have hcell:w.cell? ⟨b,o+i.toNat,none⟩=some (hd.vs.getD i.toNat undef):=by grind [eJ]
    have hag:kl P t=false:=hb.2;simp_all [Instr.loadAt,Instr.sureAddr,loadVar,xL]
  |_=>rw[X]at E;simp[Eg]at E
 |gp h1 h2 h3=>
  rename_i W id off n cap b o i j hd;simp only[qC]at E;cases X:ap h id with
  |aoV k l=>
   rw[X]at E;simp only[Bh]at E;cases hb:Nat.beq W (aa k)with
   |false=>grind
   |true=>
    rw[hb]at E;have hsz:=ak0 hb;have O:=vr E;obtain⟨hd',Y,e⟩:=hp.at X rfl;rw[h1]at Y;cases Y;rcases e with⟨_,_,V,_⟩ | ⟨b',o',cap',cs,ty,bs,V,e2,e3,e4,e5,e6,e7,e8,e9⟩;grind
    obtain⟨b1,q1,q2,q3,q4⟩:=e9.get h2;rcases q3 with⟨a,k1,_⟩ | ⟨b2,o2,cap2,cs2,ty2,k1,k2,k3,k4,k5,k6,k7⟩;grind
    simp only[al6,ak3,ams]at k1;obtain⟨⟨rfl,rfl,_⟩,rfl,rfl⟩:=k1;have:=zY (P:=P) (w:=w) (F:=F) (own:=own) (b:=b) (o:=o+j.toNat*W) (off:=off) ht (λq=>cs2.getD (o+j.toNat*aa k+q) undef) (λq s hj=>by
     have:=k7.get h3 hj;grind [eJ]) O
    grind [Instr.loadAt,Instr.sureAddr]
  |_=>rw[X]at E;simp[Bh]at E
 |_=>simp[qC]at E
variable {f:Nat}
theorem QF(E:jn P t=some ti){x:Nat×Nat×Bool}(O:nth ti.fields f=some x):
  ∃ fs fd,P.underlying t=some (.struct fs)/\fs[f]? =some fd/\x=(fd.offset,nX P fd.type,kl P fd.type):=by
 obtain⟨i,d,z,hi,hd,W,V,rfl⟩:=bY E;simp only[dP,gC]at O;grind
theorem XT{s:SV}{n:Nat}(hr:Rel F own w s v)(h:Bi n s=.val s'):
  ∃ b o,v=.pointer (some ⟨b,o,none⟩)/\Rel F own w s' (.pointer (some ⟨b,o+n,none⟩)):=by
 cases hr with
 |ptr h1 h2=>simp only[Bi,OR.val.injEq]at h;subst h;exact⟨_,_,rfl,.ptr h1 h2⟩
 |ep c h1 h2=>simp only[Bi,OR.val.injEq]at h;subst h;exact⟨_,_,rfl,by rw[amt];exact .ep c h1 h2⟩
 |rp h1 h2 E=>simp only[Bi,OR.val.injEq]at h;subst h;exact⟨_,_,rfl,by rw[amt];exact .rp h1 h2 E⟩
 |gp h1 h2 E=>simp only[Bi,OR.val.injEq]at h;subst h;exact⟨_,_,rfl,by rw[amt];exact .gp h1 h2 E⟩
 |_=>simp[Bi]at h
theorem JQ(Y:jn P t=some ti){o n:Nat}{g:Bool}(X:nth ti.fields f=some (o,n,g))(hn:1<=n){s:SV}
  (hr:Rel F own w s v) (h:Bi o s=.val s'):∃ u,(Instr.fieldAt t v f).run P w=.ok u w/\Rel F own w s' u:=by
 obtain⟨fs,fd,hu,O,V⟩:=QF Y X;obtain⟨b,q,rfl,W⟩:=XT hr h;simp only[an8]at V;obtain⟨rfl,rfl,rfl⟩:=V;refine⟨_,?_,W⟩;have E:(sizeOf fd.type).run P w=.ok (nX P fd.type) w:=by
  grind [nX,dQ]
 simp only[Instr.fieldAt,alv,run_underlying hu,alh,O,Instr.sureAddr,amp,fieldPlace,E];rw[if_neg (by omega)];simp[nG]
theorem RZ(ht:jn P t=some ti){s:SV}(hr:Rel F own w s v)(h:sr (nth ti.fields f) (zP s)=.val s'):
  ∃ u,(Instr.field t v f).run P w=.ok u w/\Rel F own w s' u:=by
 cases hf:nth ti.fields f with
 |none=>grind [sr]
 |some x=>
  obtain⟨o,n,g⟩:=x;obtain⟨fs,fd,Y,hfd,he⟩:=QF ht hf;simp only[an8]at he;obtain⟨rfl,rfl,rfl⟩:=he;obtain⟨i,d,z,hi,hd,hz,hq,rfl⟩:=bY ht;rw[hd]at Y;cases Y;have X:(P.info? fd.type).isSome/\(P.underlying fd.type).isSome:=by
   simp only[zO,alA,akZ]at hq;grind
  obtain⟨fi,V⟩:=am1.1 X.1;obtain⟨fd',hfu⟩:=am1.1 X.2;have key:∀ (l:List SV) (vs:Array Value),vs.size=l.length->(∀ (j:Nat) (s:SV),l[j]? =some s->Rel F own w s (vs.getD j undef))->sr (some (fd.offset,nX P fd.type,kl P fd.type)) (some l)=.val s'->
    ∃ u,(part fd.type vs fd.offset).run P w=.ok u w/\Rel F own w s' u:=by
   intro l vs hl W E;simp only[sr]at E;cases O:re (kl P fd.type) (nX P fd.type) l fd.offset with
   |none=>grind [uq]
   |some q=>
    simp only[O,uq,OR.val.injEq]at E;subst E;simp only[nX,V]at O;simp only[part,alv,xL hfu,alh];cases ha:kl P fd.type with
    |true=>
     simp only[re,ha,cond_true,qF,JO,DP]at O;cases hb:Nat.ble (fd.offset+fi.size) l.length with
     |false=>grind
     |true=>
      simp only[hb,cond_true,ak3]at O;subst O;have hle:=nbl hb;simp only[if_true,alv,dQ V,alh,amp];refine⟨_,rfl,.agg (by simp;omega) λj s hj=>?_⟩;simp_all <;>grind
    |false=>
     simp only[re,ha,cond_false,gC]at O;have h1:=W _ _ O;have hlt:fd.offset<vs.size:=by grind
     refine⟨vs.getD fd.offset undef,?_,h1⟩;simp[hlt]
  cases hr with
  |agg h0 h1=>
   simp only[zP]at h;rw[hf]at h;obtain⟨u,Y,hru⟩:=key _ _ h0 h1 h;simp_all [Instr.field,run_underlying,asAgg]
  |v x=>
   cases v with
   |agg cs=>
    simp only[zP]at h;rw[hf]at h;obtain⟨u,Y,hru⟩:=key (cs.toList.map .v) cs (by simp) (λj s hj=>by
     simp at hj;obtain⟨z,hz,rfl⟩:=hj;simp[hz];exact .v _) h
    simp_all [Instr.field,run_underlying,asAgg]
   |_=>simp[zP,sr]at h
  |_=>simp[zP,sr]at h
end
section
variable {P:Program}{F:Nat->Prop}{own:Own}{w:World}
def tL (k:IntKind)(n:Int):(asIntOf (.int k n)).run P w=.ok (k,n) w:=rfl
variable {t e:TypeId}{E:TypeInfo}{o:Nat}{k:IntKind}
theorem qG(hd:P.underlying t=some (.slice e))(O:P.info? e=some E){b n cap:Nat}{i:Int}(V:0<=i)(h1:i.toNat<n):
  (Instr.indexAt t (.slice (some ⟨b,o,none⟩) n cap) (.int k i)).run P w=.ok (.pointer (some ⟨b,o+i.toNat*E.size,none⟩)) w:=by
 simp only[Instr.indexAt,alv,tL,alh,run_underlying hd,amp];simp_all [dQ,nG]
theorem Bl{len:Nat}(hd:P.underlying t=some (.array len e))(O:P.info? e=some E){b:Nat}{i:Int}(hc:0<=i/\i< (len:Int)):
  (Instr.indexAt t (.pointer (some ⟨b,o,none⟩)) (.int k i)).run P w=.ok (.pointer (some ⟨b,o+i.toNat*E.size,none⟩)) w:=by
 simp only[Instr.indexAt,alv,tL,alh,run_underlying hd,Instr.sureAddr,amp];simp_all [dQ,nG]
theorem R5{h:List Ob}(hp:Hp F own w h){ti te:TI}(ht:jn P t=some ti)(hte:jn P ti.elem=some te){s si:SV}{v vi:Value}{r:OR}
  (hr:Rel F own w s v) (hri:Rel F own w si vi) (E:ip ti te.size h s si=r) (W:r≠ .bad):
  ∃ c s',r=.chk c s'/\(c->∃ u,(Instr.indexAt t v vi).run P w=.ok u w/\Rel F own w s' u):=by
 obtain⟨i,d,z,hi,hd,hz,hq,rfl⟩:=bY ht;obtain⟨ie,de,ze,hie,hde,hze,hqe,hte'⟩:=bY hte;have hes:te.size=ie.size:=by rw[hte'];rfl
 have key:∀ k n,si=.v (.int k n)->∃ c s',r=.chk c s'/\(c->∃ u,(Instr.indexAt t v (.int k n)).run P w=.ok u w/\Rel F own w s' u):=by
  rintro k n rfl;have slice:(dP P t i d).isSlice=true->∃ e,d=.slice e/\P.info? e=some ie:=λhs=>by
   cases d <;>simp[dP]at hs;grind [dP]
  have arr:(dP P t i d).apo=true->∃ len e,d=.array len e/\P.info? e=some ie/\(dP P t i d).len=len:=λhs=>by
   cases d <;>simp[dP]at hs;grind [dP]
  cases hr with
  |rs cf h0 h0' h1 h2=>
   rename_i Y l b o cap;simp only[ip]at E;cases V:(dP P t i d).isSlice&&Nat.beq te.size (aa Y)with
   |false=>grind
   |true=>
    rw[V]at E;simp only[cond_true]at E;simp only[akZ]at V;obtain⟨e,rfl,O⟩:=slice V.1;have hsz:te.size=aa Y:=ak0 V.2;refine⟨_,_,E.symm,λhc=>⟨_,qG hd O hc.1 (by omega),?_⟩⟩;have hlt:n.toNat<l.length:=by omega
    have:=Rel.ep (F:=F) (own:=own) (w:=w) (cells:=cellsOf Y (l.getD n.toNat (eG Y))) (off:=0) (b:=b) (o:=o+n.toNat*aa Y) (cf n.toNat)
     (λj s hj=>h1 n.toNat _ (sB hlt) j s hj) (λj s hj=>h2 n.toNat _ (sB hlt) j s hj)
    grind
  |rs0=>
   rename_i Y a cap;simp only[ip]at E;grind
  |os h1 h2=>
   rename_i id hdd;simp only[ip]at E;cases V:(dP P t i d).isSlice with
   |false=>grind
   |true=>
    rw[V]at E;simp only[cond_true]at E;obtain⟨e,rfl,O⟩:=slice V;cases ho:ap h id with
    |row Y l=>
     rw[ho]at E;simp only[Jy]at E;cases X:Nat.beq te.size (aa Y)with
     |false=>grind
     |true=>
      rw[X]at E;simp only[cond_true]at E;obtain⟨hd',e0,e1⟩:=hp.at ho rfl;rw[h1]at e0;cases e0;refine⟨_,_,E.symm,λhc=>?_⟩;rcases e1 with⟨a,q1,rfl,_⟩ | ⟨b,o,cap,cs,ty,q1,q2,q3,q4,q5,q6,q7⟩;grind
      rw[q1];refine⟨_,qG hd O hc.1 (by omega),?_⟩;have:=Rel.rp (F:=F) (own:=own) (w:=w) (sz:=te.size) (off:=0) (i:=n) h1 q1 (by omega);grind
    |aoV Y l=>
     rw[ho]at E;simp only[Jy]at E;cases X:Nat.beq te.size 1 with
     |false=>grind
     |true=>
      rw[X]at E;simp only[cond_true]at E;have hsz:=ak0 X;obtain⟨hd',e0,e1⟩:=hp.at ho rfl;rw[h1]at e0;cases e0;refine⟨_,_,E.symm,λhc=>?_⟩;rcases e1 with⟨q1,rfl,_⟩ | ⟨b,o,cap,cs,ty,bs,q1,q2,q3,q4,q5,q6,q7,q8,q9⟩;grind
      rw[q1];refine⟨_,qG hd O hc.1 (by omega),?_⟩;have:=Rel.rp (F:=F) (own:=own) (w:=w) (sz:=1) (off:=0) (i:=n) h1 q1 (by omega);grind
    |_=>rw[ho]at E;exact absurd E.symm W
  |gr h1 h2 h3=>
   rename_i id q hdd;simp only[ip]at E;cases V:(dP P t i d).isSlice with
   |false=>grind
   |true=>
    rw[V]at E;simp only[cond_true]at E;obtain⟨e,rfl,O⟩:=slice V;cases ho:ap h id with
    |aoV Y l=>
     rw[ho]at E;simp only[Oj]at E;cases X:Nat.beq te.size (aa Y)with
     |false=>grind
     |true=>
      rw[X]at E;simp only[cond_true]at E;obtain⟨hd',e0,e1⟩:=hp.at ho rfl;rw[h1]at e0;cases e0;refine⟨_,_,E.symm,λhc=>?_⟩;rcases e1 with⟨_,_,q1,_⟩ | ⟨b,o,cap,cs,ty,bs,q1,q2,q3,q4,q5,q6,q7,q8,q9⟩;grind
      obtain⟨b1,k1,k2,k3,k4⟩:=q9.get h2;rcases k3 with⟨a,m1,m2,_⟩ | ⟨b2,o2,cap2,cs2,ty2,m1,m2,m3,m4,m5,m6,m7⟩;grind
      subst m1;refine⟨_,qG hd O hc.1 (by omega),?_⟩;have:=Rel.gp (F:=F) (own:=own) (w:=w) (sz:=te.size) (off:=0) (i:=q) (j:=n) h1 h2 (by omega);grind
    |_=>rw[ho]at E;exact absurd E.symm W
  |ls cf hz h0 h1 h2=>
   rename_i s m l b o cap;simp only[ip]at E;cases V:(dP P t i d).isSlice&&Nat.beq te.size s with
   |false=>grind
   |true=>
    rw[V]at E;simp only[cond_true]at E;simp only[akZ]at V;obtain⟨e,rfl,O⟩:=slice V.1;have hsz:=ak0 V.2;unfold Ok at E;cases hx:Nat.ble 1 s&&Nat.ble (n.toNat*s+s) (sz l)with
    |false=>rw[hx]at E;exact absurd E.symm W
    |true=>
     rw[hx]at E;simp only[akZ,qF]at hx;have g1:=nbl hx.1;have g2:=nbl hx.2;have hlt:n.toNat<m:=Nat.lt_of_mul_lt_mul_right (a:=s) (by omega);refine⟨_,_,E.symm,λhc=>⟨_,qG hd O hc hlt,?_⟩⟩;have:=Rel.ep (F:=F) (own:=own) (w:=w) (cells:=l) (off:=n.toNat*s) (b:=b) (o:=o) cf h1 h2;grind
  |ptr h1 h2=>
   simp only[ip]at E;cases V:(dP P t i d).apo with
   |false=>grind
   |true=>
    rw[V]at E;simp only[cond_true]at E;obtain⟨len,e,rfl,O,hl⟩:=arr V;exact⟨_,_,E.symm,λhc=>⟨_,Bl hd O hc,by rw[<-hes];exact .ptr h1 h2⟩⟩
  |ep cf h1 h2=>
   simp only[ip]at E;cases V:(dP P t i d).apo with
   |false=>grind
   |true=>
    rw[V]at E;simp only[cond_true]at E;obtain⟨len,e,rfl,O,hl⟩:=arr V;exact⟨_,_,E.symm,λhc=>⟨_,Bl hd O hc,by rw[<-hes,amt];exact .ep cf h1 h2⟩⟩
  |rp h1 h2 h3=>
   simp only[ip]at E;cases V:(dP P t i d).apo with
   |false=>grind
   |true=>
    rw[V]at E;simp only[cond_true]at E;obtain⟨len,e,rfl,O,hl⟩:=arr V;exact⟨_,_,E.symm,λhc=>⟨_,Bl hd O hc,by rw[<-hes,amt];exact .rp h1 h2 h3⟩⟩
  |_=>simp only[ip]at E;exact absurd E.symm W
 cases hri with
 |v=>
  cases vi with
  |int k n=>grind
  |_=>cases s <;>first|(simp only[ip]at E;exact absurd E.symm W) |(exact absurd E.symm W)
 |_=>cases s <;>first|(simp only[ip]at E;exact absurd E.symm W) |(exact absurd E.symm W)
variable {k':IntKind}
theorem OC(h:Nat.beq (kN k) (kN k')=true):k=k':=by
 cases k <;>cases k' <;>simp[kN]at h <;>rfl
theorem L2{op:BinOp}(h:CE op k k'=true)(h1:op≠ .shl)(h2:op≠ .shr):k=k':=by
 cases op <;>simp only[CE]at h <;>first|exact OC h|exact absurd rfl h1|grind
variable {a:Int}{ty:TypeId}
theorem R6{op:BinOp}{b:Int}{s:SV}(E:CE op k k'=true)(h:uo op k a b=.val s):∃ u,(binOp op ty (.int k a) (.int k' b)).run P w=.ok u w/\s=.v u:=by
 by_cases h1:op=.shl
 grind [uo]
 by_cases h2:op=.shr
 grind [uo]
 obtain rfl:=L2 E h1 h2;cases op <;>simp[uo]at h <;>subst h <;>exact⟨_,by simp[binOp,Op.intArith,Op.intCmp,Op.intBits,afu,orI,afv,Qr],rfl⟩
theorem R7{op:BinOp}{b:Int}{s:SV}{c:Prop}(O:CE op k k'=true)(h:uo op k a b=.chk c s)(hc:c):∃ u,(binOp op ty (.int k a) (.int k' b)).run P w=.ok u w/\s=.v u:=by
 by_cases E:op=.shr
 subst E;simp only[uo,OR.chk.injEq]at h;obtain⟨rfl,rfl⟩:=h;refine⟨.int k (mu k a b),?_,rfl⟩;simp only[binOp];unfold Op.shift;rw[if_neg (Int.not_lt.2 hc)];rfl;by_cases h1:op=.shl
 subst h1;simp only[uo,OR.chk.injEq]at h;obtain⟨rfl,rfl⟩:=h;refine⟨.int k (aft k a b),?_,rfl⟩;simp only[binOp];unfold Op.shift;rw[if_neg (Int.not_lt.2 hc)];rfl;obtain rfl:=L2 O h1 E;cases op <;>simp only[uo,OR.chk.injEq,reduceCtorEq]at h <;>first|exact absurd rfl E|exact absurd rfl h1|(obtain⟨rfl,rfl⟩:=h;exact⟨_,by simp[binOp,Op.intDiv,hc],rfl⟩)
theorem uv {k k':Tag}(h:Nat.beq (zK k) (zK k')=true):k=k':=by
 have h':=ak0 h;cases k <;>cases k' <;>first|rfl|(simp[zK]at h';done)
theorem CI (op:BinOp)(t:TypeId)(x y:Operand)(k k':IntKind)(a b:Int):(eqGuard op t x y (.int k a) (.int k' b)).run P w=.ok () w:=by
 simp_all [eqGuard]
theorem OD{op:BinOp}{b:Int}{r:OR}(h:aaA op (.v (.int k a)) (.v (.int k' b))=r)(hr:r≠ .bad):CE op k k'=true/\r=uo op k a b:=by
 grind [aaA]
end
def aoX (F:Nat->Prop)(own:Own)(w:World)(l:List SV)(vs:Array Value):Prop:=vs.size=l.length/\∀ (j:Nat) (s:SV),l[j]? =some s->Rel F own w s (vs.getD j undef)
section
variable {P:Program}{F:Nat->Prop}{own:Own}{w:World}
theorem Iq (off:Nat):∀ (l:List Value) (k:Nat) (cs:Array Value),off+k+l.length<=cs.size->
  ((l.zipIdx k).foldl (λ(cs:Array Value) (x:Value×Nat) =>cs.setIfInBounds (off+x.2) x.1) cs).size=cs.size/\
  ∀ j,((l.zipIdx k).foldl (λ(cs:Array Value) (x:Value×Nat) =>cs.setIfInBounds (off+x.2) x.1) cs)[j]? =if off+k<=j/\j<off+k+l.length then l[j - off - k]? else cs[j]?
 | [],k,cs,_=>by
  simp_all [if_neg]
 |x::xs,k,cs,h=>by
  simp only[ak5]at h;obtain⟨h1,h2⟩:=Iq off xs (k+1) (cs.setIfInBounds (off+k) x) (by simp;omega);simp only[List.zipIdx_cons,anW];grind
theorem L3 (v:Value)(off:Nat)(cs:Array Value)(h:off+v.cells.size<=cs.size):
  (v.cells.zipIdx.foldl (λcs (c,j) =>cs.setIfInBounds (off+j) c) cs).size=cs.size/\
  ∀ j,(v.cells.zipIdx.foldl (λcs (c,j) =>cs.setIfInBounds (off+j) c) cs)[j]? =if off<=j/\j<off+v.cells.size then v.cells[j - off]? else cs[j]?:=by
 have:=Iq off v.cells.toList 0 cs (by simpa using h);grind [Array.toList_zipIdx]
theorem tN {vs ws:Array Value}{i j:Nat}(h:vs[i]? =ws[j]?):vs.getD i undef=ws.getD j undef:=by
 simp_all
theorem DQ {E place':Nat->Option (Nat×Nat)}(hpl:∀ i,place' i=E i):∀ (W:List (Nat×SV)) (vps:List (Nat×Value)) (cells l:List SV) (vs:Array Value),aoX F own w cells vs->
  (W.map (·.1)=vps.map (·.1))->(∀ (j:Nat) (x:Nat×SV) (y:Nat×Value),W[j]? =some x->vps[j]? =some y->Rel F own w x.2 y.2)->lH E cells W=some l->
  ∃ V,Instr.fill place' vs vps=some V/\aoX F own w l V
 | [],[],cells,l,vs,hr,_,_,h=>by
  simp[lH]at h;subst h;exact⟨vs,rfl,hr⟩
 | [],_::_,_,_,_,_,h,_,_=>by simp at h
 |_::_,[],_,_,_,_,h,_,_=>by simp at h
 |(i,s)::W,(i',v)::vps,cells,l,vs,hr,X,O,h=>by
  simp only[alt,amB]at X;obtain⟨rfl,X⟩:=X;have h0:Rel F own w s v:=O 0 _ _ rfl rfl;simp only[lH]at h;cases hp:E i with
  |none=>grind
  |some os=>
   obtain⟨off,size⟩:=os;cases hf:ph s with
   |none=>grind
   |some xs=>
    simp only[hp,hf]at h;cases Y:Nat.beq (sz xs) size&&Nat.ble (off+size) (sz cells)with
    |false=>grind
    |true=>
     rw[Y]at h;simp only[cond_true]at h;simp only[akZ,qF]at Y;have e1:xs.length=size:=ak0 Y.1;have e2:off+size<=cells.length:=nbl Y.2;obtain⟨f1,f2⟩:=EA h0 hf;have hle:off+v.cells.size<=vs.size:=by rw[hr.1];omega
     obtain⟨g1,g2⟩:=L3 v off vs hle;have hr':aoX F own w (gN cells off xs) (v.cells.zipIdx.foldl (λcs (c,j) =>cs.setIfInBounds (off+j) c) vs):=by
      refine⟨by rw[g1,nF];exact hr.1,λj x hj=>?_⟩;rw[ov _ _ _ (by omega)]at hj;by_cases hjr:off<=j/\j<off+xs.length
      simp_all;rw[if_neg hjr]at hj;have:=hr.2 _ _ hj;simp_all [if_neg]
     obtain⟨V,q1,q2⟩:=DQ hpl W vps _ l _ hr' X (λj x y hx hy=>O (j+1) x y hx hy) h;simp_all [Instr.fill]
theorem ow {k:Kd}{s:SV}{v:Value}(h:Rel F own w s v):Rel F own w (LL k s) v:=by
 unfold LL;split;have:=cT h;subst this;exact .rs0;cases h;exact .rs0;have:=cT h;subst this;exact .rm0;exact h
theorem zZ:∀ (ks:List Kd) (l:List SV),(yh ks l).length=l.length
 | [],l=>by simp[yh]
 |k::ks,[] =>by simp[yh]
 |k::ks,s::r=>by simp[yh,zZ ks r]
theorem uw:∀ (ks:List Kd) (l:List SV) (j:Nat) (s:SV),(yh ks l)[j]? =some s->∃ s0,l[j]? =some s0/\(s=s0\/∃ k,s=LL k s0)
 | [],l,j,s,h=>⟨s,by grind [yh],.inl rfl⟩
 |k::ks,[],j,s,h=>by simp[yh]at h
 |k::ks,x::r,0,s,h=>by grind [yh]
 |k::ks,x::r,j+1,s,h=>by simp[yh]at h;simpa using uw ks r j s h
variable {l:List SV}
theorem aoX.nrm{ks:List Kd}{vs:Array Value}(h:aoX F own w l vs):aoX F own w (yh ks l) vs:=
 ⟨by rw[zZ];exact h.1,λj s V=>by
  obtain⟨s0,O,E| ⟨k,E⟩⟩:=uw _ _ _ _ V;subst E;exact h.2 j _ O;subst E;exact ow (h.2 j _ O)⟩
theorem Ir {E:Nat->Option (Nat×Nat)}:∀ (O:List (Nat×SV)) (cells l:List SV),lH E cells O=some l->l.length=cells.length
 | [],cells,l,h=>by grind [lH]
 |(i,v)::O,cells,l,h=>by
  simp only[lH]at h;split at h
  rename_i off size vs _ _;cases V:Nat.beq (sz vs) size&&Nat.ble (off+size) (sz cells)with
  |false=>grind|true=>rw[V]at h;simp only[cond_true]at h;rw[Ir O _ _ h,nF]
  cases h
theorem xM (v:Value):aoX F own w (svs v) v.cells:=by
 refine⟨by simp[svs],λj s E=>?_⟩;simp[svs]at E;obtain⟨z,O,rfl⟩:=E;simp[O];exact .v _
theorem L4 {fs:List Field}:(fs.all λf=>(P.info? f.type).isSome&&(P.underlying f.type).isSome)=true->
  fs.mapM (λf=>(P.info? f.type).map λi=>(f.offset,i.size))=some (fs.map λf=>(f.offset,nX P f.type)):=by
 induction fs with
 |nil=>intro _;rfl
 |cons f fs E=>
  intro h;simp only[List.all_cons,akZ]at h;grind [nX]
variable {t:TypeId}{ti:TI}
theorem T9(ht:jn P t=some ti){W:List (Nat×SV)}{vps:Array (Nat×Value)}(hm:W.map (·.1)=vps.toList.map (·.1))
  (V:∀ (j:Nat) (x:Nat×SV) (y:Nat×Value),W[j]? =some x->vps.toList[j]? =some y->Rel F own w x.2 y.2)
  (h:(ti.apo=true/\∃ te,jn P ti.elem=some te/\lH (λi=>some (i*te.size,te.size)) ti.zero W=some l)\/
     (ti.apo=false/\ti.agg=true/\lH (λi=>(nth ti.fields i).map λf=>(f.1,f.2.1)) ti.zero W=some l)):
  ∃ u,(Instr.build t vps).run P w=.ok u w/\Rel F own w (.agg l) u:=by
 obtain⟨i,d,z,hi,hd,hz,hq,rfl⟩:=bY ht;have O:(dP P t i d).zero=svs z:=by simp[dP,hz]
 rcases h with⟨ha,te,hte,Y⟩ | ⟨ha,hg,Y⟩;obtain⟨ie,de,ze,hie,hde,hze,hqe,he⟩:=bY hte;cases d <;>simp[dP]at ha;rename_i len e;simp only[dP]at hie;rw[O]at Y;have hes:te.size=ie.size:=by rw[he];rfl
 obtain⟨E,q1,X⟩:=DQ (place':=λi=>some (i*ie.size,ie.size)) (λi=>by rw[hes]) W vps.toList _ l z.cells (xM z) hm V Y;exact⟨.agg E,run_build w t vps E (by grind [Program.built]),.agg X.1 X.2⟩;cases d with
 |struct fs=>
  rw[O]at Y;have hmp:=L4 (P:=P) (fs:=fs.toList) (by grind [zO]);obtain⟨E,q1,X⟩:=DQ (place':=λi=>(fs.toList.map λf=>(f.offset,nX P f.type)).toArray[i]?) (λi=>by
   simp[dP,gC];rfl) W vps.toList _ l z.cells (xM z) hm V Y
  exact⟨.agg E,run_build w t vps E (by grind [Program.built]),.agg X.1 X.2⟩
 |array len e=>simp[dP]at ha|_=>simp[dP,kl,hd]at hg
theorem L5 (z:List SV)(E:0<z.length):∀ (n i:Nat),(Dc n z)[i]? =if i<n*z.length then z[i % z.length]? else none
 |0,i=>by simp[Dc]
 |n+1,i=>by
  rw[Dc,al2];by_cases hi:i<z.length
  rw[if_pos hi,if_pos (by grind),anG hi];rw[if_neg hi,L5 z E n];rw[anp];by_cases O:i - z.length<n*z.length
  rw[if_pos O,if_pos (by omega)];grind [Nat.mod_eq_sub_mod]
  grind
theorem wT (z:List SV):∀ n,(Dc n z).length=n*z.length
 |0=>by simp[Dc]
 |n+1=>by rw[Dc,ak9,wT z n,anp];omega
theorem Is {s:SV}(h:fit .s s=true): .v (.string (toS s))=s:=by
 cases s <;>simp only[fit,ak7]at h;rename_i x;cases x <;>simp only[fit,ak7]at h;rfl
theorem It {s:SV}(h:fit .b s=true): .v (.bool (toB s))=s:=by
 cases s <;>simp only[fit,ak7]at h;rename_i x;cases x <;>simp only[fit,ak7]at h;rfl
variable {k:IntKind}
theorem XU{k':IntKind}(h:Nat.beq (kN k) (kN k')=true):k=k':=by
 cases k <;>cases k' <;>first|rfl|(simp[kN]at h;done)
theorem Iu{s:SV}(h:fit (.n k) s=true): .v (.int k (toI s))=s:=by
 cases s <;>simp only[fit,ak7]at h;rename_i x;cases x <;>simp only[fit,ak7]at h;have:=XU h;subst this;rfl
theorem iu {k:Tag}{s:SV}(h:fit (.r k) s=true):∃ l,s=.rs k l:=by
 cases s <;>simp only[fit,ak7]at h;rename_i k' l;have:=uv h;subst this;grind
theorem T_ {k k2:Tag}{s:SV}(h:fit (.m k k2) s=true):∃ l,s=.rm k k2 l:=by
 cases s <;>simp only[fit,ak7]at h;rename_i k' V l;simp only[akZ]at h;have E:=uv h.1;have O:=uv h.2;subst E;subst O;grind
theorem OE {s:SV}(h:fit (.r .reach) s=true): .rs .reach (uh s)=s:=by obtain⟨l,rfl⟩:=iu h;rfl
theorem R8 {s:SV}(h:fit (.r .gl) s=true): .rs .gl (wG s)=s:=by obtain⟨l,rfl⟩:=iu h;rfl
theorem R9 {s:SV}(h:fit (.r .apa) s=true): .rs .apa (wH s)=s:=by obtain⟨l,rfl⟩:=iu h;rfl
theorem OF {s:SV}(h:fit (.r .right) s=true): .rs .right (ui s)=s:=by obtain⟨l,rfl⟩:=iu h;rfl
theorem R_ {s:SV}(h:fit (.r .apn) s=true): .rs .apn (wI s)=s:=by obtain⟨l,rfl⟩:=iu h;rfl
theorem Ua {s:SV}(h:fit (.r .int) s=true): .rs .int (zL s)=s:=by obtain⟨l,rfl⟩:=iu h;rfl
theorem Sa {s:SV}(h:fit (.r .aps) s=true): .rs .aps (wJ s)=s:=by obtain⟨l,rfl⟩:=iu h;rfl
theorem Sb {s:SV}(h:fit (.r .part) s=true): .rs .part (D9 s)=s:=by obtain⟨l,rfl⟩:=iu h;rfl
theorem Sc {s:SV}(h:fit (.r .B1) s=true): .rs .B1 (LH s)=s:=by obtain⟨l,rfl⟩:=iu h;rfl
theorem L6 {s:SV}(h:fit (.r .aow) s=true): .rs .aow (yZ s)=s:=by obtain⟨l,rfl⟩:=iu h;rfl
theorem OG {s:SV}(h:fit (.r .Q1) s=true): .rs .Q1 (Bc s)=s:=by obtain⟨l,rfl⟩:=iu h;rfl
theorem OH {s:SV}(h:fit (.r .order) s=true): .rs .order (Bd s)=s:=by obtain⟨l,rfl⟩:=iu h;rfl
theorem Sd {s:SV}(h:fit (.r .aok) s=true): .rs .aok (LI s)=s:=by obtain⟨l,rfl⟩:=iu h;rfl
theorem Bm {s:SV}(h:fit (.r .aom) s=true): .rs .aom (v_ s)=s:=by obtain⟨l,rfl⟩:=iu h;rfl
theorem OI {s:SV}(h:fit (.r .fault) s=true): .rs .fault (Ij s)=s:=by obtain⟨l,rfl⟩:=iu h;rfl
theorem Se {s:SV}(h:fit (.r .bool) s=true): .rs .bool (LJ s)=s:=by obtain⟨l,rfl⟩:=iu h;rfl
theorem Sf {s:SV}(h:fit (.r .ints) s=true): .rs .ints (zM s)=s:=by obtain⟨l,rfl⟩:=iu h;rfl
theorem EC {s:SV}(h:fit (.r .X1) s=true): .rs .X1 (yD s)=s:=by obtain⟨l,rfl⟩:=iu h;rfl
theorem z5 {s:SV}(h:fit (.r .aoC) s=true): .rs .aoC (uj s)=s:=by obtain⟨l,rfl⟩:=iu h;rfl
theorem Ub {s:SV}(h:fit (.r .fnc) s=true): .rs .fnc (Qo s)=s:=by obtain⟨l,rfl⟩:=iu h;rfl
theorem JR {s:SV}(h:fit (.r .holding) s=true): .rs .holding (CB s)=s:=by obtain⟨l,rfl⟩:=iu h;rfl
theorem y_ {s:SV}(h:fit (.r .bo) s=true): .rs .bo (tG s)=s:=by obtain⟨l,rfl⟩:=iu h;rfl
theorem za {s:SV}(h:fit (.r .pq) s=true): .rs .pq (tH s)=s:=by obtain⟨l,rfl⟩:=iu h;rfl
theorem Sg {s:SV}(h:fit (.r .aoE) s=true): .rs .aoE (LK s)=s:=by obtain⟨l,rfl⟩:=iu h;rfl
theorem Hl {s:SV}(h:fit (.r .al) s=true): .rs .al (zN s)=s:=by obtain⟨l,rfl⟩:=iu h;rfl
theorem JS {s:SV}(h:fit (.r .refusal) s=true): .rs .refusal (CC s)=s:=by obtain⟨l,rfl⟩:=iu h;rfl
theorem OJ {s:SV}(h:fit (.r .range) s=true): .rs .range (Ik s)=s:=by obtain⟨l,rfl⟩:=iu h;rfl
theorem OK {s:SV}(h:fit (.r .ratio) s=true): .rs .ratio (Il s)=s:=by obtain⟨l,rfl⟩:=iu h;rfl
theorem L7 {s:SV}(h:fit (.r .ao9) s=true): .rs .ao9 (D_ s)=s:=by obtain⟨l,rfl⟩:=iu h;rfl
theorem Bn {s:SV}(h:fit (.r .G2) s=true): .rs .G2 (wa s)=s:=by obtain⟨l,rfl⟩:=iu h;rfl
theorem ED {s:SV}(h:fit (.r .aoP) s=true): .rs .aoP (yE s)=s:=by obtain⟨l,rfl⟩:=iu h;rfl
theorem z6 {s:SV}(h:fit (.r .aoN) s=true): .rs .aoN (uk s)=s:=by obtain⟨l,rfl⟩:=iu h;rfl
theorem Uc {s:SV}(h:fit (.r .str) s=true): .rs .str (Qp s)=s:=by obtain⟨l,rfl⟩:=iu h;rfl
theorem wr {s:SV}(h:fit (.m .aoC .int) s=true): .rm .aoC .int (lG s)=s:=by obtain⟨l,rfl⟩:=T_ h;rfl
theorem yj {s:SV}(h:fit (.m .X1 .bool) s=true): .rm .X1 .bool (kh s)=s:=by obtain⟨l,rfl⟩:=T_ h;rfl
theorem JT {s:SV}(h:fit (.m .int .int) s=true): .rm .int .int (wK s)=s:=by obtain⟨l,rfl⟩:=T_ h;rfl
theorem afF {s:SV}(h:fit .f s=true):fnV (toF s)=s:=by
 unfold fit at h;split at h <;>first|rfl|simp_all
theorem pw{k:Kd}{ks:List Kd}(h:ul (k::ks) l=true):∃ x r,l=x::r/\fit k x=true/\ul ks r=true:=by
 cases l with
 |nil=>simp[ul]at h|cons x r=>grind [ul]
theorem uz(h:ul [] l=true):l=[]:=by
 grind [ul]
variable {k:Tag}{x:k.T}
theorem qH(h:wb k l=some x):cellsOf k x=l:=by
 unfold wb at h;cases E:ul (et k) l with
 |false=>grind
 |true=>
  simp only[E,cond_true,ak3]at h;subst h;cases k <;>simp only[et]at E <;>
   (repeat (obtain⟨_,_,rfl,_,E⟩:=pw E)) <;>(obtain rfl:=uz E) <;>
   simp_all [cellsOf,mkE,at0,Is,Iu,It,afF,OE,R8,R9,OF,R_,Ua,Sa,Sb,Sc,L6,OG,OH,Sd,Bm,OI,Se,Sf,EC,z5,Ub,JR,y_,za,Sg,Hl,JS,OJ,OK,L7,Bn,ED,z6,Uc
   ,wr,yj,JT
   ]
def mz(h:oq k l=some x):cellsOf k x=yh (et k) l:=qH h
theorem EE(h:oq k l=some x){vs:Array Value}(hr:aoX F own w l vs):aoX F own w (cellsOf k x) vs:=by
 rw[mz h];exact hr.nrm
theorem OL(h:oq k l=some x):l.length=aa k:=by
 rw[<-bK k x,mz h,zZ]
theorem Bo(x:k.T):oq k (cellsOf k x)=some x:=by
 cases k <;>first|rfl|(cases x <;>rfl)
theorem CJ{y:k.T}(h:cellsOf k x=cellsOf k y):x=y:=by
 grind [Bo]
theorem Hm (k:Tag):0<aa k:=by cases k <;>simp[aa]
theorem EF {k:Tag}{size:Nat}(W:size=aa k):∀ (n:Nat) (l:List SV) (xs:List k.T),rG k size n l=some xs->
  xs.length=n/\∀ (i:Nat) (x:k.T),xs[i]? =some x->∀ (j:Nat) (s:SV),(cellsOf k x)[j]? =some s->∃ s0,l[i*size+j]? =some s0/\(s=s0\/∃ q,s=LL q s0)
 |0,l,xs,h=>by
  grind [rG]
 |n+1,l,xs,h=>by
  simp only[rG,JO,DP]at h;cases O:oq k (l.take size)with
  |none=>grind
  |some y=>
   cases hr:rG k size n (l.drop size)with
   |none=>grind
   |some ys=>
    simp only[O,hr,ak3]at h;subst h;obtain⟨h1,h2⟩:=EF W n _ _ hr;refine⟨by simp[h1],λi x E j s V=>?_⟩;cases i with
    |zero=>
     simp at E;subst E;rw[mz O]at V;obtain⟨s0,X,Y⟩:=uw _ _ _ _ V;grind
    |succ i=>
     simp at E;grind
variable {ps:List (Nat×SV)}
theorem L8{i:TypeInfo}{e:TypeId}{E:TypeInfo}{O:Value}(hi:P.info? t=some i)(hd:P.underlying t=some (.slice e))(hie:P.info? e=some E)(hze:E.zero=some O)(hzl:O.cells.size=E.size){n:Nat}{vps:Array (Nat×Value)}
  (hm:ps.map (·.1)=vps.toList.map (·.1)) (apu:∀ (j:Nat) (x:Nat×SV) (y:Nat×Value),ps[j]? =some x->vps.toList[j]? =some y->Rel F own w x.2 y.2)
  (hf:lH (λi=>some (i*E.size,E.size)) (Dc n (svs O)) ps=some l) (hpos:0<E.size) (hle:n*E.size<=16777216):
  ∃ V,(Instr.buildSlice t n vps).run P w=.ok (.slice (some ⟨w.heap.size,0,none⟩) n n) (w.alloc (.cells V e))/\aoX F own w l V/\V.size=n*E.size:=by
 have X:(svs O).length=E.size:=by simp[svs,hzl]
 let cz:Array Value:=if n*E.size=0 then #[]else O.cells
 have hz0:aoX F own w (Dc n (svs O)) ((Array.range (n*E.size)).map (cz[· % cz.size]!)):=by
  refine⟨by simp[wT,X],λj s hj=>?_⟩;rw[L5 _ (by omega)]at hj;by_cases Y:j<n*(svs O).length
  rw[if_pos Y]at hj;rw[X]at Y hj;have hn0:n*E.size≠0:=by omega
  have W:cz=O.cells:=by grind
  rw[W];have hm1:j % O.cells.size<O.cells.size:=am5 _ (by omega);have:=(xM (F:=F) (own:=own) (w:=w) O).2 (j % O.cells.size) s (by grind);simp_all;grind
 obtain⟨V,q1,q2⟩:=DQ (place':=λi=>some (i*E.size,E.size)) (λi=>rfl) ps vps.toList _ l _ hz0 hm apu hf;refine⟨V,?_,q2,?_⟩;simp only[Instr.buildSlice,alv,run_underlying hd,alh,dQ hie];have hle':¬ (n*E.size > 2 ^ 24):=by omega
 simp only[hle',if_false];by_cases hn0:n*E.size=0
 have W:cz= #[]:=by grind
 simp_all [newRow];have W:cz=O.cells:=by grind
 rw[W]at q1;rw[if_neg hn0];simp_all [zeroValue,typeInfo,newRow];have h1:=Ir _ _ _ hf;rw[q2.1,h1,wT,X]
variable {h:List Ob}
theorem arK(W:Hp F own w h):¬dg F own w.heap.size:=by
 rintro (E| ⟨id,hd',O,V⟩);exact al8 _ (W.aoB _ E);exact al8 _ (W.lt id hd' _ O V)
theorem aaT(hp:Hp F own w h){te:TI}(ht:jn P t=some ti)(hte:jn P ti.elem=some te){n:Nat}{vps:Array (Nat×Value)}
  (hm:ps.map (·.1)=vps.toList.map (·.1)) (apu:∀ (j:Nat) (x:Nat×SV) (y:Nat×Value),ps[j]? =some x->vps.toList[j]? =some y->Rel F own w x.2 y.2) {r:OR}
  (E:bsS ti te n ps=r) (hr:r≠ .bad):
  ∃ s cs ty u,r=.apm s/\(Instr.buildSlice t n vps).run P w=.ok u (w.alloc (.cells cs ty))/\Rel F own (w.alloc (.cells cs ty)) s u/\∀ (k:Tag) (xs:List k.T),s=.rs k xs->u=.slice (some ⟨w.heap.size,0,none⟩) xs.length xs.length/\xs.length*aa k<=cs.size/\xs.length<=aN/\ao1 F own w k xs 0 cs:=by
 obtain⟨i,d,z,hi,hd,hz,hq,rfl⟩:=bY ht;obtain⟨ie,de,ze,W,hde,hze,hqe,he⟩:=bY hte;have X:te.size=ie.size:=by rw[he];rfl
 have V:te.zero=svs ze:=by simp_all [dP]
 have hg:∀ cs ty,ao_ F own w own (w.alloc (.cells cs ty)):=λcs ty=>ao_.below F own (qE w _);have hnew:=arK hp;unfold bsS at E;cases hn:Nat.beq n 0 with
 |true=>
  rw[hn]at E;have hn0:=ak0 hn;subst hn0;simp only[cond_true]at E;cases d with
  |slice e=>
   subst E;have hps:ps=[]:=by
    grind
   simp only[dP]at W;have hv:vps= #[]:=by
    simp_all
   subst hv;subst hps;refine⟨_,#[],e,.slice (some ⟨w.heap.size,0,none⟩) 0 0,rfl,?_,.e0,λ_ _ e=>(by cases e)⟩;have he0:Array.map (λ(_:Nat) =>(default:Value)) (Array.range 0)= #[]:=ane (by simp);simp[Instr.buildSlice,run_underlying hd,dQ W,Instr.fill,newRow,World.alloc_eq,he0]
  |_=>simp[dP]at E;exact absurd E.symm hr
 |false=>
 rw[hn]at E;simp only[cond_false]at E;rw[X]at E;cases hf:lH (λi=>some (i*ie.size,ie.size)) (Dc n te.zero) ps with
 |none=>
  rw[hf]at E;exfalso;unfold bsG at E;cases Y:aaF te.tag with
  |none=>rw[Y]at E;exact hr E.symm|some k=>rw[Y]at E;simp only at E;cases hio:XE ps <;>rw[hio]at E <;>exact hr E.symm
 |some l=>
 rw[hf]at E;have typed:∀ k,bsT k (dP P t i d) te n (some l)=r->∃ s cs ty u,r=.apm s/\(Instr.buildSlice t n vps).run P w=.ok u (w.alloc (.cells cs ty))/\Rel F own (w.alloc (.cells cs ty)) s u/\∀ (k:Tag) (xs:List k.T),s=.rs k xs->u=.slice (some ⟨w.heap.size,0,none⟩) xs.length xs.length/\xs.length*aa k<=cs.size/\xs.length<=aN/\ao1 F own w k xs 0 cs:=by
  intro k E;simp only[bsT]at E;cases hc:Nat.beq te.size (aa k)&&(dP P t i d).isSlice&&Nat.ble (n*te.size) 16777216&&Nat.beq (sz te.zero) te.size with
  |false=>rw[hc]at E;exact absurd E.symm hr
  |true=>
  rw[hc]at E;simp only[cond_true]at E;simp only[akZ,qF]at hc;obtain⟨⟨⟨c1,c2⟩,c3⟩,c4⟩:=hc;have c1:=ak0 c1;have c3:=nbl c3;have c4:=ak0 c4;cases hel:rG k te.size n l with
  |none=>rw[hel]at E;exact absurd E.symm hr
  |some xs=>
  rw[hel]at E;simp only[TJ]at E;subst E;cases d with
  |slice e=>
   simp only[dP]at W hde;have hpos:0<te.size:=by rw[c1];exact Hm k
   have hzl:ze.cells.size=ie.size:=by rw[<-X,<-c4,V];simp[svs]
   rw[V]at hf;obtain⟨O,q1,q2,q3⟩:=L8 hi hd W hze hzl hm apu hf (by omega) (by rw[<-X];exact c3);obtain⟨x1,x2⟩:=EF c1 n l xs hel;refine⟨_,O,e,_,rfl,q1,?_,?_⟩
   rotate_left
   intro k' xs' e';cases e';refine⟨by rw[x1],?_,by rw[x1];have:n<=n*te.size:=amc n hpos;unfold aN;omega,λi x hx j s hj=>?_⟩;grind
   obtain⟨s0,h1,h2⟩:=x2 i x hx j s hj;rw[c1]at h1;have hlt:i*aa k+j<O.size:=by rw[q2.1];exact(ak4.1 h1).1
   have h3:=q2.2 _ _ h1;refine⟨O.getD (i*aa k+j) undef,by simp_all,?_⟩;rcases h2 with rfl| ⟨q,rfl⟩;exact h3;exact ow h3;have:=Rel.rs (F:=F) (own:=own) (w:=w.alloc (.cells O e)) (k:=k) (l:=xs) (b:=w.heap.size) (o:=0) (cap:=xs.length) (λi j=>O.getD (i*aa k+j) undef) (ak2 _)
    (by rw[x1];have:n<=n*te.size:=amc n hpos;unfold aN;omega)
    (λi x hx j s hj=>⟨hnew,by
     obtain⟨s0,h1,_⟩:=x2 i x hx j s hj;rw[c1]at h1;have hlt:i*aa k+j<O.size:=by rw[q2.1];exact(ak4.1 h1).1
     rw[ak8,anY];simp[hlt]⟩)
    (λi x hx j s hj=>by
     obtain⟨s0,h1,h2⟩:=x2 i x hx j s hj;rw[c1]at h1;have h3:=(q2.2 _ _ h1).mono (hg O e);rcases h2 with rfl| ⟨q,rfl⟩;exact h3;exact ow h3)
   grind
  |_=>simp[dP]at c2
 have untyped:bsU (dP P t i d) te n (some l)=r->∃ s cs ty u,r=.apm s/\(Instr.buildSlice t n vps).run P w=.ok u (w.alloc (.cells cs ty))/\Rel F own (w.alloc (.cells cs ty)) s u/\∀ (k:Tag) (xs:List k.T),s=.rs k xs->u=.slice (some ⟨w.heap.size,0,none⟩) xs.length xs.length/\xs.length*aa k<=cs.size/\xs.length<=aN/\ao1 F own w k xs 0 cs:=by
  intro E;simp only[bsU]at E;cases hc:(dP P t i d).isSlice&&Nat.ble 1 te.size&&Nat.ble (n*te.size) 16777216&&Nat.beq (sz te.zero) te.size with
  |false=>rw[hc]at E;exact absurd E.symm hr
  |true=>
  rw[hc]at E;simp only[cond_true,lsS]at E;simp only[akZ,qF]at hc;obtain⟨⟨⟨c2,c1⟩,c3⟩,c4⟩:=hc;have c1:=nbl c1;have c3:=nbl c3;have c4:=ak0 c4;cases hc2:Nat.beq (sz l) (n*te.size)&&vg l with
  |false=>grind
  |true=>
  rw[hc2]at E;simp only[cond_true]at E;subst E;simp only[akZ,qF]at hc2;have hln:=ak0 hc2.1;cases d with
  |slice e=>
   simp only[dP]at W hde;have hzl:ze.cells.size=ie.size:=by rw[<-X,<-c4,V];simp[svs]
   rw[V]at hf;obtain⟨O,q1,q2,q3⟩:=L8 hi hd W hze hzl hm apu hf (by omega) (by rw[<-X];exact c3);refine⟨_,O,e,_,rfl,q1,?_,λ_ _ e=>(by cases e)⟩;have:=Rel.ls (F:=F) (own:=own) (w:=w.alloc (.cells O e)) (z:=te.size) (n:=n) (l:=l) (b:=w.heap.size) (o:=0) (cap:=n) (λj=>O.getD j undef) hln.symm (ak2 _)
    (λj s hj=>⟨hnew,by
     have hlt:j<O.size:=by grind
     rw[ak8,anY];simp[hlt]⟩)
    (λj s hj=>(q2.2 _ _ hj).mono (hg O e))
   grind
  |_=>simp[dP]at c2
 unfold bsG at E;grind
end
structure are (b:Nat)(ty:TypeId)(cs':Array Value)(w w':World):Prop where
 here:w'.heap[b]? =some (.cells cs' ty (0,0))
 size:w'.heap.size=w.heap.size
 other:∀ k,k≠b->w'.heap[k]? =w.heap[k]?
 os:w'.os=w.os
 tape:w'.tape=w.tape
 output:w'.output=w.output
section
variable {P:Program}{F:Nat->Prop}{own:Own}{w:World}
theorem jW {b o:Nat}{ty:TypeId}:∀ (vs:List Value) (i:Nat) (w:World) (cs:Array Value),w.heap[b]? =some (.cells cs ty (0,0))->o+i+vs.length<=cs.size->(∀ v∈vs,v.oneCell'=true)->
  ∃ O w',(storeCells ⟨b,o,none⟩ vs i).run P w=.ok () w'/\are b ty O w w'/\O.size=cs.size/\∀ j,O[j]? =if o+i<=j/\j<o+i+vs.length then vs[j - (o+i)]? else cs[j]?
 | [],i,w,cs,W,_,_=>by
  refine⟨cs,w,by rfl,⟨W,rfl,λ_ _=>rfl,rfl,rfl,rfl⟩,rfl,λj=>?_⟩;grind
 |v::vs,i,w,cs,W,hle,X=>by
  simp only[ak5]at hle;have hlt:o+i<cs.size:=by omega
  have hcell:w.cell? ⟨b,o+i,none⟩=some cs[o+i]:=by rw[eJ W];simp[hlt]
  have hrun:(store (Addr.add ⟨b,o,none⟩ i) v).run P w=.ok () (w.setCell ⟨b,o+i,none⟩ v):=by
   grind [nG,run_store,EB]
  have E:=setCell_eq_setRow w b (o+i) cs ty (0,0) v W;have Y:(w.setCell ⟨b,o+i,none⟩ v).heap[b]? =some (.cells (cs.setIfInBounds (o+i) v) ty (0,0)):=by
   rw[E];exact setRow_heap w b cs _ ty (0,0) W
  obtain⟨O,w',e1,V,e3,e4⟩:=jW (o:=o) vs (i+1) _ _ Y (by simp;omega) (λv hv=>X v (by simp[hv]));refine⟨O,w',?_,⟨V.here,by rw[V.size];simp,λk hk=>?_,by rw[V.os,E];rfl,by rw[V.tape,E];rfl,by rw[V.output,E];rfl⟩,by rw[e3];simp,λj=>?_⟩;grind [storeCells,Sem.run_bind,Result.andThen_ok]
  rw[V.other k hk,E];exact setRow_other w b k _ hk;grind
variable {v:Value}
theorem Ud{s:SV}(h:Ol s=true)(hr:Rel F own w s v):v.oneCell'=true:=by
 cases hr <;>first|rfl|(exact my (by assumption)) |(simp[Ol]at h;done) |(rename_i x;cases x <;>first|rfl|(simp[Ol]at h;done)) |(cases v <;>first|rfl|(simp[Ol]at h;done))
theorem CK:∀ {l:List SV},vg l=true->∀ (j:Nat) (s:SV),l[j]? =some s->Ol s=true
 | [],_,j,s,h=>by simp at h
 |x::r,h,0,s,hs=>by grind [vg]
 |x::r,h,j+1,s,hs=>by simp[vg]at h hs;exact CK h.2 j s hs
variable {t:TypeId}{ti:TI}{sx:SV}{off:Nat}
theorem xN(ht:jn P t=some ti){O:Value}(Y:Rel F own w sx O){xs:List SV}(hf:ph sx=some xs)(X:xs.length=ti.size)(W:∀ (j:Nat) (s:SV),xs[j]? =some s->∀ v,Rel F own w s v->v.oneCell'=true)
  {b:Nat} {cs:Array Value} {ty:TypeId} (hb:w.heap[b]? =some (.cells cs ty (0,0))) (hle:off+xs.length<=cs.size):
  ∃ E w',(Instr.storeAt t (.pointer (some ⟨b,off,none⟩)) O).run P w=.ok () w'/\are b ty E w w'/\E.size=cs.size/\
   (∀ j,off<=j->j<off+xs.length->∃ u,E[j]? =some u/\∀ s,xs[j - off]? =some s->Rel F own w s u)/\(∀ j,¬ (off<=j/\j<off+xs.length)->E[j]? =cs[j]?):=by
 obtain⟨i,d,z,hi,hd',hz,hq,rfl⟩:=bY ht;obtain⟨f1,f2⟩:=EA Y hf;obtain⟨E,w',q1,q2,q3,q4⟩:=jW (P:=P) (b:=b) (o:=off) (ty:=ty) O.cells.toList 0 w cs hb (by simp;omega) (λu hu=>by
  obtain⟨j,hj⟩:=alS hu;have hjl:j<O.cells.size:=by grind
  have V:=alb (l:=xs) (i:=j) (by omega);have:=W j _ V _ (f2 j _ V);simp_all)
 have hsz2:O.cells.size=i.size:=by rw[f1,X];rfl
 refine⟨E,w',by simp_all [Instr.storeAt,Instr.sureAddr,storeVar,dQ],q2,q3,λj h1 h2=>?_,λj h1=>?_⟩;simp_all <;>grind;grind
variable {ee:Own}{k:Tag}{o:Nat}{x:k.T}
theorem ao1.put{w':World}(g:ao_ F own w ee w'){l:List k.T}{cs O:Array Value}(h:ao1 F own w k l o cs){i:Nat}(hi:i<l.length){xs:List SV}(hx:oq k (gN (cellsOf k (l.getD i (eG k))) off xs)=some x)
  (hle:off+xs.length<=aa k)
  (hin:∀ j,o+i*aa k+off<=j->j<o+i*aa k+off+xs.length->∃ u,O[j]? =some u/\∀ s,xs[j - (o+i*aa k+off)]? =some s->Rel F own w s u)
  (V:∀ j,¬ (o+i*aa k+off<=j/\j<o+i*aa k+off+xs.length)->O[j]? =cs[j]?):ao1 F ee w' k (l.set i x) o O:=by
 intro Y y hy j s hj;rw[amQ]at hy;have hjl:j<aa k:=by grind [bK]
 by_cases E:i=Y
 subst E;rw[if_pos rfl,if_pos hi]at hy;simp only[ak3]at hy;subst hy;rw[mz hx]at hj;obtain⟨s0,X,e2⟩:=uw _ _ _ _ hj;rw[ov _ _ _ (by grind [bK])]at X;have fin:∀ u,Rel F own w s0 u->Rel F ee w' s u:=λu hu=>by
  rcases e2 with rfl| ⟨q,rfl⟩;exact hu.mono g;exact ow (hu.mono g)
 by_cases W:off<=j/\j<off+xs.length
 rw[if_pos W]at X;obtain⟨u,h1,h2⟩:=hin (o+i*aa k+j) (by omega) (by omega);grind
 rw[if_neg W]at X;obtain⟨h1,h2⟩:=h.get hi X;grind
 rw[if_neg E]at hy;obtain⟨u,h1,h2⟩:=h Y y hy j s hj;refine⟨u,?_,h2.mono g⟩;rw[V];exact h1;rcases Nat.lt_or_gt_of_ne E with hlt|hlt;have:(i+1)*aa k<=Y*aa k:=alg _ hlt;grind
 have:(Y+1)*aa k<=i*aa k:=alg _ hlt;grind
variable {n:Nat}
theorem QG{cap i size m E:Nat}(h1:o+cap*size<=E)(h2:n<=cap)(V:i<n)(O:off+m<=size):o+i*size+off+m<=E:=by
 have W:(i+1)*size<=cap*size:=alg _ (by omega);grind
theorem aoS.put{w':World}(g:ao_ F own w ee w'){l':List k.T}{b:Nat}(O:∀ c,c≠b->w'.heap[c]? =w.heap[c]?):
  ∀ {l:List (List k.T)} {vs:List Value} {bs:List Nat} {i:Nat},aoS F own w k l vs bs->bs.Nodup->vs[i]? =some v->(∀ E,aoO F own w k (l.getD i []) v E->b∈E)->(∀ E,aoO F own w k (l.getD i []) v E->aoO F ee w' k l' v E)->aoS F ee w' k (l.set i l') vs bs
 | [],[],bs,i,_,_,h,_,_=>by simp at h
 |l::ls,u::vs,bs,0,⟨E,b2,h1,h0,h2,h3⟩,hn,h,hb,hr=>by
  simp at h;subst h;refine⟨E,b2,h1,h0,hr E h2,h3.carry g.apb λc hc=>O c λe=>?_⟩;grind
 |l::ls,u::vs,bs,i+1,⟨E,b2,h1,h0,h2,h3⟩,hn,h,hb,hr=>by
  rw[h1]at hn;have Y:=hn;rw[amm]at hn;have h':vs[i]? =some v:=by simpa using h
  obtain⟨W,q1,q2,q3,X⟩:=h3.get h';have V:=hb W (by grind);exact⟨E,b2,h1,h0,h2.carry g.apb λc hc=>O c λe=>hn.2.2 _ hc _ (X b V) e,
   aoS.put g O h3 hn.2.1 h' (λE hb1=>hb E (by grind)) λE hb1=>hr E (by grind)⟩
 | [],_::_,_,_,h,_,_,_,_=>h.elim|_::_,[],_,_,h,_,_,_,_=>h.elim
theorem Iv{l l':List SV}{xs:List SV}(Y:oq k (gN l off xs)=some x)(hl:l.length=aa k)(X:off+xs.length<=aa k)(j:Nat)(s:SV)(hj:xs[j]? =some s)(v:Value)(hv:Rel F own w s v):v.oneCell'=true:=by
 have hjl:=(ak4.1 hj).1;have h1:(gN l off xs)[off+j]? =some s:=by
  simp_all [ov]
 have hc:=mz Y;have E:off+j< (cellsOf k x).length:=by rw[bK];omega
 obtain⟨s1,h2⟩:∃ s1,(cellsOf k x)[off+j]? =some s1:=⟨_,alb E⟩;have V:=h2;rw[hc]at V;obtain⟨s0,O,e2⟩:=uw _ _ _ _ V;rw[h1]at O;simp only[ak3]at O;subst O;have W:Rel F own w s1 v:=by
  grind [ow]
 exact my (JP h2 W)
theorem Sh{h:List Ob}(hp:Hp F own w h)(ht:jn P t=some ti){s:SV}{vx:Value}(hr:Rel F own w s v)(hrx:Rel F own w sx vx){r:OR}
  (E:rf ti.size h s (ph sx)=r) (V:r≠ .bad):
  ∃ ups,r=.eff True True ups .any/\∃ w',(Instr.storeAt t v vx).run P w=.ok () w'/\Step F own w (bf h ups) own w':=by
 cases hf:ph sx with
 |none=>rw[hf]at E;cases s <;>exact absurd E.symm V
 |some xs=>
 rw[hf]at E;cases hr with
 |ptr h1 h2=>
  rename_i id off b hd;simp only[rf]at E;cases hb:Nat.beq (sz xs) ti.size with
  |false=>grind
  |true=>
  rw[hb]at E;simp only[cond_true]at E;cases ho:ap h id with
  |cells l=>
   rw[ho]at E;simp only[On]at E;cases hc:Nat.ble (off+sz xs) (sz l)&&vg xs with
   |false=>grind
   |true=>
   rw[hc]at E;simp only[cond_true]at E;subst E;simp only[akZ,qF]at hc hb;have hsz:=ak0 hb;have W:=nbl hc.1;obtain⟨hd',e0,b',cs,ty,e1,e2,e3,e4,e5⟩:=hp.at ho rfl;rw[h1]at e0;cases e0;rw[h2]at e1;cases e1;obtain⟨X,w',q1,O,q3,q4,q5⟩:=xN (P:=P) ht hrx hf hsz (λj s hj v hv=>Ud (CK hc.2 j s hj) hv) (off:=off) e3 (by omega);refine⟨_,rfl,w',q1,pu hp h1 (by simp[e2]) O.size O.other O.os O.tape O.output _ λg=>⟨b,X,ty,h2,e2,O.here,by rw[q3,e4,nF],λj s hj=>?_⟩⟩;rw[ov _ _ _ W]at hj;by_cases hjr:off<=j/\j<off+xs.length
   rw[if_pos hjr]at hj;obtain⟨u,k1,k2⟩:=q4 j hjr.1 hjr.2;have:=(k2 s hj).mono g;simp_all;rw[if_neg hjr]at hj;have:=(e5 j s hj).mono g;simp_all
  |_=>rw[ho]at E;exact absurd E.symm V
 |rp h1 h2 h3=>
  rename_i Y id off n cap b o i hd;simp only[rf]at E;cases hb:Nat.beq (sz xs) ti.size with
  |false=>grind
  |true=>
  rw[hb]at E;simp only[cond_true]at E;cases ho:ap h id with
  |row k l=>
   rw[ho]at E;simp only[Oo]at E;cases hc:Nat.beq Y (aa k)&&Nat.ble (off+sz xs) Y with
   |false=>grind
   |true=>
   rw[hc]at E;simp only[cond_true]at E;simp only[akZ,qF]at hc hb;have hsz:=ak0 hb;have hszt:=ak0 hc.1;have W:=nbl hc.2;subst hszt;cases hx:oq k (gN (cellsOf k (l.getD i.toNat (eG k))) off xs)with
   |none=>rw[hx]at E;exact absurd E.symm V
   |some x=>
   rw[hx]at E;simp only[Om]at E;subst E;obtain⟨hd',e0,e⟩:=hp.at ho rfl;rw[h1]at e0;cases e0;rcases e with⟨a,e1,_⟩ | ⟨b',o',cap',cs,ty,e1,e2,e3,e4,e5,e6,e7⟩;grind
   have e1':=e1;rw[h2]at e1;simp only[al6,ak3,ams]at e1;obtain⟨⟨rfl,rfl,_⟩,rfl,rfl⟩:=e1;obtain⟨X,w',q1,O,q3,q4,q5⟩:=xN (P:=P) ht hrx hf hsz (λj s hj v hv=>Iv (l':=[]) hx (bK _ _) W j s hj v hv) e3 (QG e4 e5 h3 W);refine⟨_,rfl,w',q1,pu hp h1 (by simp[e2]) O.size O.other O.os O.tape O.output _ λg=>.inr ⟨b,o,cap,X,ty,by grind,e2,O.here,by omega,by grind,by grind,e7.put g h3 hx W q4 q5⟩⟩
  |_=>rw[ho]at E;exact absurd E.symm V
 |gp h1 h2 h3=>
  rename_i Y id off n cap b o i j hd;simp only[rf]at E;cases hb:Nat.beq (sz xs) ti.size with
  |false=>grind
  |true=>
  rw[hb]at E;simp only[cond_true]at E;cases ho:ap h id with
  |aoV k l=>
   rw[ho]at E;simp only[Oq]at E;cases hc:Nat.beq Y (aa k)&&Nat.ble (off+sz xs) Y with
   |false=>grind
   |true=>
   rw[hc]at E;simp only[cond_true]at E;simp only[akZ,qF]at hc hb;have hsz:=ak0 hb;have hszt:=ak0 hc.1;have W:=nbl hc.2;subst hszt;cases hx:oq k (gN (cellsOf k ((l.getD i.toNat []).getD j.toNat (eG k))) off xs)with
   |none=>rw[hx]at E;exact absurd E.symm V
   |some x=>
   rw[hx]at E;simp only[Jz]at E;subst E;obtain⟨hd',e0,e⟩:=hp.at ho rfl;rw[h1]at e0;cases e0;rcases e with⟨_,_,e1,_⟩ | ⟨b',o',cap',cs,ty,bs,e1,e2,e3,e4,e5,e6,e7,e8,e9⟩;grind
   obtain⟨b1,k1,k2,k3,k4⟩:=e9.get h2;have hrow:∀ b1,aoO F own w k (l.getD i.toNat []) (.slice (some ⟨b,o,none⟩) n cap) b1->∃ cs ty,b1=[b]/\n=(l.getD i.toNat []).length/\w.heap[b]? =some (.cells cs ty (0,0))/\o+cap*aa k<=cs.size/\(l.getD i.toNat []).length<=cap/\(l.getD i.toNat []).length<=aN/\ao1 F own w k (l.getD i.toNat []) o cs:=by
    rintro b1 (⟨a,m1,_⟩ | ⟨b2,o2,cap2,cs2,ty2,m1,m2,m3,m4,m5,m6,m7⟩) <;>grind
   obtain⟨cs2,ty2,m1,rfl,m3,m4,m5,m6,m7⟩:=hrow b1 k3;obtain⟨X,w',q1,O,q3,q4,q5⟩:=xN (P:=P) ht hrx hf hsz (λj s hj v hv=>Iv (l':=[]) hx (bK _ _) W j s hj v hv) m3 (QG m4 m5 h3 W);have hbb:b∈hd.bs:=by grind
   have V:b'≠b:=λe=>by
    grind
   refine⟨_,rfl,w',q1,pu hp h1 hbb O.size O.other O.os O.tape O.output _ λg=>.inr ⟨b',o',cap',cs,ty,bs,by grind,e2,e3,by rw[O.other b' V];exact e4,by omega,by grind,by grind,e8,?_⟩⟩;rw[e2,alH]at e3;refine e9.put g O.other e3.2 h2 (λb1 hb1=>?_) λb1 hb1=>?_;grind
   obtain⟨cs3,ty3,rfl,_,n3,n4,n5,n6,n7⟩:=hrow b1 hb1;rw[m3]at n3;cases n3;exact .inr ⟨b,o,cap,X,ty2,by simp,rfl,O.here,by omega,by grind,by grind,m7.put g h3 hx W q4 q5⟩
  |_=>rw[ho]at E;exact absurd E.symm V
 |_=>simp only[rf]at E;exact absurd E.symm V
theorem vt(E:cC (P.underlying t)≠0){xs:Array Value}(hn:n<xs.size):(part t xs n).run P w=.ok (xs.getD n undef) w:=by
 have:(isAgg t).run P w=.ok false w:=by
  unfold isAgg;cases hd:P.underlying t with
  |none=>grind [cC]|some d=>rw[hd]at E;cases d <;>simp[cC]at E <;>simp[run_underlying hd]
 simp_all [part]
theorem OM{Y:SV}{X vy:Value}(W:Rel F own w sx X)(hy:Rel F own w Y vy){b:Bool}(h:eqV (cC (P.underlying t)) sx Y=some b)(d:Nat):(Op.equalIn (d+1) t X vy).run P w=.ok b w:=by
 unfold eqV at h;split at h
 rename_i k a k' c;have ex:=cT W;have O:=cT hy;subst ex;subst O;cases E:Nat.beq (cC (P.underlying t)) 1&&Nat.beq (kN k) (kN k')with
 |false=>grind
 |true=>
  rw[E]at h;simp only[cond_true,ak3]at h;subst h;simp only[akZ]at E;have hk:=OC E.2;subst hk;have hc:=ak0 E.1;cases hd:P.underlying t with
  |none=>grind [cC]
  |some V=>
   rw[hd]at hc;cases V <;>simp[cC]at hc;simp[Op.equalIn,run_underlying hd]
 rename_i a c;have ex:=cT W;have O:=cT hy;subst ex;subst O;cases E:Nat.beq (cC (P.underlying t)) 2 with
 |false=>grind
 |true=>
  rw[E]at h;simp only[cond_true,ak3]at h;subst h;have hc:=ak0 E;cases hd:P.underlying t with
  |none=>grind [cC]
  |some V=>
   rw[hd]at hc;cases V <;>simp[cC]at hc;simp[Op.equalIn,run_underlying hd]
 rename_i a c;have ex:=cT W;have O:=cT hy;subst ex;subst O;cases E:Nat.beq (cC (P.underlying t)) 3 with
 |false=>grind
 |true=>
  rw[E]at h;simp only[cond_true,ak3]at h;subst h;have hc:=ak0 E;cases hd:P.underlying t with
  |none=>grind [cC]
  |some V=>
   rw[hd]at hc;cases V <;>simp[cC]at hc;simp[Op.equalIn,run_underlying hd]
 cases h
theorem wU {d:Nat}:∀ (fs:List Field) (n:Nat) (O E:List SV) (xs V:Array Value) (b:Bool),eqFields P n fs=true->eqL (fs.map λf=>cC (P.underlying f.type)) O E=some b->n+O.length<=xs.size->n+E.length<=V.size->
  (∀ (j:Nat) (s:SV),O[j]? =some s->Rel F own w s (xs.getD (n+j) undef))->(∀ (j:Nat) (s:SV),E[j]? =some s->Rel F own w s (V.getD (n+j) undef))->
  (Op.eqFields (d+1) xs V fs).run P w=.ok b w
 | [],n,O,E,xs,V,b,_,h,_,_,_,_=>by
  cases O <;>cases E <;>simp[eqL]at h;simp_all [Op.eqFields]
 |f::fs,n,O,E,xs,V,b,Y,h,h1,h2,h3,h4=>by
  simp only[eqFields,akZ]at Y;obtain⟨⟨⟨q1,q2⟩,q3⟩,q4⟩:=Y;have hn:f.name≠ "_":=by grind
  have ho:f.offset=n:=ak0 q2;have hc:cC (P.underlying f.type)≠0:=by simp_all <;>grind
  cases O with
  |nil=>simp[eqL]at h
  |cons x O=>
   cases E with
   |nil=>simp[eqL]at h
   |cons y E=>
    simp only[alt,eqL]at h;cases hv:eqV (cC (P.underlying f.type)) x y with
    |none=>grind [y4]
    |some b1=>
     cases W:eqL (fs.map λf=>cC (P.underlying f.type)) O E with
     |none=>grind [y4]
     |some b2=>
      rw[hv,W]at h;simp only[y4,ak3]at h;subst h;simp only[ak5]at h1 h2;have e1:=vt (P:=P) (w:=w) hc (xs:=xs) (n:=n) (by omega);have e2:=vt (P:=P) (w:=w) hc (xs:=V) (n:=n) (by omega);have X:=OM (P:=P) (h3 0 x rfl) (h4 0 y rfl) hv d;simp only[al_]at X;simp only[Op.eqFields,if_pos hn,ho,alv,e1,e2,alh,X];cases b1 with
      |false=>simp
      |true=>
       have ih:=wU (d:=d) fs (n+1) O E xs V b2 q4 W (by omega) (by omega) (λj s hj=>by have:=h3 (j+1) s (by grind);grind) (λj s hj=>by have:=h4 (j+1) s (by grind);grind);grind
variable {X W:List SV}{E:Array Value}
theorem L9{fs:Array Field}(hd:P.underlying t=some (.struct fs)){xs:Array Value}(hx:aoX F own w X xs)(hy:aoX F own w W E){b:Bool}
  (hc:nP P t (.struct fs)≠[]) (h:eqL (nP P t (.struct fs)) X W=some b):(Op.equal t (.agg xs) (.agg E)).run P w=.ok b w/\P.eqGuardType P.depth t=false:=by
 simp only[nP]at hc h;cases O:!P.stoodInHeld t&& !P.eqGuardType P.depth t&&eqFields P 0 fs.toList with
 |false=>grind
 |true=>
  rw[O]at h;simp only[cond_true]at h;simp only[akZ,alm]at O;obtain⟨⟨q1,q2⟩,q3⟩:=O;refine⟨?_,q2⟩;have V:P.fieldsOf t=fs:=by simp[Program.fieldsOf,hd]
  unfold Op.equal Op.maxDepth;rw[run_equalIn_struct w 9999 t xs E (by grind) q1,V];exact wU (P:=P) (d:=9998) fs.toList 0 X W xs E b q3 h (by rw[hx.1];omega) (by rw[hy.1];omega) (λj s Y=>by simpa using hx.2 j s Y) (λj s Y=>by simpa using hy.2 j s Y)
theorem QH:∀ {E bs:List Nat} {l m:List SV} {b:Bool},eqL (E++bs) l m=some b->∃ O V,eqL E (l.take E.length) (m.take E.length)=some O/\eqL bs (l.drop E.length) (m.drop E.length)=some V/\b=(O&&V)/\E.length<=l.length/\E.length<=m.length
 | [],bs,l,m,b,h=>⟨true,b,by simp[eqL],by simpa using h,by simp,by simp,by simp⟩
 |c::E,bs,[],m,b,h=>by simp[eqL]at h
 |c::E,bs,x::l,[],b,h=>by simp[eqL]at h
 |c::E,bs,x::l,y::m,b,h=>by
  simp only[alr,eqL]at h;cases X:eqV c x y with
  |none=>grind [y4]
  |some b0=>
   cases W:eqL (E++bs) l m with
   |none=>grind [y4]
   |some b3=>
    rw[X,W]at h;simp only[y4,ak3]at h;obtain⟨O,V,Y,e2,e3,e4,e5⟩:=QH W;grind [eqL,y4]
theorem Ue{lx ly:List SV}{xs ys:Array Value}{b:Bool}(h:eqL (qB P t) lx ly=some b)(hp:0< (qB P t).length)(V:lx.length=(qB P t).length)(W:ly.length=(qB P t).length)(h1:n+lx.length<=xs.size)(h2:n+ly.length<=ys.size)
  (h3:∀ (j:Nat) (s:SV),lx[j]? =some s->Rel F own w s (xs.getD (n+j) undef)) (h4:∀ (j:Nat) (s:SV),ly[j]? =some s->Rel F own w s (ys.getD (n+j) undef)) (d:Nat):
  ∃ vx vy,(part t xs n).run P w=.ok vx w/\(part t ys n).run P w=.ok vy w/\(Op.equalIn (d+2) t vx vy).run P w=.ok b w:=by
 by_cases hst:∃ E,P.underlying t=some (.struct E)
 obtain⟨E,hd⟩:=hst;have e:qB P t=bif !P.stoodInHeld t&&eqFields P 0 E.toList&&Nat.beq (nX P t) E.size&&(P.info? t).isSome then E.toList.map λf=>cC (P.underlying f.type)else []:=by grind [qB]
 cases hb:!P.stoodInHeld t&&eqFields P 0 E.toList&&Nat.beq (nX P t) E.size&&(P.info? t).isSome with
 |false=>grind
 |true=>
  rw[hb]at e;simp only[cond_true]at e;simp only[akZ,alm]at hb;obtain⟨⟨⟨q1,q2⟩,q3⟩,q4⟩:=hb;have hsz:=ak0 q3;obtain⟨i,hi⟩:=am1.1 q4;have hszi:i.size=E.size:=by grind [nX]
  have hlen:(qB P t).length=E.size:=by rw[e];simp
  have O:∀ Y:Array Value,(part t Y n).run P w=.ok (.agg (Y.extract n (n+i.size))) w:=λY=>by
   simp_all [part,xL,kl,dQ]
  have X:∀ (Y:Array Value) (l:List SV),l.length=E.size->n+l.length<=Y.size->(∀ (j:Nat) (s:SV),l[j]? =some s->Rel F own w s (Y.getD (n+j) undef))->∀ (j:Nat) (s:SV),l[j]? =some s->Rel F own w s ((Y.extract n (n+i.size)).getD (0+j) undef):=λY l hl hz hr j s hj=>by
   grind [tN]
  refine⟨_,_,O xs,O ys,?_⟩;have hfo:P.fieldsOf t=E:=by simp[Program.fieldsOf,hd]
  rw[run_equalIn_struct w (d+1) t _ _ (by grind) q1,hfo];rw[e]at h;rw[hlen]at V W;exact wU (P:=P) (d:=d) E.toList 0 lx ly _ _ b q2 h (by simp;omega) (by simp;omega) (X xs lx V h1 h3) (X ys ly W h2 h4)
 have e:qB P t=bif Nat.blt 0 (cC (P.underlying t))then [cC (P.underlying t)]else []:=by
  grind [qB]
 cases hb:Nat.blt 0 (cC (P.underlying t))with
 |false=>grind
 |true=>
  rw[hb]at e;simp only[cond_true]at e;have hc:cC (P.underlying t)≠0:=by simp_all <;>grind
  rw[e]at h V W;match lx,ly,V,W with
  | [x],[y],_,_=>
   simp only[eqL]at h;cases hv:eqV (cC (P.underlying t)) x y with
   |none=>grind [y4]
   |some b1=>
    rw[hv]at h;simp only[y4,ak3,anB]at h;subst h;simp only[ak5,alo]at h1 h2;have e3:=OM (P:=P) (h3 0 x rfl) (h4 0 y rfl) hv (d+1);simp only[al_]at e3;grind [vt]
theorem z7 {d:Nat}:∀ (fs:List Field) (n:Nat) (O E:List SV) (xs V:Array Value) (b:Bool),um P n fs=true->eqL (fs.flatMap λf=>qB P f.type) O E=some b->n+O.length<=xs.size->n+E.length<=V.size->
  (∀ (j:Nat) (s:SV),O[j]? =some s->Rel F own w s (xs.getD (n+j) undef))->(∀ (j:Nat) (s:SV),E[j]? =some s->Rel F own w s (V.getD (n+j) undef))->
  (Op.eqFields (d+2) xs V fs).run P w=.ok b w
 | [],n,O,E,xs,V,b,_,h,_,_,_,_=>by
  cases O <;>cases E <;>simp[eqL]at h;simp_all [Op.eqFields]
 |f::fs,n,O,E,xs,V,b,X,h,h1,h2,h3,h4=>by
  simp only[um,akZ]at X;obtain⟨⟨⟨q1,q2⟩,q3⟩,q4⟩:=X;have hn:f.name≠ "_":=by grind
  have ho:f.offset=n:=ak0 q2;have hc:0< (qB P f.type).length:=nbl q3;simp only[alp]at h;obtain⟨b1,b2,Y,e2,e3,e4,e5⟩:=QH h;subst e3;obtain⟨vx,vy,p1,p2,p3⟩:=Ue (P:=P) (n:=n) Y hc (by simp;omega) (by simp;omega) (by simp;omega) (by simp;omega) (λj s W=>h3 j s (by grind)) (λj s W=>h4 j s (by grind)) d;simp only[Op.eqFields,if_pos hn,ho,alv,p1,p2,alh,p3];cases b1 with
  |false=>simp
  |true=>
   have ih:=z7 (d:=d) fs (n+(qB P f.type).length) (O.drop (qB P f.type).length) (E.drop (qB P f.type).length) xs V b2 q4 e2 (by simp;omega) (by simp;omega) (λj s W=>by grind) (λj s W=>by grind);grind
theorem Si{d:TypeDesc}(hd:P.underlying t=some d){xs:Array Value}(hx:aoX F own w X xs)(hy:aoX F own w W E){b:Bool}
  (hc:Jv P t d≠[]) (h:eqL (Jv P t d) X W=some b):(Op.equal t (.agg xs) (.agg E)).run P w=.ok b w/\P.eqGuardType P.depth t=false:=by
 cases d with
 |struct fs=>
  simp only[Jv]at hc h;cases O:!P.stoodInHeld t&& !P.eqGuardType P.depth t&&um P 0 fs.toList with
  |false=>grind
  |true=>
   rw[O]at h;simp only[cond_true]at h;simp only[akZ,alm]at O;obtain⟨⟨q1,q2⟩,q3⟩:=O;refine⟨?_,q2⟩;have V:P.fieldsOf t=fs:=by simp[Program.fieldsOf,hd]
   unfold Op.equal Op.maxDepth;rw[run_equalIn_struct w 9999 t xs E (by grind) q1,V];exact z7 (P:=P) (d:=9997) fs.toList 0 X W xs E b q3 h (by rw[hx.1];omega) (by rw[hy.1];omega) (λj s Y=>by simpa using hx.2 j s Y) (λj s Y=>by simpa using hy.2 j s Y)
 |_=>exact absurd rfl hc
end
section
variable {P:Program}{F:Nat->Prop}{own:Own}{w:World}
def Own.move (own:Own)(K:List Nat)(nx:Nat)(hd:Hd):Own:=λj=>if j=nx then some hd else if j∈K then(own j).map (λhd=>{ hd with bs:=[]})else own j
theorem ke (nx:Nat)(E:Ob):∀ (K:List Nat) (h:List Ob) (j:Nat),nx ∉ K->(∀ id∈K,id<h.length)->
  ap (bf h (K.map (λid=>(id,Ob.dead))++[(nx,E)])) j=(if j=nx then E else if j∈K then .dead else ap h j)/\h.length<=(bf h (K.map (λid=>(id,Ob.dead))++[(nx,E)])).length/\nx< (bf h (K.map (λid=>(id,Ob.dead))++[(nx,E)])).length
 | [],h,j,_,_=>by
  simp only[alM,ak_,bf,alV,if_false];refine⟨by simp_all [dG,eq_comm],?_,?_⟩ <;>rw[cI] <;>split <;>omega
 |id::K,h,j,hn,Y=>by
  simp only[ala,not_or]at hn;have O:=Y id (by simp);have V:(cL h id Ob.dead).length=h.length:=by rw[cI,if_pos O]
  obtain⟨W,q2,X⟩:=ke nx E K (cL h id .dead) j hn.2 (λi hi=>by grind);simp only[alt,alr,bf];refine⟨?_,by omega,X⟩;rw[W,dG];grind
variable {h:List Ob}
theorem kO(hp:Hp F own w h){nx:Nat}(hn:apB own h nx){w':World}(K:List Nat)(hK:∀ id∈K,∃ hd,own id=some hd)(hd':Hd)(ob:Ob)
  (hbs:∀ b∈hd'.bs,(∃ id∈K,∃ hd,own id=some hd/\b∈hd.bs)\/(w.heap.size<=b/\b<w'.heap.size))
  (hold:∀ b,b<w.heap.size->(¬ ∃ id∈K,∃ hd,own id=some hd/\b∈hd.bs)->w'.heap[b]? =w.heap[b]?) (hsz:w.heap.size<=w'.heap.size) (q2:w'.os=w.os) (q3:w'.tape=w.tape) (q4:w'.output=w.output)
  (hob:∀ ee,ao_ F own w ee w'->ao5 F ee w' hd' ob) (hnd:dL ob=false:=by rfl):Step F own w (bf h (K.map (λid=>(id,Ob.dead))++[(nx,ob)])) (own.move K nx hd') w':=by
 have hnK:nx ∉ K:=λE=>by obtain⟨hd,e⟩:=hK nx E;rw[hn.none]at e;cases e
 have Y:∀ id∈K,id<h.length:=λid E=>by obtain⟨hd,e⟩:=hK id E;exact hp.dom _ _ e
 have fr:Fr { w:=w,own:=own} (own.move K nx hd') w':=by
  refine Fr.apr (λid hd h1=>?_) (λid hd b h1 h2=>?_) (λb hb hnb=>hold b hb λ⟨id,_,hd,e1,e2⟩ =>hnb ⟨id,hd,e1,e2⟩) hsz q2 q3 q4;have W:id≠nx:=λe=>by rw[e,hn.none]at h1;cases h1
  simp only[Own.move,if_neg W];by_cases E:id∈K
  exact⟨{ hd with bs:=[]},by simp[E,h1],rfl,rfl,rfl⟩;exact⟨hd,by simp[E,h1],.refl _⟩;grind [Own.move]
 refine⟨hp.upd fr.apg (λid=>id=nx\/id∈K) (ke nx ob K h 0 hnK Y).2.1 (λid O=>?_) (λid hd O h1=>?_) (λid O hd=>?_),fr,λid h1 h2=>?_⟩
 rotate_left 3
 grind [ke,Own.move]
 simp only[not_or]at O;refine⟨by grind [Own.move],by simp_all [ke],λhd b h1 h2=>hold b (hp.lt id hd b h1 h2) ?_⟩;rintro⟨X,E,V,e1,e2⟩;exact O.2 (hp.inj id X hd V b h1 e1 h2 e2▸E);simp only[Own.move]at h1;by_cases e:id=nx
 subst e;rw[if_pos rfl]at h1;cases h1;refine⟨(ke _ ob K h 0 hnK Y).2.2,λb hb=>?_⟩;rcases hbs b hb with⟨X,E,V,e1,e2⟩ |h3;refine⟨ale (hp.lt X V b e1 e2) hsz,hp.apart X V b e1 e2,λj hj W h4 h5=>?_⟩;simp only[Own.move,if_neg W]at h4;by_cases hm2:j∈K
 grind
 rw[if_neg hm2]at h4;exact hm2 (hp.inj j X hj V b h4 e1 h5 e2▸E);refine⟨h3.2,λhf=>by have:=hp.aoB b hf;omega,λj hj W h4 h5=>?_⟩;simp only[Own.move,if_neg W]at h4;by_cases hm2:j∈K
 grind
 rw[if_neg hm2]at h4;have:=hp.lt j hj b h4 h5;omega;rw[if_neg e]at h1;have E:id∈K:=O.resolve_left e;rw[if_pos E]at h1;cases ho:own id with
 |none=>grind
 |some V=>
  rw[ho]at h1;simp at h1;subst h1;exact⟨ale (Y id E) (ke nx ob K h 0 hnK Y).2.1,λb hb=>by simp at hb⟩
 rw[(ke nx ob K h id hnK Y).1]at hd |-;by_cases e:id=nx
 subst e;rw[if_pos rfl]at hd |-;exact⟨hd',by simp[Own.move],hob _ fr.apg⟩;rw[if_neg e]at hd;have E:id∈K:=O.resolve_left e;rw[if_pos E]at hd;cases hd
structure Src (P:Program)(F:Nat->Prop)(own:Own)(w:World)(k:Tag)(m:List k.T)(v:Value)(news:List Value):Prop where
 len:∃ a cap,v=.slice a m.length cap
 cells:∀ (w1:World),w1.heap=w.heap->(Builtin.firstCells (aa k) m.length v).run P w1=.ok news.toArray w1
 size:news.length=m.length*aa k
 rel:∀ (i:Nat) (x:k.T),m[i]? =some x->∀ (j:Nat) (s:SV),(cellsOf k x)[j]? =some s->∃ u,news[i*aa k+j]? =some u/\Rel F own w s u
variable {n:Nat}
theorem L_{size p:Nat}(h:p<n*size):p / size<n/\p % size<size/\p / size*size+p % size=p:=by
 have E:0<size:=by
  grind
 refine⟨(Nat.div_lt_iff_lt_mul E).2 h,am5 _ E,?_⟩;grind [Nat.div_add_mod]
variable {k:Tag}{m:List k.T}{v:Value}
theorem Src.one{news:List Value}(h:Src P F own w k m v news):∀ u∈news,u.oneCell'=true:=by
 intro u W;obtain⟨p,O⟩:=alS W;have hlt:=(ak4.1 O).1;rw[h.size]at hlt;obtain⟨h1,h2,X⟩:=L_ hlt;have hc:p % aa k< (cellsOf k (m.getD (p / aa k) (eG k))).length:=by grind [bK]
 obtain⟨Y,E,V⟩:=h.rel _ _ (sB h1) _ _ (alb hc);rw[X,O]at E;simp only[ak3]at E;subst E;exact my (JP (alb hc) V)
theorem ON{l:List k.T}{b o cap:Nat}(hc:∀ (i:Nat) (x:k.T),l[i]? =some x->∀ (j:Nat) (s:SV),(cellsOf k x)[j]? =some s->∃ u,w.cell? ⟨b,o+i*aa k+j,none⟩=some u/\Rel F own w s u):
  ∃ news,Src P F own w k l (.slice (some ⟨b,o,none⟩) l.length cap) news:=by
 have key:∀ p,p<l.length*aa k->w.cell? ⟨b,o+p,none⟩=some ((w.cell? ⟨b,o+p,none⟩).getD undef):=by
  intro p W;obtain⟨h1,h2,h3⟩:=L_ W;have hl:p % aa k< (cellsOf k (l.getD (p / aa k) (eG k))).length:=by grind [bK]
  obtain⟨u,V,_⟩:=hc _ _ (sB h1) _ _ (alb hl);grind
 refine⟨(List.range (l.length*aa k)).map λp=>(w.cell? ⟨b,o+p,none⟩).getD undef,⟨_,_,rfl⟩,λw1 Y=>?_,by simp,λi x hi j s O=>?_⟩;refine run_firstCells_some w1 _ _ _ _ _ _ (by simp) λj v O=>?_;grind [nG,ut]
 obtain⟨u,V,e2⟩:=hc i x hi j s O;have E:=(ak4.1 hi).1;have X:j<aa k:=by grind [bK]
 have hlt:i*aa k+j<l.length*aa k:=by
  have:(i+1)*aa k<=l.length*aa k:=alg _ E;grind
 refine⟨u,?_,e2⟩;rw[al1,List.getElem?_range hlt];grind
theorem z8{a:Option Addr}{cap:Nat}:Src P F own w k [] (.slice a 0 cap) []:=
 ⟨⟨_,_,rfl⟩,λw1 _=>by cases a <;>simp[Builtin.firstCells,loadCells,loadCellsFrom],by simp,λi x h=>by simp at h⟩
theorem sC{k':Tag}{l:List k'.T}(h:zT k k' l=some m):∃ e:k'=k,m=e▸l:=by
 grind [zT]
theorem JU{l:List k.T}{bs:List Nat}(h:aoO F own w k l v bs):∃ news,Src P F own w k l v news:=by
 rcases h with⟨a,rfl,rfl,_⟩ | ⟨b,o,cap,cs,ty,rfl,h2,h3,Y,h5,W,E⟩;exact⟨[],z8⟩;exact ON λi x hi j s O=>by
  obtain⟨u,V,X⟩:=E i x hi j s O;grind [eJ]
theorem yJ {α:Type}{l:List α}{a b i:Nat}{x:α}(h:((l.take b).drop a)[i]? =some x):l[a+i]? =some x/\a+i<b:=by
 grind
variable {l:List k.T}
theorem Uf{x:Value}{bs:List Nat}(h:aoO F own w k l x bs){sz cap:Nat}{lo hi:Int}{a:Option Addr}(h2:aaS x sz lo hi a)(hz:sz=aa k):
  ∃ news,Src P F own w k ((l.take hi.toNat).drop lo.toNat) (.slice a (hi.toNat - lo.toNat) cap) news:=by
 have nil:hi.toNat<=lo.toNat->∃ news,Src P F own w k ((l.take hi.toNat).drop lo.toNat) (.slice a (hi.toNat - lo.toNat) cap) news:=λY=>by
  have e:(l.take hi.toNat).drop lo.toNat=[]:=anQ (by simp;omega);rw[e,show hi.toNat - lo.toNat=0 by omega];exact⟨[],z8⟩
 rcases h2 with h2| ⟨b,o,n,c,rfl,h3,rfl⟩;exact nil h2;rcases h with⟨a,e,rfl,_⟩ | ⟨b',o',V,cs,ty,e,q2,q3,q4,q5,q6,X⟩;grind
 cases e;have E:((l.take hi.toNat).drop lo.toNat).length=hi.toNat - lo.toNat:=by simp;omega
 rw[<-E];exact ON λi x O j s hj=>by
  obtain⟨W,_⟩:=yJ O;obtain⟨u,g1,g2⟩:=X _ x W j s hj;grind [eJ]
theorem JV(Y:Hp F own w h){s:SV}(hr:Rel F own w s v)(E:ur k h s=some m):∃ news,Src P F own w k m v news:=by
 cases hr with
 |rs c h0 h0' h1 h2=>
  obtain⟨e,rfl⟩:=sC E;subst e;exact ON λi x hi j s hj=>⟨_,(h1 i x hi j s hj).2,h2 i x hi j s hj⟩
 |rs0=>
  obtain⟨e,rfl⟩:=sC E;subst e;exact⟨[],z8⟩
 |e0=>simp[ur]at E;subst E;exact⟨[],z8⟩
 |v x=>
  unfold ur at E;split at E
  grind
  rename_i W;cases W;simp at E;subst E;exact⟨[],z8⟩;grind
  grind
  grind
  cases E
 |os h1 h2=>
  rename_i id hd;simp only[ur]at E;cases O:ap h id with
  |row k' l=>
   rw[O]at E;simp only[TQ]at E;obtain⟨e,rfl⟩:=sC E;subst e;obtain⟨hd',e0,V⟩:=Y.at O rfl;rw[h1]at e0;cases e0;exact JU V
  |_=>rw[O]at E;cases E
 |vw h1 h2 X=>
  rename_i sz id cap lo hi hd a;simp only[ur]at E;cases O:ap h id with
  |row k' l=>
   rw[O]at E;simp only[aaI]at E;cases hb:Nat.beq sz (aa k')with
   |false=>grind
   |true=>
    rw[hb]at E;simp only[cond_true]at E;obtain⟨e,rfl⟩:=sC E;subst e;obtain⟨hd',e0,V⟩:=Y.at O rfl;rw[h1]at e0;cases e0;exact Uf V h2 (ak0 hb)
  |_=>rw[O]at E;cases E
 |_=>simp[ur]at E
theorem rj (z:Array Value)(n:Nat):(Builtin.zeroCells z n).size=n*z.size:=by simp[Builtin.zeroCells]
variable {t t2 ty e e2:TypeId}{z:Value}{a0:Option Addr}{m:Nat}
theorem tO{i:TypeInfo}(ht:P.underlying t=some (.slice e))(Y:P.underlying t2=some (.slice e2))(hi:P.info? e=some i)(hz:i.zero=some z){cap:Nat}{olds:List Value}
  (O:∀ w1:World,w1.heap=w.heap->(Builtin.firstCells i.size n (.slice a0 n cap)).run P w1=.ok olds.toArray w1)   {news:List Value} (hv:∃ a c,v=.slice a m c) (E:∀ w1:World,w1.heap=w.heap->(Builtin.firstCells i.size m v).run P w1=.ok news.toArray w1)
  (hg:cap<n+m) (h63:n+m<=9223372036854775807) (V:(n+m)*i.bytes<=d8):
  (Builtin.append_ #[t,t2] ty #[.slice a0 n cap,v]).run P w=.ok (.slice (some ⟨w.heap.size,0,none⟩) (n+m) (grownCap w (n+m) cap e)) (w.drew.alloc (.cells (olds.toArray++news.toArray++Builtin.zeroCells z.cells (grownCap w (n+m) cap e - (n+m))) e)):=by
 obtain⟨a,c,rfl⟩:=hv;have hn:¬ (n+m<=cap):=by omega
 have W:¬ (9223372036854775807< ((n:Int)+(m:Int))):=by omega
 have X:¬ (281474976710656<Builtin.nextslicecap (n+m) cap*i.bytes):=by have:=growslice_fits hg V;omega
 have h1:=O w.drew rfl;have h2:=E w.drew rfl;simp[Builtin.append_,run_underlying ht,run_underlying Y,sizeOf,typeInfo,zeroValue,hi,hz,Builtin.lenOf,hn,W,X,Question.forced,h1,h2,newRow,grownCap];grind
theorem wV{X:TypeId}{i:TypeInfo}(W:P.underlying t=some (.slice e))(O:P.underlying t2=some (.slice X))(hi:P.info? e=some i){b o cap:Nat}{news:List Value}(hv:∃ a c,v=.slice a m c)(E:(Builtin.firstCells i.size m v).run P w=.ok news.toArray w)
  (Y:n+m<=cap) {w':World} (V:(storeCells ⟨b,o+n*i.size,none⟩ news 0).run P w=.ok () w'):
  (Builtin.append_ #[t,t2] ty #[.slice (some ⟨b,o,none⟩) n cap,v]).run P w=.ok (.slice (some ⟨b,o,none⟩) (n+m) cap) w':=by
 obtain⟨a,c,rfl⟩:=hv;simp[Builtin.append_,run_underlying W,run_underlying O,sizeOf,typeInfo,hi,Builtin.lenOf,Y,E,nG,V]
theorem CL{W:TypeId}{i:TypeInfo}(V:P.underlying t=some (.slice e))(O:P.underlying t2=some (.slice W))(hi:P.info? e=some i){cap:Nat}(X:∃ a c,v=.slice a 0 c)(E:(Builtin.firstCells i.size 0 v).run P w=.ok #[] w):
  (Builtin.append_ #[t,t2] ty #[.slice a0 0 cap,v]).run P w=.ok (.slice a0 0 cap) w:=by
 obtain⟨a,c,rfl⟩:=X;cases a0 <;>simp[Builtin.append_,run_underlying V,run_underlying O,sizeOf,typeInfo,hi,Builtin.lenOf,E,storeCells]
def rM (w:World)(E O:Nat)(e:TypeId):E<=grownCap w E O e:=grownCap_ge w E O e
def XV (P:Program)(F:Nat->Prop)(own:Own)(w:World)(k:Tag)(l m:List k.T)(v:Value)(bs:List Nat):Prop:=bs=[]/\m≠[]/\(∃ a,v=.slice a l.length l.length)/\∃ olds,Src P F own w k l v olds
theorem Sj(hp:Hp F own w h){nx:Nat}(hn:apB own h nx){i:TypeInfo}(ht:P.underlying t=some (.slice e))(ht2:P.underlying t2=some (.slice e2))(hi:P.info? e=some i)(hz:i.zero=some z)(hzs:z.cells.size=i.size)(hk:i.size=aa k)(hby:1<=i.bytes)
  {m:List k.T} {u:Value} {bs:List Nat} (hrow:aoO F own w k l v bs\/XV P F own w k l m v bs) {K:List Nat} (hK:∀ id∈K,∃ hd,own id=some hd) (hKb:∀ b∈bs,∃ id∈K,∃ hd,own id=some hd/\b∈hd.bs) (hKo:∀ id∈K,∀ hd,own id=some hd->∀ b∈hd.bs,b∈bs)
  {news:List Value} (Y:Src P F own w k m u news) (hfit:(l++m).length*i.bytes<=d8):
  (l++m).length<=aN/\∃ v' hd' w',(Builtin.append_ #[t,t2] ty #[v,u]).run P w=.ok v' w'/\hd'.v=v'/\pt v'=true/\Step F own w (bf h (K.map (λid=>(id,Ob.dead))++[(nx,.row k (l++m))])) (own.move K nx hd') w':=by
 have hlen:(l++m).length<=aN:=by
  have:(l++m).length<=(l++m).length*i.bytes:=amc _ hby;grind [d8,aN]
 refine⟨hlen,?_⟩;have h63:(l++m).length<=9223372036854775807:=by grind [aN]
 have O:=Y.len;rw[ak9]at hlen h63 hfit;have V:∀ (a0:Option Addr) (cap:Nat) (olds:List Value),v=.slice a0 l.length cap->cap<l.length+m.length->(∀ w1:World,w1.heap=w.heap->(Builtin.firstCells i.size l.length v).run P w1=.ok olds.toArray w1)->olds.length=l.length*aa k->
   (∀ (i:Nat) (x:k.T),l[i]? =some x->∀ (j:Nat) (s:SV),(cellsOf k x)[j]? =some s->∃ u,olds[i*aa k+j]? =some u/\Rel F own w s u)->
   ∃ v' hd' w',(Builtin.append_ #[t,t2] ty #[v,u]).run P w=.ok v' w'/\hd'.v=v'/\pt v'=true/\Step F own w (bf h (K.map (λid=>(id,Ob.dead))++[(nx,.row k (l++m))])) (own.move K nx hd') w':=by
  intro a0 cap olds hv hcap X hol apu;rw[hv]at X;have E:=tO (P:=P) (ty:=ty) ht ht2 hi hz X O (by rw[hk];exact Y.cells) hcap h63 hfit;rw[<-hv]at E;have hge:=rM w (l.length+m.length) cap e;let cs:=olds.toArray++news.toArray++Builtin.zeroCells z.cells (grownCap w (l.length+m.length) cap e - (l.length+m.length))
  have hcs:cs.size=grownCap w (l.length+m.length) cap e*aa k:=by
   simp only[cs,Array.size_append,amR,rj,hzs,hk,hol,Y.size,<-anx];grind
  refine⟨_,⟨none,_,[],[w.heap.size]⟩,_,E,rfl,rfl,kO hp hn K hK _ _ (λb hb=>?_) (λb hb _=>?_) ?_ rfl rfl rfl λee g=>?_⟩;simp_all;exact qD w.drew _ b hb;simp_all;refine .inr ⟨w.heap.size,0,grownCap w (l.length+m.length) cap e,cs,e,by simp,rfl,kC w.drew _,by omega,by grind,by grind,λq x hq j s hj=>?_⟩;have hjl:j<aa k:=by grind [bK]
  rw[ak8];rw[al2]at hq;split at hq
  rename_i hlt;obtain⟨u',e1,e2⟩:=apu q x hq j s hj;refine⟨u',?_,e2.mono g⟩;grind
  rename_i hlt;obtain⟨u',e1,e2⟩:=Y.rel (q - l.length) x hq j s hj;refine⟨u',?_,e2.mono g⟩;have hb:=(ak4.1 e1).1;have hqq:q*aa k+j=olds.length+((q - l.length)*aa k+j):=by
   rw[hol];have:q=l.length+(q - l.length):=by omega
   grind
  simp only[cs];simp_all [alq]
 rcases hrow with(⟨a,rfl,rfl,rfl⟩ | ⟨b,o,cap,cs,tyb,rfl,rfl,h3,h4,h5,h6,h7⟩) | ⟨rfl,hm,⟨a,hv⟩,olds,ho⟩
 rotate_left 2
 have:0<m.length:=alO.2 hm;exact V a l.length olds hv (by omega) (by rw[hk];exact ho.cells) ho.size ho.rel;by_cases hm:m=[]
 subst hm;have hnw:news=[]:=alk (by simpa using Y.size);subst hnw;have E:=CL (P:=P) (ty:=ty) ht ht2 hi (a0:=a) (cap:=0) O (by have:=Y.cells w rfl;rw[hk];exact this);exact⟨_,⟨none,_,[],[]⟩,w,E,rfl,rfl,kO hp hn K hK _ _ (λb hb=>by simp at hb) (λ_ _ _=>rfl) (ak2 _) rfl rfl rfl λee g=>.inl ⟨a,rfl,rfl,rfl⟩⟩;have:0<m.length:=alO.2 hm;exact V a 0 [] rfl (by simp;omega) (λw1 _=>by cases a <;>simp[Builtin.firstCells,loadCells,loadCellsFrom]) (by simp) (λi x hx=>by simp at hx);by_cases W:l.length+m.length<=cap
 have hfits:o+l.length*aa k+news.length<=cs.size:=by
  rw[Y.size];have:(l.length+m.length)*aa k<=cap*aa k:=alg _ W;grind
 obtain⟨cs',w',q1,q2,q3,q4⟩:=jW (P:=P) (b:=b) (o:=o+l.length*aa k) (ty:=tyb) news 0 w cs h3 (by omega) Y.one;have E:=wV (P:=P) (ty:=ty) ht ht2 hi (b:=b) (o:=o) (n:=l.length) (cap:=cap) O (by have:=Y.cells w rfl;rw[hk];exact this) W (w':=w') (by grind);refine⟨_,⟨none,_,[],[b]⟩,w',E,rfl,rfl,kO hp hn K hK _ _ (λb' hb'=>by grind) (λb' hb' hn'=>q2.other b' λe=>hn' (by simp_all)) (by rw[q2.size];omega) q2.os q2.tape q2.output λee g=>?_⟩;refine .inr ⟨b,o,cap,cs',tyb,by simp,rfl,q2.here,by omega,by grind,by grind,λq x hq j s hj=>?_⟩;have hjl:j<aa k:=by grind [bK]
 rw[al2]at hq;split at hq
 rename_i hlt;obtain⟨u',e1,e2⟩:=h7 q x hq j s hj;refine⟨u',?_,e2.mono g⟩;have:(q+1)*aa k<=l.length*aa k:=alg _ hlt;grind
 rename_i hlt;obtain⟨u',e1,e2⟩:=Y.rel (q - l.length) x hq j s hj;refine⟨u',?_,e2.mono g⟩;have hb:=(ak4.1 e1).1;have hqq:o+q*aa k+j=o+l.length*aa k+0+((q - l.length)*aa k+j):=by
  have:q=l.length+(q - l.length):=by omega
  grind
 simp_all;obtain⟨olds,ho⟩:=JU (P:=P) (F:=F) (own:=own) (w:=w) (k:=k) (l:=l) (v:=.slice (some ⟨b,o,none⟩) l.length cap) (bs:=[b]) (.inr ⟨b,o,cap,cs,tyb,rfl,rfl,h3,h4,h5,h6,h7⟩);exact V (some ⟨b,o,none⟩) cap olds rfl (by omega) (by rw[hk];exact ho.cells) ho.size ho.rel
end
end Go.Sx
end
