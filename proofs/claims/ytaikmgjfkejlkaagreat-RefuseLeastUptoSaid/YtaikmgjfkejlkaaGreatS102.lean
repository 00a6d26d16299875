/- Part of the proof that the law RefuseLeast returns true and leaves its arguments as they were, for all arguments of bulk at most 1048576 (the Upto form). -/
import Derived.Test.YtaikmgjfkejlkaaGreatS101
import Derived.Laws.Entries
import Derived.Laws.Tables
import Derived.Laws.StructEq
import Derived.Laws.MakeOwn
import Derived.ChangeKeysEq
set_option linter.all false
set_option maxHeartbeats 4000000
set_option maxRecDepth 100000
section
namespace Go.Sx
open Go.RowKit
def Y2 {n m:Nat}(h:Nat.ble n m=true):n<=m:=Nat.le_of_ble_eq_true h
theorem wL {k:Tag}{x:k.T}{j:Nat}{s:SV}(h:(cellsOf k x)[j]? =some s):(∃ y,s=.v y/\pj y=true)\/(∃ (k':Tag) (l:List k'.T),s=.rs k' l/\ao8 k'<ao8 k)\/(∃ (k' k2:Tag) (l:List (k'.T×k2.T)),s=.rm k' k2 l/\ao8 k'<ao8 k/\ao8 k2<ao8 k)\/∃ f,s=.fn f [] []/\ao8 k≠0:=by
 have hm:=alU h;cases k <;>simp only[cellsOf,alV,amw,or_false]at hm <;>
  (repeat' (rcases hm with hm|hm)) <;>first|exact .inl ⟨_,rfl,rfl⟩ |exact .inr (.inl ⟨_,_,rfl,by decide⟩) |exact .inr (.inr (.inl ⟨_,_,_,rfl,by decide,by decide⟩)) |(cases x <;>first|exact .inl ⟨_,rfl,rfl⟩ |exact .inr (.inr (.inr ⟨_,rfl,by decide⟩)))
section
variable {P:Program}{F:Nat->Prop}{own:Own}{w:World}
theorem cG {x v:Value}(h:Rel F own w (.v x) v):v=x:=by cases h;rfl
theorem JQ {k:Tag}{x:k.T}{j:Nat}{s:SV}{u:Value}(h:(cellsOf k x)[j]? =some s)(E:Rel F own w s u):pj u=true:=by
 rcases wL h with⟨y,rfl,hy⟩ | ⟨k',l,rfl,_⟩ | ⟨k',k2,l,rfl,_⟩ | ⟨f,rfl,_⟩;grind [cG]
 cases E <;>rfl;cases E <;>rfl;cases E <;>rfl
def apB (F:Nat->Prop)(own:Own)(w:World)(k:Tag)(l:List k.T)(o:Nat)(cs:Array Value):Prop:=
 ∀ (i:Nat) (x:k.T),l[i]? =some x->∀ (j:Nat) (s:SV),(cellsOf k x)[j]? =some s->∃ u,cs[o+i*aa k+j]? =some u/\Rel F own w s u
def apm (F:Nat->Prop)(own:Own)(w:World)(k:Tag)(l:List k.T)(v:Value)(bs:List Nat):Prop:=
 (∃ a,v=.slice a 0 0/\l=[]/\bs=[])\/
 ∃ b o cap cs ty,v=.slice (some ⟨b,o,none⟩) l.length cap/\bs=[b]/\w.heap[b]? =some (.cells cs ty (0,0))/\o+cap*aa k<=cs.size/\l.length<=cap/\l.length<=aH/\apB F own w k l o cs
def ap3 (F:Nat->Prop)(own:Own)(w:World)(kk vk:Tag)(l:List (kk.T×vk.T))(es:Array MapEntry):Prop:=
 es.size=l.length/\∀ (i:Nat) (x:kk.T×vk.T),l[i]? =some x->∃ e,es[i]? =some e/\True/\Rel F own w (svT kk x.1) e.key/\Rel F own w (svT vk x.2) e.val
def eu (kk vk:Tag)(l:List (kk.T×vk.T)):Option (Nat×Option kk.T)->List (kk.T×vk.T)
 |some (_,some x) =>if(iv l x).isSome then l else l++[(x,et vk)]|_=>l
theorem kc {kk E:Tag}{l:List (kk.T×E.T)}{p:Option (Nat×Option kk.T)}(h:noE p=true):eu kk E l p=l:=by
 cases p with
 |none=>rfl
 |some q=>obtain⟨i,q⟩:=q;cases q with
  |none=>rfl|some x=>cases h
def kA (es:Array MapEntry):List Nat:=es.toList.map (·.born)
def Stamped (es:Array MapEntry)(clock:Nat):Prop:=(kA es).Nodup/\∀ n∈kA es,n<clock
def stV (ss:List Nat)(clock:Nat):List Value:=.int .i64 clock::ss.map λn=>.int .i64 (n:Nat)
def aqn (own:Own)(kk vk:Tag)(l:List (kk.T×vk.T))(es:Array MapEntry)(clock:Nat):Option (Nat×Option kk.T)->Prop
 |none=>True|some (nx,some x) =>∃ hd2 e,own nx=some hd2/\es[un kk vk l x]? =some e/\hd2.v=.int .i64 e.born|some (nx,none) =>∃ hd2,own nx=some hd2/\hd2.vs=stV (kA es) clock
def apr (F:Nat->Prop)(own:Own)(w:World)(k:Tag):List (List k.T)->List Value->List Nat->Prop
 | [],[],bs=>bs=[]|l::ls,v::vs,bs=>∃ b1 b2,bs=b1++b2/\pj v=true/\apm F own w k l v b1/\apr F own w k ls vs b2|_,_,_=>False
def apF (F:Nat->Prop)(own:Own)(w:World)(hd:Hd):Ob->Prop
 | .cells l=>∃ b cs ty,hd.p=some b/\hd.bs=[b]/\w.heap[b]? =some (.cells cs ty (0,0))/\cs.size=l.length/\∀ (j:Nat) (s:SV),l[j]? =some s->Rel F own w s (cs.getD j undef)| .dead=>True| .row k l=>apm F own w k l hd.v hd.bs| .mp kk vk l ap1=>∃ b es clock,hd.v=.map (some b)/\hd.bs=[b]/\w.heap[b]? =some (.map es clock)/\ap3 F own w kk vk (eu kk vk l ap1) es/\Stamped es clock/\aqn own kk vk l es clock ap1
 | .apw k l=>(hd.v=.slice none 0 0/\l=[]/\hd.vs=[]/\hd.bs=[])\/
   ∃ b o cap cs ty bs,hd.v=.slice (some ⟨b,o,none⟩) l.length cap/\hd.bs=b::bs/\hd.bs.Nodup/\w.heap[b]? =some (.cells cs ty (0,0))/\o+cap<=cs.size/\l.length<=cap/\l.length<=aH/\
    (∀ (i:Nat) (v:Value),hd.vs[i]? =some v->cs[o+i]? =some v)/\apr F own w k l hd.vs bs
 | .ab r=>hd.v=r.yv/\r.R (λb=>cH F own b/\b ∉ hd.bs) hd.bs w
 | .raw o=>∃ b,hd.p=some b/\hd.bs=[b]/\w.heap[b]? =some o| .mi mid n left cur=>∃ b,hd.p=some b/\hd.bs=[b]/\∀ i,mid=some i->∃ (hdm:Hd) (bm:Nat) (seen:Array Nat) (c:Nat) (ss:List Nat),own i=some hdm/\hdm.v=.map (some bm)/\w.heap[b]? =some (.mapIter (some bm) c seen c)/\hd.vs=stV ss c/\ss.length=n/\left.Nodup/\(∀ k,k∈left↔∃ s,ss[k]? =some s/\¬s∈seen.toList)/\∀ j,cur=some j->∃ s,ss[j]? =some s/\seen.back? =some s| .fwd n=>∀ i,n=some i->∃ hd2,own i=some hd2/\hd2.v=hd.v/\pj hd.v=true| .fz k l=>Rel F own w (.rs k l) hd.v
variable {F':Nat->Prop}{bn:Own}{w':World}
variable {k:Tag}{l:List k.T}{cs:Array Value}
theorem apB.carry(g:apz F own w F' bn w'){o:Nat}(h:apB F own w k l o cs):apB F' bn w' k l o cs:=
 λi x hi j s E=>by obtain⟨u,h1,h2⟩:=h i x hi j s E;exact⟨u,h1,h2.carry g⟩
variable {v:Value}
theorem apm.carry(g:apz F own w F' bn w'){bs:List Nat}(W:∀ b∈bs,w'.heap[b]? =w.heap[b]?)(h:apm F own w k l v bs):apm F' bn w' k l v bs:=by
 rcases h with h| ⟨b,o,cap,cs,ty,h1,h2,X,U,V,O,E⟩;exact .inl h;exact .inr ⟨b,o,cap,cs,ty,h1,h2,by grind,U,V,O,E.carry g⟩
theorem apr.carry(g:apz F own w F' bn w'):∀ {l:List (List k.T)} {vs:List Value} {bs:List Nat},(∀ b∈bs,w'.heap[b]? =w.heap[b]?)->apr F own w k l vs bs->apr F' bn w' k l vs bs
 | [],[],bs,_,h=>h
 |l::Y,v::vs,bs,O,⟨W,U,h1,X,h2,V⟩ =>⟨W,U,h1,X,h2.carry g λb E=>O b (by grind),apr.carry g (λb E=>O b (by grind)) V⟩
 | [],_::_,_,_,h=>h.elim|_::_,[],_,_,h=>h.elim
variable {es:Array MapEntry}
theorem ap3.carry(g:apz F own w F' bn w'){kk E:Tag}{l:List (kk.T×E.T)}(h:ap3 F own w kk E l es):ap3 F' bn w' kk E l es:=
 ⟨h.1,λi x hi=>by obtain⟨e,h1,h2,O,U⟩:=h.2 i x hi;exact⟨e,h1,h2,O.carry g,U.carry g⟩⟩
theorem aqn.ids(g:∀ (id:Nat) (hd:Hd),own id=some hd->∃ hd',bn id=some hd'/\hd.like hd'){kk E:Tag}{l:List (kk.T×E.T)}{clock:Nat}{p:Option (Nat×Option kk.T)}(h:aqn own kk E l es clock p):aqn bn kk E l es clock p:=by
 cases p with
 |none=>trivial
 |some q=>
  obtain⟨i,q⟩:=q;cases q with
  |some x=>
   obtain⟨O,e,h1,h2,W⟩:=h;obtain⟨hd',V,U⟩:=g _ _ h1;exact⟨hd',e,V,h2,U.2.1.trans W⟩
  |none=>
   obtain⟨O,h1,h2⟩:=h;obtain⟨hd',V,U⟩:=g _ _ h1;exact⟨hd',V,U.2.2.trans h2⟩
theorem apF.carry (g:apz F own w F' bn w')(hsz:w.heap.size<=w'.heap.size){hd:Hd}(X:∀ b∈hd.bs,w'.heap[b]? =w.heap[b]?){o:Ob}(h:apF F own w hd o):apF F' bn w' hd o:=by
 cases o with
 |cells l=>obtain⟨b,cs,ty,h1,h2,O,W,U⟩:=h;exact⟨b,cs,ty,h1,h2,by grind,W,λj s hj=>(U j s hj).carry g⟩
 |dead=>trivial|row k l=>exact apm.carry g X h
 |mp kk vk l ap1=>obtain⟨b,es,clock,h1,h2,O,W,U,Y⟩:=h;exact⟨b,es,clock,h1,h2,by grind,W.carry g,U,Y.ids g.ids⟩
 |apw k l=>
  rcases h with h| ⟨b,o,cap,cs,ty,bs,h1,h2,O,W,U,Y,h7,h8,h9⟩;exact .inl h;exact .inr ⟨b,o,cap,cs,ty,bs,h1,h2,O,by grind,U,Y,h7,h8,h9.carry g λb' hb'=>X b' (by grind)⟩
 |ab r=>
  refine⟨h.1,r.loc _ _ _ w w' h.2 hsz (λb E V=>?_) (λb E V=>⟨?_,V.2⟩)⟩;by_cases hm:b∈hd.bs
  exact X b hm;exact(g.keep b E λho=>V ⟨ho,hm⟩).2;exact amg λho=>(g.keep b E ho).1 V.1
 |raw o=>obtain⟨b,h1,h2,O⟩:=h;exact⟨b,h1,h2,by grind⟩
 |mi mid n left cur=>
  obtain⟨b,h1,h2,O⟩:=h;refine⟨b,h1,h2,λi hi=>?_⟩;obtain⟨hdm,bm,seen,c,ss,k1,k2,k3,k4⟩:=O i hi;obtain⟨hd',e1,e2⟩:=g.ids _ _ k1;exact⟨hd',bm,seen,c,ss,e1,e2.2.1.trans k2,by grind,k4⟩
 |fwd n=>
  intro i hi;obtain⟨hd2,k1,k2,k3⟩:=h i hi;obtain⟨hd',e1,e2⟩:=g.ids _ _ k1;exact⟨hd',e1,e2.2.1.trans k2,k3⟩
 |fz k l=>exact Rel.carry g h
structure Hp (F:Nat->Prop)(own:Own)(w:World)(h:List Ob):Prop where
 dom:∀ (id:Nat) (hd:Hd),own id=some hd->id<h.length
 ao1:∀ b,F b->b<w.heap.size
 apart:∀ (id:Nat) (hd:Hd) (b:Nat),own id=some hd->b∈hd.bs->¬F b
 inj:∀ (i j:Nat) (hi hj:Hd) (b:Nat),own i=some hi->own j=some hj->b∈hi.bs->b∈hj.bs->i=j
 lt:∀ (id:Nat) (hd:Hd) (b:Nat),own id=some hd->b∈hd.bs->b<w.heap.size
 obs:∀ (id:Nat),dx (ap h id)=false->∃ hd,own id=some hd/\apF F own w hd (ap h id)
variable {h:List Ob}
theorem Hp.at(O:Hp F own w h){id:Nat}{o:Ob}(E:ap h id=o)(hd:dx o=false):∃ hd,own id=some hd/\apF F own w hd o:=by
 subst E;exact O.obs id hd
theorem Hp.upd{h':List Ob}(O:Hp F own w h)(g:apK F own w bn w')(U:Nat->Prop)(W:h.length<=h'.length)
  (same:∀ id,¬U id->bn id=own id/\ap h' id=ap h id/\∀ hd b,own id=some hd->b∈hd.bs->w'.heap[b]? =w.heap[b]?)
  (new:∀ id hd,U id->bn id=some hd->id<h'.length/\∀ b∈hd.bs,b<w'.heap.size/\¬F b/\∀ j X,j≠id->bn j=some X->b ∉ X.bs)
  (obs:∀ id,U id->dx (ap h' id)=false->∃ hd,bn id=some hd/\apF F bn w' hd (ap h' id)):Hp F bn w' h':=by
 refine⟨λid hd h1=>?_,λb hb=>alT (O.ao1 b hb) g.size,λid hd b h1 h2=>?_,λi j hi X b h1 h2 h3 h4=>?_,λid hd b h1 h2=>?_,λid hd=>?_⟩;by_cases E:U id
 grind
 rw[(same id E).1]at h1;exact alT (O.dom id hd h1) W;by_cases E:U id
 grind
 rw[(same id E).1]at h1;exact O.apart id hd b h1 h2;by_cases Y:U i
 grind
 by_cases huj:U j
 grind
 rw[(same i Y).1]at h1;rw[(same j huj).1]at h2;exact O.inj i j hi X b h1 h2 h3 h4;by_cases E:U id
 grind
 rw[(same id E).1]at h1;exact alT (O.lt id hd b h1 h2) g.size;by_cases E:U id
 grind
 obtain⟨e1,e2,e3⟩:=same id E;rw[e2]at hd |-;obtain⟨V,q1,q2⟩:=O.obs id hd;exact⟨V,by grind,q2.carry g.apM g.size λb hb=>e3 V b q1 hb⟩
theorem Hp.apS(U:Hp F own w h)(g:apK F own w own w')(E:∀ (id:Nat) (hd:Hd) (b:Nat),own id=some hd->b∈hd.bs->w'.heap[b]? =w.heap[b]?):Hp F own w' h:=
 U.upd g (λ_=>False) (alJ _) (λid _=>⟨rfl,rfl,λhd b h1 h2=>E id hd b h1 h2⟩) (λ_ _ O=>O.elim) (λ_ O=>O.elim)
theorem Hp.below(O:Hp F own w h)(E:Below w.heap.size w w'):Hp F own w' h:=
 O.apS (apK.below F own E) λid hd b h1 h2=>E.block b (O.lt id hd b h1 h2)
structure ap9 (own:Own)(h:List Ob)(nx:Nat):Prop where
 none:own nx=none
 dead:ap h nx=.dead
theorem Hp.nx(E:Hp F own w h):ap9 own h h.length:=by
 refine⟨?_,mQ (alJ _)⟩;cases O:own h.length with
 |none=>rfl|some hd=>exact absurd (E.dom _ _ O) (amI _)
def Own.set (own:Own)(id:Nat)(hd:Hd):Own:=λj=>if j=id then some hd else own j
theorem Own.apy (own:Own)(id:Nat)(hd:Hd):own.set id hd id=some hd:=by simp[Own.set]
theorem Own.apD (own:Own){id j:Nat}(hd:Hd)(h:j≠id):own.set id hd j=own j:=by simp[Own.set,h]
structure Step (F:Nat->Prop)(own:Own)(w:World)(h':List Ob)(bn:Own)(w':World):Prop where
 hp:Hp F bn w' h'
 fr:Fr { w:=w,own:=own} bn w'
 fresh:∀ id,own id=none->dx (ap h' id)=true->bn id=none
theorem uu(X:Hp F own w h){nx:Nat}(hn:ap9 own h nx){w1:World}(hw1:w1.heap=w.heap/\w1.os=w.os/\w1.tape=w.tape/\w1.output=w.output)(o:Obj)(ob:Ob)(hd:Hd)(hbs:hd.bs=[w.heap.size])
  (hob:∀ bn:Own,apK F own w bn (w1.alloc o)->apF F bn (w1.alloc o) hd ob) (hnd:dx ob=false:=by rfl):Step F own w (cm h nx ob) (own.set nx hd) (w1.alloc o):=by
 obtain⟨q1,q2,q3,q4⟩:=hw1;have Y:(w1.alloc o).heap=w.heap.push o:=by show w1.heap.push o=_;rw[q1]
 have U:∀ b,b<w.heap.size->(w1.alloc o).heap[b]? =w.heap[b]?:=λb V=>by grind
 have hsz:(w1.alloc o).heap.size=w.heap.size+1:=by grind
 have ids:∀ (id:Nat) (E:Hd),own id=some E->∃ hd',own.set nx hd id=some hd'/\E.like hd':=λid E h1=>by
  have W:id≠nx:=λe=>by rw[e,hn.none]at h1;cases h1
  exact⟨E,by grind [Own.apD],.refl _⟩
 have fr:Fr { w:=w,own:=own} (own.set nx hd) (w1.alloc o):=Fr.ap0 ids (λid E b h1 h2=>by
   grind [Own.apy,Own.apD]) (λb V _=>U b V) (by omega) q2 q3 q4
 have g:apK F own w (own.set nx hd) (w1.alloc o):=fr.apS;refine⟨X.upd g (· =nx) (by grind [cA]) (λid O=>⟨Own.apD _ _ O,by rw[dy,if_neg (λe=>O e.symm)],λE b h1 h2=>U b (X.lt id E b h1 h2)⟩) (λid E O h1=>?_) (λid O _=>?_),fr,λid h1 h2=>?_⟩
 rotate_left 2
 grind [dy,Own.apD]
 subst O;rw[Own.apy]at h1;cases h1;refine⟨by grind [cA],λb V=>?_⟩;rw[hbs]at V;simp at V;subst V;refine⟨by omega,λhf=>amI _ (X.ao1 _ hf),λj hj W h2 h3=>?_⟩;rw[Own.apD _ _ W]at h2;exact amI _ (X.lt j hj _ h2 h3);grind [Own.apy,dy]
theorem pu(X:Hp F own w h){id:Nat}{hd:Hd}(h1:own id=some hd){b:Nat}(hb:b∈hd.bs)(Y:w'.heap.size=w.heap.size)(O:∀ k,k≠b->w'.heap[k]? =w.heap[k]?)(q2:w'.os=w.os)(q3:w'.tape=w.tape)(q4:w'.output=w.output)(ob:Ob)
  (hob:apK F own w own w'->apF F own w' hd ob):Step F own w (cm h id ob) own w':=by
 have hlt:=X.dom id hd h1;have fr:Fr { w:=w,own:=own} own w':=Fr.ap0 (λ_ E h=>⟨E,h,.refl _⟩) (λid E b h1 h2=>.inl ⟨id,E,h1,h2⟩) (λk _ hn=>O k λe=>hn ⟨id,hd,h1,e▸hb⟩) (by omega) q2 q3 q4;refine⟨X.upd fr.apS (· =id) (by rw[cA,if_pos hlt];omega) (λj W=>⟨rfl,by rw[dy,if_neg (λe=>W e.symm)],λE V h2 h3=>O V λe=>W (X.inj j id E hd V h2 h1 h3 (e▸hb))⟩) (λj E W h2=>?_) (λj W _=>?_),fr,λ_ h1 _=>h1⟩;subst W;rw[h1]at h2;cases h2;exact⟨by simp_all [cA],λV U=>⟨by rw[Y];exact X.lt j hd V h1 U,X.apart j hd V h1 U,λi hi hne h3 h4=>hne (X.inj i j hi hd V h3 h1 h4 U)⟩⟩;subst W;refine⟨hd,h1,?_⟩;rw[dy,if_pos rfl];exact hob fr.apS
theorem Io(U:Hp F own w h){id:Nat}{hd:Hd}(h1:own id=some hd)(Y:Ob)(hob:apF F own w hd Y):Step F own w (cm h id Y) own w:=by
 have hlt:=U.dom id hd h1;have fr:Fr { w:=w,own:=own} own w:=Fr.ap0 (λ_ E h=>⟨E,h,.refl _⟩) (λid E b h1 h2=>.inl ⟨id,E,h1,h2⟩) (λ_ _ _=>rfl) (alJ _) rfl rfl rfl;refine⟨U.upd fr.apS (· =id) (by rw[cA,if_pos hlt];omega) (λj V=>⟨rfl,by rw[dy,if_neg (λe=>V e.symm)],λ_ _ _ _=>rfl⟩) (λj E V h2=>?_) (λj V _=>?_),fr,λ_ h1 _=>h1⟩;subst V;rw[h1]at h2;cases h2;exact⟨by simp_all [cA],λW O=>⟨U.lt j hd W h1 O,U.apart j hd W h1 O,λi hi X h3 h4=>X (U.inj i j hi hd W h3 h1 h4 O)⟩⟩;simp_all [dy]
theorem Qy {O E:List Nat}{c U:Nat}(h:stV O c=stV E U):c=U/\O=E:=by
 unfold stV at h;simp only[ane,Value.int.injEq,true_and]at h;refine⟨by omega,?_⟩;have h2:=h.2;clear h;induction O generalizing E with
 |nil=>simp_all|cons a r V=>cases E <;>grind
variable {t:TypeId}{ti:TI}
theorem bV(h:jg P t=some ti):∃ i d z,P.info? t=some i/\P.underlying t=some d/\i.zero=some z/\zK P d=true/\ti=dG P t i d:=by
 unfold jg at h;split at h
 rename_i i d hi hd;cases E:i.zero <;>grind;cases h
theorem dJ{i:TypeInfo}(h:P.info? t=some i):(sizeOf t).run P w=.ok i.size w:=by
 simp[sizeOf,typeInfo,h]
theorem xG{d:TypeDesc}(h:P.underlying t=some d):(isAgg t).run P w=.ok (ka P t) w:=by
 simp only[isAgg,al9,run_underlying h,alY,ka,h];cases d <;>simp
theorem nD (b o n:Nat):Addr.add ⟨b,o,none⟩ n=⟨b,o+n,none⟩:=by grind [Addr.add]
variable {ty:TypeId}
theorem dY{b:Nat}{fr:Nat×Nat}(h:w.heap[b]? =some (.cells cs ty fr))(j:Nat):w.cell? ⟨b,j,none⟩=cs[j]?:=by
 simp[World.cell?,h]
theorem Eu{b:Nat}(h:w.heap[b]? =some (.cells cs ty (0,0)))(j:Nat):w.frozen? ⟨b,j,none⟩=false:=by
 simp[World.frozen?,h]
variable {s':SV}
theorem zU(W:jg P t=some ti){l:List SV}{b o off:Nat}(c:Nat->Value)
  (hc:∀ (j:Nat) (s:SV),l[j]? =some s->w.cell? ⟨b,o+j,none⟩=some (c j)/\Rel F own w s (c j))  (E:rf ti.agg ti.size l off=some s'):
  ∃ u,(loadVar t ⟨b,o+off,none⟩).run P w=.ok u w/\Rel F own w s' u:=by
 obtain⟨i,d,z,hi,hd,hz,Y,rfl⟩:=bV W;simp only[dG]at E;simp only[loadVar,al9,xG hd,alY];cases X:ka P t with
 |true=>
  simp only[rf,X,cond_true,qF,JP,DI]at E;cases O:Nat.ble (off+i.size) l.length with
  |false=>grind
  |true=>
   simp only[O,cond_true,alK]at E;subst E;have V:off+i.size<=l.length:=Y2 O;simp only[if_true,al9,dJ hi,alY];rw[run_loadCells w ⟨b,o+off,none⟩ i.size (λj=>c (off+j)) (λj U=>by
    have:=(hc (off+j) _ (alP (by omega))).1;grind [nD])]
   refine⟨_,rfl,.agg (by simp;omega) λj s U=>?_⟩;simp_all <;>grind
 |false=>
  simp_all [rf,gu]
theorem vg {o:Option SV}{s:SV}(h:uq o=.val s):o=some s:=by
 cases o with
 |none=>simp[uq]at h|some x=>grind [uq]
theorem sD {α:Type}{l:List α}{i:Nat}{d:α}(h:i<l.length):l[i]? =some (l.getD i d):=by grind
theorem apB.get{o:Nat}(h:apB F own w k l o cs){i:Nat}(hi:i<l.length){j:Nat}{s:SV}(E:(cellsOf k (l.getD i (et k)))[j]? =some s):
  cs[o+i*aa k+j]? =some (cs.getD (o+i*aa k+j) undef)/\Rel F own w s (cs.getD (o+i*aa k+j) undef):=by
 obtain⟨u,h1,h2⟩:=h i _ (sD hi) j s E;simp_all
theorem apr.get:∀ {l:List (List k.T)} {vs:List Value} {bs:List Nat} {i:Nat} {v:Value},apr F own w k l vs bs->vs[i]? =some v->∃ E,pj v=true/\i<l.length/\apm F own w k (l.getD i []) v E/\∀ b∈E,b∈bs
 | [],[],bs,i,v,_,h=>by simp at h
 |l::ls,u::vs,bs,0,v,⟨E,b2,h1,h0,h2,h3⟩,h=>by grind
 |l::ls,u::vs,bs,i+1,v,⟨E,b2,h1,h0,h2,h3⟩,h=>by
  obtain⟨V,U,X,O,W⟩:=apr.get h3 (by simpa using h);grind
 | [],_::_,_,_,_,h,_=>h.elim|_::_,[],_,_,_,h,_=>h.elim
theorem apr.len:∀ {l:List (List k.T)} {vs:List Value} {bs:List Nat},apr F own w k l vs bs->vs.length=l.length
 | [],[],_,_=>rfl
 |l::V,u::vs,bs,⟨U,O,h1,W,h2,E⟩ =>by simp[apr.len E]
 | [],_::_,_,h=>h.elim|_::_,[],_,h=>h.elim
theorem LX(hp:Hp F own w h)(ht:jg P t=some ti){s:SV}(hr:Rel F own w s v)(E:qC ti h s=.val s'):
  ∃ u,(Instr.loadAt t v).run P w=.ok u w/\Rel F own w s' u:=by
 cases hr with
 |ptr h1 h2=>
  rename_i id off b hd;simp only[qC]at E;cases W:ap h id with
  |cells l=>
   rw[W]at E;have O:=vg E;obtain⟨hd',X,b',cs,ty,U,e2,e3,e4,e5⟩:=hp.at W rfl;rw[h1]at X;cases X;rw[h2]at U;cases U;have:=zU (P:=P) (w:=w) (F:=F) (own:=own) (b:=b) (o:=0) (off:=off) ht (λj=>cs.getD j undef) (λj s hj=>by
    refine⟨?_,e5 j s hj⟩;have hjl:j<cs.size:=by grind
    rw[alQ,dY e3];simp[hjl]) O
   grind [Instr.loadAt,Instr.sureAddr]
  |_=>rw[W]at E;simp[zN]at E
 |ep c h1 h2=>
  rename_i cells off b o;simp only[qC]at E;have O:=vg E;have:=zU (P:=P) (w:=w) (F:=F) (own:=own) (b:=b) (o:=o) (off:=off) ht c (λj s hj=>⟨(h1 j s hj).2,h2 j s hj⟩) O;grind [Instr.loadAt,Instr.sureAddr]
 |rp h1 h2 h3=>
  rename_i V id off n cap b o i hd;simp only[qC]at E;cases W:ap h id with
  |row k l=>
   rw[W]at E;simp only[Ea]at E;cases Y:Nat.beq V (aa k)with
   |false=>grind
   |true=>
    rw[Y]at E;have hsz:=alH Y;have O:=vg E;obtain⟨hd',X,e⟩:=hp.at W rfl;rw[h1]at X;cases X;rcases e with⟨a,U,_⟩ | ⟨b',o',cap',cs,ty,U,e2,e3,e4,e5,e6,e7⟩;grind
    rw[h2]at U;simp only[amF,alK,am6]at U;obtain⟨⟨rfl,rfl,_⟩,rfl,rfl⟩:=U;have:=zU (P:=P) (w:=w) (F:=F) (own:=own) (b:=b) (o:=o+i.toNat*V) (off:=off) ht (λj=>cs.getD (o+i.toNat*aa k+j) undef) (λj s hj=>by
     have:=e7.get h3 hj;grind [dY]) O
    grind [Instr.loadAt,Instr.sureAddr]
  |apw k l=>
   rw[W]at E;simp only[Ea]at E;cases Y:Nat.beq V 1&&Nat.beq off 0&& !ti.agg with
   |false=>grind
   |true=>
    rw[Y]at E;simp only[alG,al0]at Y;have hs1:=alH Y.1.1;have hs2:=alH Y.1.2;subst hs1;subst hs2;simp only[cond_true,OR.val.injEq]at E;subst E;obtain⟨hd',X,e⟩:=hp.at W rfl;rw[h1]at X;cases X;rcases e with⟨U,_⟩ | ⟨b',o',cap',cs,ty,bs,U,e2,e3,e4,e5,e6,e7,e8,e9⟩;grind
    rw[h2]at U;simp only[amF,alK,am6]at U;obtain⟨⟨rfl,rfl,_⟩,rfl,rfl⟩:=U;have hlen:=e9.len;have hv:hd.vs[i.toNat]? =some (hd.vs.getD i.toNat undef):=sD (by omega);obtain⟨b1,q1,q2,q3,q4⟩:=e9.get hv;refine⟨_,?_,.gr h1 hv q1⟩;obtain⟨i',d,z,hi,hdd,hz,hq,rfl⟩:=bV ht;have hcell:w.cell? ⟨b,o+i.toNat,none⟩=some (hd.vs.getD i.toNat undef):=by grind [dY]
    have hag:ka P t=false:=Y.2;simp_all [Instr.loadAt,Instr.sureAddr,loadVar,xG]
  |_=>rw[W]at E;simp[Ea]at E
 |gp h1 h2 h3=>
  rename_i V id off n cap b o i j hd;simp only[qC]at E;cases W:ap h id with
  |apw k l=>
   rw[W]at E;simp only[A_]at E;cases Y:Nat.beq V (aa k)with
   |false=>grind
   |true=>
    rw[Y]at E;have hsz:=alH Y;have O:=vg E;obtain⟨hd',X,e⟩:=hp.at W rfl;rw[h1]at X;cases X;rcases e with⟨_,_,U,_⟩ | ⟨b',o',cap',cs,ty,bs,U,e2,e3,e4,e5,e6,e7,e8,e9⟩;grind
    obtain⟨b1,q1,q2,q3,q4⟩:=e9.get h2;rcases q3 with⟨a,k1,_⟩ | ⟨b2,o2,cap2,cs2,ty2,k1,k2,k3,k4,k5,k6,k7⟩;grind
    simp only[amF,alK,am6]at k1;obtain⟨⟨rfl,rfl,_⟩,rfl,rfl⟩:=k1;have:=zU (P:=P) (w:=w) (F:=F) (own:=own) (b:=b) (o:=o+j.toNat*V) (off:=off) ht (λq=>cs2.getD (o+j.toNat*aa k+q) undef) (λq s hj=>by
     have:=k7.get h3 hj;grind [dY]) O
    grind [Instr.loadAt,Instr.sureAddr]
  |_=>rw[W]at E;simp[A_]at E
 |_=>simp[qC]at E
variable {f:Nat}
theorem Qz(E:jg P t=some ti){x:Nat×Nat×Bool}(O:nth ti.fields f=some x):
  ∃ fs fd,P.underlying t=some (.struct fs)/\fs[f]? =some fd/\x=(fd.offset,nX P fd.type,ka P fd.type):=by
 obtain⟨i,d,z,hi,hd,U,V,rfl⟩:=bV E;simp only[dG,gu]at O;grind
theorem X4{s:SV}{n:Nat}(O:Rel F own w s v)(h:Ba n s=.val s'):
  ∃ b o,v=.pointer (some ⟨b,o,none⟩)/\Rel F own w s' (.pointer (some ⟨b,o+n,none⟩)):=by
 cases O with
 |ptr h1 h2=>simp only[Ba,OR.val.injEq]at h;subst h;exact⟨_,_,rfl,.ptr h1 h2⟩
 |ep c h1 h2=>simp only[Ba,OR.val.injEq]at h;subst h;exact⟨_,_,rfl,by rw[am7];exact .ep c h1 h2⟩
 |rp h1 h2 E=>simp only[Ba,OR.val.injEq]at h;subst h;exact⟨_,_,rfl,by rw[am7];exact .rp h1 h2 E⟩
 |gp h1 h2 E=>simp only[Ba,OR.val.injEq]at h;subst h;exact⟨_,_,rfl,by rw[am7];exact .gp h1 h2 E⟩
 |_=>simp[Ba]at h
theorem JR(ht:jg P t=some ti){o n:Nat}{g:Bool}(W:nth ti.fields f=some (o,n,g))(hn:1<=n){s:SV}
  (X:Rel F own w s v) (h:Ba o s=.val s'):∃ u,(Instr.fieldAt t v f).run P w=.ok u w/\Rel F own w s' u:=by
 obtain⟨fs,fd,Y,O,U⟩:=Qz ht W;obtain⟨b,q,rfl,V⟩:=X4 X h;simp only[aoP]at U;obtain⟨rfl,rfl,rfl⟩:=U;refine⟨_,?_,V⟩;have E:(sizeOf fd.type).run P w=.ok (nX P fd.type) w:=by
  grind [nX,dJ]
 simp only[Instr.fieldAt,al9,run_underlying Y,alY,O,Instr.sureAddr,am3,fieldPlace,E];rw[if_neg (by omega)];simp[nD]
theorem RZ(ht:jg P t=some ti){s:SV}(hr:Rel F own w s v)(h:sw (nth ti.fields f) (zL s)=.val s'):
  ∃ u,(Instr.field t v f).run P w=.ok u w/\Rel F own w s' u:=by
 cases Y:nth ti.fields f with
 |none=>grind [sw]
 |some x=>
  obtain⟨o,n,g⟩:=x;obtain⟨fs,fd,X,hfd,he⟩:=Qz ht Y;simp only[aoP]at he;obtain⟨rfl,rfl,rfl⟩:=he;obtain⟨i,d,z,hi,hd,hz,hq,rfl⟩:=bV ht;rw[hd]at X;cases X;have U:(P.info? fd.type).isSome/\(P.underlying fd.type).isSome:=by
   simp only[zK,amc,alG]at hq;grind
  obtain⟨fi,V⟩:=anM.1 U.1;obtain⟨fd',hfu⟩:=anM.1 U.2;have key:∀ (l:List SV) (vs:Array Value),vs.size=l.length->(∀ (j:Nat) (s:SV),l[j]? =some s->Rel F own w s (vs.getD j undef))->sw (some (fd.offset,nX P fd.type,ka P fd.type)) (some l)=.val s'->
    ∃ u,(part fd.type vs fd.offset).run P w=.ok u w/\Rel F own w s' u:=by
   intro l vs hl W E;simp only[sw]at E;cases O:rf (ka P fd.type) (nX P fd.type) l fd.offset with
   |none=>grind [uq]
   |some q=>
    simp only[O,uq,OR.val.injEq]at E;subst E;simp only[nX,V]at O;simp only[part,al9,xG hfu,alY];cases ha:ka P fd.type with
    |true=>
     simp only[rf,ha,cond_true,qF,JP,DI]at O;cases hb:Nat.ble (fd.offset+fi.size) l.length with
     |false=>grind
     |true=>
      simp only[hb,cond_true,alK]at O;subst O;have hle:=Y2 hb;simp only[if_true,al9,dJ V,alY,am3];refine⟨_,rfl,.agg (by simp;omega) λj s hj=>?_⟩;simp_all <;>grind
    |false=>
     simp only[rf,ha,cond_false,gu]at O;have h1:=W _ _ O;have hlt:fd.offset<vs.size:=by grind
     refine⟨vs.getD fd.offset undef,?_,h1⟩;simp[hlt]
  cases hr with
  |agg h0 h1=>
   simp only[zL]at h;rw[Y]at h;obtain⟨u,X,hru⟩:=key _ _ h0 h1 h;simp_all [Instr.field,run_underlying,asAgg]
  |v x=>
   cases v with
   |agg cs=>
    simp only[zL]at h;rw[Y]at h;obtain⟨u,X,hru⟩:=key (cs.toList.map .v) cs (by simp) (λj s hj=>by
     simp at hj;obtain⟨z,hz,rfl⟩:=hj;simp[hz];exact .v _) h
    simp_all [Instr.field,run_underlying,asAgg]
   |_=>simp[zL,sw]at h
  |_=>simp[zL,sw]at h
end
section
variable {P:Program}{F:Nat->Prop}{own:Own}{w:World}
def tN (k:IntKind)(n:Int):(asIntOf (.int k n)).run P w=.ok (k,n) w:=rfl
variable {t e:TypeId}{E:TypeInfo}{o:Nat}{k:IntKind}
theorem qG(hd:P.underlying t=some (.slice e))(O:P.info? e=some E){b n cap:Nat}{i:Int}(U:0<=i)(h1:i.toNat<n):
  (Instr.indexAt t (.slice (some ⟨b,o,none⟩) n cap) (.int k i)).run P w=.ok (.pointer (some ⟨b,o+i.toNat*E.size,none⟩)) w:=by
 simp only[Instr.indexAt,al9,tN,alY,run_underlying hd,am3];simp_all [dJ,nD]
theorem Bd{len:Nat}(hd:P.underlying t=some (.array len e))(O:P.info? e=some E){b:Nat}{i:Int}(hc:0<=i/\i< (len:Int)):
  (Instr.indexAt t (.pointer (some ⟨b,o,none⟩)) (.int k i)).run P w=.ok (.pointer (some ⟨b,o+i.toNat*E.size,none⟩)) w:=by
 simp only[Instr.indexAt,al9,tN,alY,run_underlying hd,Instr.sureAddr,am3];simp_all [dJ,nD]
theorem R7{h:List Ob}(hp:Hp F own w h){ti te:TI}(ht:jg P t=some ti)(hte:jg P ti.elem=some te){s si:SV}{v vi:Value}{r:OR}
  (hr:Rel F own w s v) (hri:Rel F own w si vi) (E:ii ti te.size h s si=r) (V:r≠ .bad):
  ∃ c s',r=.chk c s'/\(c->∃ u,(Instr.indexAt t v vi).run P w=.ok u w/\Rel F own w s' u):=by
 obtain⟨i,d,z,hi,hd,hz,hq,rfl⟩:=bV ht;obtain⟨ie,de,ze,hie,hde,hze,hqe,hte'⟩:=bV hte;have hes:te.size=ie.size:=by rw[hte'];rfl
 have key:∀ k n,si=.v (.int k n)->∃ c s',r=.chk c s'/\(c->∃ u,(Instr.indexAt t v (.int k n)).run P w=.ok u w/\Rel F own w s' u):=by
  rintro k n rfl;have slice:(dG P t i d).isSlice=true->∃ e,d=.slice e/\P.info? e=some ie:=λhs=>by
   cases d <;>simp[dG]at hs;grind [dG]
  have arr:(dG P t i d).apZ=true->∃ len e,d=.array len e/\P.info? e=some ie/\(dG P t i d).len=len:=λhs=>by
   cases d <;>simp[dG]at hs;grind [dG]
  cases hr with
  |rs cf h0 h0' h1 h2=>
   rename_i X l b o cap;simp only[ii]at E;cases U:(dG P t i d).isSlice&&Nat.beq te.size (aa X)with
   |false=>grind
   |true=>
    rw[U]at E;simp only[cond_true]at E;simp only[alG]at U;obtain⟨e,rfl,O⟩:=slice U.1;have hsz:te.size=aa X:=alH U.2;refine⟨_,_,E.symm,λhc=>⟨_,qG hd O hc.1 (by omega),?_⟩⟩;have hlt:n.toNat<l.length:=by omega
    have:=Rel.ep (F:=F) (own:=own) (w:=w) (cells:=cellsOf X (l.getD n.toNat (et X))) (off:=0) (b:=b) (o:=o+n.toNat*aa X) (cf n.toNat)
     (λj s hj=>h1 n.toNat _ (sD hlt) j s hj) (λj s hj=>h2 n.toNat _ (sD hlt) j s hj)
    grind
  |rs0=>
   rename_i X a cap;simp only[ii]at E;grind
  |os h1 h2=>
   rename_i id hdd;simp only[ii]at E;cases U:(dG P t i d).isSlice with
   |false=>grind
   |true=>
    rw[U]at E;simp only[cond_true]at E;obtain⟨e,rfl,O⟩:=slice U;cases ho:ap h id with
    |row X l=>
     rw[ho]at E;simp only[Jz]at E;cases W:Nat.beq te.size (aa X)with
     |false=>grind
     |true=>
      rw[W]at E;simp only[cond_true]at E;obtain⟨hd',e0,e1⟩:=hp.at ho rfl;rw[h1]at e0;cases e0;refine⟨_,_,E.symm,λhc=>?_⟩;rcases e1 with⟨a,Y,rfl,_⟩ | ⟨b,o,cap,cs,ty,Y,q2,q3,q4,q5,q6,q7⟩;grind
      rw[Y];refine⟨_,qG hd O hc.1 (by omega),?_⟩;have:=Rel.rp (F:=F) (own:=own) (w:=w) (sz:=te.size) (off:=0) (i:=n) h1 Y (by omega);grind
    |apw X l=>
     rw[ho]at E;simp only[Jz]at E;cases W:Nat.beq te.size 1 with
     |false=>grind
     |true=>
      rw[W]at E;simp only[cond_true]at E;have hsz:=alH W;obtain⟨hd',e0,e1⟩:=hp.at ho rfl;rw[h1]at e0;cases e0;refine⟨_,_,E.symm,λhc=>?_⟩;rcases e1 with⟨Y,rfl,_⟩ | ⟨b,o,cap,cs,ty,bs,Y,q2,q3,q4,q5,q6,q7,q8,q9⟩;grind
      rw[Y];refine⟨_,qG hd O hc.1 (by omega),?_⟩;have:=Rel.rp (F:=F) (own:=own) (w:=w) (sz:=1) (off:=0) (i:=n) h1 Y (by omega);grind
    |_=>rw[ho]at E;exact absurd E.symm V
  |gr h1 h2 h3=>
   rename_i id q hdd;simp only[ii]at E;cases U:(dG P t i d).isSlice with
   |false=>grind
   |true=>
    rw[U]at E;simp only[cond_true]at E;obtain⟨e,rfl,O⟩:=slice U;cases ho:ap h id with
    |apw X l=>
     rw[ho]at E;simp only[Od]at E;cases W:Nat.beq te.size (aa X)with
     |false=>grind
     |true=>
      rw[W]at E;simp only[cond_true]at E;obtain⟨hd',e0,e1⟩:=hp.at ho rfl;rw[h1]at e0;cases e0;refine⟨_,_,E.symm,λhc=>?_⟩;rcases e1 with⟨_,_,Y,_⟩ | ⟨b,o,cap,cs,ty,bs,Y,q2,q3,q4,q5,q6,q7,q8,q9⟩;grind
      obtain⟨b1,k1,k2,k3,k4⟩:=q9.get h2;rcases k3 with⟨a,m1,m2,_⟩ | ⟨b2,o2,cap2,cs2,ty2,m1,m2,m3,m4,m5,m6,m7⟩;grind
      subst m1;refine⟨_,qG hd O hc.1 (by omega),?_⟩;have:=Rel.gp (F:=F) (own:=own) (w:=w) (sz:=te.size) (off:=0) (i:=q) (j:=n) h1 h2 (by omega);grind
    |_=>rw[ho]at E;exact absurd E.symm V
  |ls cf hz h0 h1 h2=>
   rename_i s m l b o cap;simp only[ii]at E;cases U:(dG P t i d).isSlice&&Nat.beq te.size s with
   |false=>grind
   |true=>
    rw[U]at E;simp only[cond_true]at E;simp only[alG]at U;obtain⟨e,rfl,O⟩:=slice U.1;have hsz:=alH U.2;unfold Oe at E;cases hx:Nat.ble 1 s&&Nat.ble (n.toNat*s+s) (sz l)with
    |false=>rw[hx]at E;exact absurd E.symm V
    |true=>
     rw[hx]at E;simp only[alG,qF]at hx;have g1:=Y2 hx.1;have g2:=Y2 hx.2;have hlt:n.toNat<m:=Nat.lt_of_mul_lt_mul_right (a:=s) (by omega);refine⟨_,_,E.symm,λhc=>⟨_,qG hd O hc hlt,?_⟩⟩;have:=Rel.ep (F:=F) (own:=own) (w:=w) (cells:=l) (off:=n.toNat*s) (b:=b) (o:=o) cf h1 h2;grind
  |ptr h1 h2=>
   simp only[ii]at E;cases U:(dG P t i d).apZ with
   |false=>grind
   |true=>
    rw[U]at E;simp only[cond_true]at E;obtain⟨len,e,rfl,O,hl⟩:=arr U;exact⟨_,_,E.symm,λhc=>⟨_,Bd hd O hc,by rw[<-hes];exact .ptr h1 h2⟩⟩
  |ep cf h1 h2=>
   simp only[ii]at E;cases U:(dG P t i d).apZ with
   |false=>grind
   |true=>
    rw[U]at E;simp only[cond_true]at E;obtain⟨len,e,rfl,O,hl⟩:=arr U;exact⟨_,_,E.symm,λhc=>⟨_,Bd hd O hc,by rw[<-hes,am7];exact .ep cf h1 h2⟩⟩
  |rp h1 h2 h3=>
   simp only[ii]at E;cases U:(dG P t i d).apZ with
   |false=>grind
   |true=>
    rw[U]at E;simp only[cond_true]at E;obtain⟨len,e,rfl,O,hl⟩:=arr U;exact⟨_,_,E.symm,λhc=>⟨_,Bd hd O hc,by rw[<-hes,am7];exact .rp h1 h2 h3⟩⟩
  |_=>simp only[ii]at E;exact absurd E.symm V
 cases hri with
 |v=>
  cases vi with
  |int k n=>grind
  |_=>cases s <;>first|(simp only[ii]at E;exact absurd E.symm V) |(exact absurd E.symm V)
 |_=>cases s <;>first|(simp only[ii]at E;exact absurd E.symm V) |(exact absurd E.symm V)
variable {k':IntKind}
theorem Ow(h:Nat.beq (kN k) (kN k')=true):k=k':=by
 cases k <;>cases k' <;>simp[kN]at h <;>rfl
theorem LY{op:BinOp}(h:Ct op k k'=true)(h1:op≠ .shl)(h2:op≠ .shr):k=k':=by
 cases op <;>simp only[Ct]at h <;>first|exact Ow h|exact absurd rfl h1|grind
variable {a:Int}{ty:TypeId}
theorem R8{op:BinOp}{b:Int}{s:SV}(E:Ct op k k'=true)(h:uo op k a b=.val s):∃ u,(binOp op ty (.int k a) (.int k' b)).run P w=.ok u w/\s=.v u:=by
 by_cases h1:op=.shl
 grind [uo]
 by_cases h2:op=.shr
 grind [uo]
 obtain rfl:=LY E h1 h2;cases op <;>simp[uo]at h <;>subst h <;>exact⟨_,by simp[binOp,Op.intArith,Op.intCmp,Op.intBits,XK,orI,afQ,Ql],rfl⟩
theorem R9{op:BinOp}{b:Int}{s:SV}{c:Prop}(O:Ct op k k'=true)(h:uo op k a b=.chk c s)(hc:c):∃ u,(binOp op ty (.int k a) (.int k' b)).run P w=.ok u w/\s=.v u:=by
 by_cases E:op=.shr
 subst E;simp only[uo,OR.chk.injEq]at h;obtain⟨rfl,rfl⟩:=h;refine⟨.int k (lp k a b),?_,rfl⟩;simp only[binOp];unfold Op.shift;rw[if_neg (Int.not_lt.2 hc)];rfl;by_cases h1:op=.shl
 subst h1;simp only[uo,OR.chk.injEq]at h;obtain⟨rfl,rfl⟩:=h;refine⟨.int k (afP k a b),?_,rfl⟩;simp only[binOp];unfold Op.shift;rw[if_neg (Int.not_lt.2 hc)];rfl;obtain rfl:=LY O h1 E;cases op <;>simp only[uo,OR.chk.injEq,reduceCtorEq]at h <;>first|exact absurd rfl E|exact absurd rfl h1|(obtain⟨rfl,rfl⟩:=h;exact⟨_,by simp[binOp,Op.intDiv,hc],rfl⟩)
theorem uv {k k':Tag}(h:Nat.beq (zG k) (zG k')=true):k=k':=by
 have h':=alH h;cases k <;>cases k' <;>first|rfl|(simp[zG]at h';done)
theorem Cy (op:BinOp)(t:TypeId)(x y:Operand)(k k':IntKind)(a b:Int):(eqGuard op t x y (.int k a) (.int k' b)).run P w=.ok () w:=by
 simp_all [eqGuard]
theorem Ox{op:BinOp}{b:Int}{r:OR}(h:aaO op (.v (.int k a)) (.v (.int k' b))=r)(E:r≠ .bad):Ct op k k'=true/\r=uo op k a b:=by
 grind [aaO]
end
def apx (F:Nat->Prop)(own:Own)(w:World)(l:List SV)(vs:Array Value):Prop:=vs.size=l.length/\∀ (j:Nat) (s:SV),l[j]? =some s->Rel F own w s (vs.getD j undef)
section
variable {P:Program}{F:Nat->Prop}{own:Own}{w:World}
theorem Ip (off:Nat):∀ (l:List Value) (k:Nat) (cs:Array Value),off+k+l.length<=cs.size->
  ((l.zipIdx k).foldl (λ(cs:Array Value) (x:Value×Nat) =>cs.setIfInBounds (off+x.2) x.1) cs).size=cs.size/\
  ∀ j,((l.zipIdx k).foldl (λ(cs:Array Value) (x:Value×Nat) =>cs.setIfInBounds (off+x.2) x.1) cs)[j]? =if off+k<=j/\j<off+k+l.length then l[j - off - k]? else cs[j]?
 | [],k,cs,_=>by
  simp_all [if_neg]
 |x::xs,k,cs,h=>by
  simp only[alL]at h;obtain⟨h1,h2⟩:=Ip off xs (k+1) (cs.setIfInBounds (off+k) x) (by simp;omega);simp only[List.zipIdx_cons,aoC];grind
theorem LZ (v:Value)(off:Nat)(cs:Array Value)(h:off+v.cells.size<=cs.size):
  (v.cells.zipIdx.foldl (λcs (c,j) =>cs.setIfInBounds (off+j) c) cs).size=cs.size/\
  ∀ j,(v.cells.zipIdx.foldl (λcs (c,j) =>cs.setIfInBounds (off+j) c) cs)[j]? =if off<=j/\j<off+v.cells.size then v.cells[j - off]? else cs[j]?:=by
 have:=Ip off v.cells.toList 0 cs (by simpa using h);grind [Array.toList_zipIdx]
theorem tO {vs ws:Array Value}{i j:Nat}(h:vs[i]? =ws[j]?):vs.getD i undef=ws.getD j undef:=by
 simp_all
theorem DJ {E place':Nat->Option (Nat×Nat)}(hpl:∀ i,place' i=E i):∀ (W:List (Nat×SV)) (vps:List (Nat×Value)) (cells l:List SV) (vs:Array Value),apx F own w cells vs->
  (W.map (·.1)=vps.map (·.1))->(∀ (j:Nat) (x:Nat×SV) (y:Nat×Value),W[j]? =some x->vps[j]? =some y->Rel F own w x.2 y.2)->lE E cells W=some l->
  ∃ U,Instr.fill place' vs vps=some U/\apx F own w l U
 | [],[],cells,l,vs,V,_,_,h=>by
  simp[lE]at h;subst h;exact⟨vs,rfl,V⟩
 | [],_::_,_,_,_,_,h,_,_=>by simp at h
 |_::_,[],_,_,_,_,h,_,_=>by simp at h
 |(i,s)::W,(i',v)::vps,cells,l,vs,V,Y,O,h=>by
  simp only[amu,ane]at Y;obtain⟨rfl,Y⟩:=Y;have h0:Rel F own w s v:=O 0 _ _ rfl rfl;simp only[lE]at h;cases hp:E i with
  |none=>grind
  |some os=>
   obtain⟨off,size⟩:=os;cases hf:pg s with
   |none=>grind
   |some xs=>
    simp only[hp,hf]at h;cases X:Nat.beq (sz xs) size&&Nat.ble (off+size) (sz cells)with
    |false=>grind
    |true=>
     rw[X]at h;simp only[cond_true]at h;simp only[alG,qF]at X;have e1:xs.length=size:=alH X.1;have e2:off+size<=cells.length:=Y2 X.2;obtain⟨f1,f2⟩:=Et h0 hf;have hle:off+v.cells.size<=vs.size:=by rw[V.1];omega
     obtain⟨g1,g2⟩:=LZ v off vs hle;have hr':apx F own w (gK cells off xs) (v.cells.zipIdx.foldl (λcs (c,j) =>cs.setIfInBounds (off+j) c) vs):=by
      refine⟨by rw[g1,nC];exact V.1,λj x hj=>?_⟩;rw[ow _ _ _ (by omega)]at hj;by_cases hjr:off<=j/\j<off+xs.length
      simp_all;rw[if_neg hjr]at hj;have:=V.2 _ _ hj;simp_all [if_neg]
     obtain⟨U,q1,q2⟩:=DJ hpl W vps _ l _ hr' Y (λj x y hx hy=>O (j+1) x y hx hy) h;simp_all [Instr.fill]
theorem ox {k:Kd}{s:SV}{v:Value}(h:Rel F own w s v):Rel F own w (LH k s) v:=by
 unfold LH;split;have:=cG h;subst this;exact .rs0;cases h;exact .rs0;have:=cG h;subst this;exact .rm0;exact h
theorem zV:∀ (ks:List Kd) (l:List SV),(ye ks l).length=l.length
 | [],l=>by simp[ye]
 |k::ks,[] =>by simp[ye]
 |k::ks,s::r=>by simp[ye,zV ks r]
theorem uw:∀ (ks:List Kd) (l:List SV) (j:Nat) (s:SV),(ye ks l)[j]? =some s->∃ s0,l[j]? =some s0/\(s=s0\/∃ k,s=LH k s0)
 | [],l,j,s,h=>⟨s,by grind [ye],.inl rfl⟩
 |k::ks,[],j,s,h=>by simp[ye]at h
 |k::ks,x::r,0,s,h=>by grind [ye]
 |k::ks,x::r,j+1,s,h=>by simp[ye]at h;simpa using uw ks r j s h
variable {l:List SV}
theorem apx.nrm{ks:List Kd}{vs:Array Value}(h:apx F own w l vs):apx F own w (ye ks l) vs:=
 ⟨by rw[zV];exact h.1,λj s U=>by
  obtain⟨s0,O,E| ⟨k,E⟩⟩:=uw _ _ _ _ U;subst E;exact h.2 j _ O;subst E;exact ox (h.2 j _ O)⟩
theorem Iq {E:Nat->Option (Nat×Nat)}:∀ (O:List (Nat×SV)) (cells l:List SV),lE E cells O=some l->l.length=cells.length
 | [],cells,l,h=>by grind [lE]
 |(i,v)::O,cells,l,h=>by
  simp only[lE]at h;split at h
  rename_i off size vs _ _;cases U:Nat.beq (sz vs) size&&Nat.ble (off+size) (sz cells)with
  |false=>grind|true=>rw[U]at h;simp only[cond_true]at h;rw[Iq O _ _ h,nC]
  cases h
theorem xH (v:Value):apx F own w (svs v) v.cells:=by
 refine⟨by simp[svs],λj s E=>?_⟩;simp[svs]at E;obtain⟨z,O,rfl⟩:=E;simp[O];exact .v _
theorem L1 {fs:List Field}:(fs.all λf=>(P.info? f.type).isSome&&(P.underlying f.type).isSome)=true->
  fs.mapM (λf=>(P.info? f.type).map λi=>(f.offset,i.size))=some (fs.map λf=>(f.offset,nX P f.type)):=by
 induction fs with
 |nil=>intro _;rfl
 |cons f fs E=>
  intro h;simp only[List.all_cons,alG]at h;grind [nX]
variable {t:TypeId}{ti:TI}
theorem Ua(ht:jg P t=some ti){V:List (Nat×SV)}{vps:Array (Nat×Value)}(hm:V.map (·.1)=vps.toList.map (·.1))
  (U:∀ (j:Nat) (x:Nat×SV) (y:Nat×Value),V[j]? =some x->vps.toList[j]? =some y->Rel F own w x.2 y.2)
  (h:(ti.apZ=true/\∃ te,jg P ti.elem=some te/\lE (λi=>some (i*te.size,te.size)) ti.zero V=some l)\/
     (ti.apZ=false/\ti.agg=true/\lE (λi=>(nth ti.fields i).map λf=>(f.1,f.2.1)) ti.zero V=some l)):
  ∃ u,(Instr.build t vps).run P w=.ok u w/\Rel F own w (.agg l) u:=by
 obtain⟨i,d,z,hi,hd,hz,hq,rfl⟩:=bV ht;have O:(dG P t i d).zero=svs z:=by simp[dG,hz]
 rcases h with⟨ha,te,Y,W⟩ | ⟨ha,hg,W⟩;obtain⟨ie,de,ze,hie,hde,hze,hqe,he⟩:=bV Y;cases d <;>simp[dG]at ha;rename_i len e;simp only[dG]at hie;rw[O]at W;have hes:te.size=ie.size:=by rw[he];rfl
 obtain⟨E,q1,X⟩:=DJ (place':=λi=>some (i*ie.size,ie.size)) (λi=>by rw[hes]) V vps.toList _ l z.cells (xH z) hm U W;exact⟨.agg E,run_build w t vps E (by grind [Program.built]),.agg X.1 X.2⟩;cases d with
 |struct fs=>
  rw[O]at W;have hmp:=L1 (P:=P) (fs:=fs.toList) (by grind [zK]);obtain⟨E,q1,X⟩:=DJ (place':=λi=>(fs.toList.map λf=>(f.offset,nX P f.type)).toArray[i]?) (λi=>by
   simp[dG,gu];rfl) V vps.toList _ l z.cells (xH z) hm U W
  exact⟨.agg E,run_build w t vps E (by grind [Program.built]),.agg X.1 X.2⟩
 |array len e=>simp[dG]at ha|_=>simp[dG,ka,hd]at hg
theorem L2 (z:List SV)(O:0<z.length):∀ (n i:Nat),(C3 n z)[i]? =if i<n*z.length then z[i % z.length]? else none
 |0,i=>by simp[C3]
 |n+1,i=>by
  rw[C3,amC];by_cases hi:i<z.length
  rw[if_pos hi,if_pos (by grind),aom hi];rw[if_neg hi,L2 z O n];rw[an9];by_cases E:i - z.length<n*z.length
  rw[if_pos E,if_pos (by omega)];grind [Nat.mod_eq_sub_mod]
  grind
theorem wM (z:List SV):∀ n,(C3 n z).length=n*z.length
 |0=>by simp[C3]
 |n+1=>by rw[C3,alN,wM z n,an9];omega
theorem Ir {s:SV}(h:fit .s s=true): .v (.string (toS s))=s:=by
 cases s <;>simp only[fit,alO]at h;rename_i x;cases x <;>simp only[fit,alO]at h;rfl
theorem Is {s:SV}(h:fit .b s=true): .v (.bool (toB s))=s:=by
 cases s <;>simp only[fit,alO]at h;rename_i x;cases x <;>simp only[fit,alO]at h;rfl
variable {k:IntKind}
theorem X5{k':IntKind}(h:Nat.beq (kN k) (kN k')=true):k=k':=by
 cases k <;>cases k' <;>first|rfl|(simp[kN]at h;done)
theorem It{s:SV}(h:fit (.n k) s=true): .v (.int k (toI s))=s:=by
 cases s <;>simp only[fit,alO]at h;rename_i x;cases x <;>simp only[fit,alO]at h;have:=X5 h;subst this;rfl
theorem im {k:Tag}{s:SV}(h:fit (.r k) s=true):∃ l,s=.rs k l:=by
 cases s <;>simp only[fit,alO]at h;rename_i k' l;have:=uv h;subst this;grind
theorem Ub {k k2:Tag}{s:SV}(h:fit (.m k k2) s=true):∃ l,s=.rm k k2 l:=by
 cases s <;>simp only[fit,alO]at h;rename_i k' E l;simp only[alG]at h;have U:=uv h.1;have O:=uv h.2;subst U;subst O;grind
theorem Oy {s:SV}(h:fit (.r .reach) s=true): .rs .reach (uh s)=s:=by obtain⟨l,rfl⟩:=im h;rfl
theorem R_ {s:SV}(h:fit (.r .dd) s=true): .rs .dd (wz s)=s:=by obtain⟨l,rfl⟩:=im h;rfl
theorem Sa {s:SV}(h:fit (.r .apL) s=true): .rs .apL (wA s)=s:=by obtain⟨l,rfl⟩:=im h;rfl
theorem Oz {s:SV}(h:fit (.r .right) s=true): .rs .right (ui s)=s:=by obtain⟨l,rfl⟩:=im h;rfl
theorem Sb {s:SV}(h:fit (.r .apX) s=true): .rs .apX (wB s)=s:=by obtain⟨l,rfl⟩:=im h;rfl
theorem Uc {s:SV}(h:fit (.r .int) s=true): .rs .int (zH s)=s:=by obtain⟨l,rfl⟩:=im h;rfl
theorem Sc {s:SV}(h:fit (.r .ap2) s=true): .rs .ap2 (wC s)=s:=by obtain⟨l,rfl⟩:=im h;rfl
theorem Sd {s:SV}(h:fit (.r .part) s=true): .rs .part (D3 s)=s:=by obtain⟨l,rfl⟩:=im h;rfl
theorem Se {s:SV}(h:fit (.r .u0) s=true): .rs .u0 (LB s)=s:=by obtain⟨l,rfl⟩:=im h;rfl
theorem L3 {s:SV}(h:fit (.r .aoY) s=true): .rs .aoY (yW s)=s:=by obtain⟨l,rfl⟩:=im h;rfl
theorem OA {s:SV}(h:fit (.r .x6) s=true): .rs .x6 (A5 s)=s:=by obtain⟨l,rfl⟩:=im h;rfl
theorem OB {s:SV}(h:fit (.r .order) s=true): .rs .order (A6 s)=s:=by obtain⟨l,rfl⟩:=im h;rfl
theorem Sf {s:SV}(h:fit (.r .apc) s=true): .rs .apc (LD s)=s:=by obtain⟨l,rfl⟩:=im h;rfl
theorem Be {s:SV}(h:fit (.r .S2) s=true): .rs .S2 (vW s)=s:=by obtain⟨l,rfl⟩:=im h;rfl
theorem OC {s:SV}(h:fit (.r .fault) s=true): .rs .fault (Ii s)=s:=by obtain⟨l,rfl⟩:=im h;rfl
theorem Sg {s:SV}(h:fit (.r .bool) s=true): .rs .bool (LF s)=s:=by obtain⟨l,rfl⟩:=im h;rfl
theorem Sh {s:SV}(h:fit (.r .ints) s=true): .rs .ints (zI s)=s:=by obtain⟨l,rfl⟩:=im h;rfl
theorem Ev {s:SV}(h:fit (.r .G2) s=true): .rs .G2 (yz s)=s:=by obtain⟨l,rfl⟩:=im h;rfl
theorem zW {s:SV}(h:fit (.r .ao9) s=true): .rs .ao9 (uj s)=s:=by obtain⟨l,rfl⟩:=im h;rfl
theorem Ud {s:SV}(h:fit (.r .fnc) s=true): .rs .fnc (Qi s)=s:=by obtain⟨l,rfl⟩:=im h;rfl
theorem JS {s:SV}(h:fit (.r .holding) s=true): .rs .holding (Cq s)=s:=by obtain⟨l,rfl⟩:=im h;rfl
theorem y7 {s:SV}(h:fit (.r .bl) s=true): .rs .bl (tG s)=s:=by obtain⟨l,rfl⟩:=im h;rfl
theorem y8 {s:SV}(h:fit (.r .dn) s=true): .rs .dn (tH s)=s:=by obtain⟨l,rfl⟩:=im h;rfl
theorem Si {s:SV}(h:fit (.r .apa) s=true): .rs .apa (LG s)=s:=by obtain⟨l,rfl⟩:=im h;rfl
theorem Hj {s:SV}(h:fit (.r .al) s=true): .rs .al (zJ s)=s:=by obtain⟨l,rfl⟩:=im h;rfl
theorem JT {s:SV}(h:fit (.r .refusal) s=true): .rs .refusal (Cr s)=s:=by obtain⟨l,rfl⟩:=im h;rfl
theorem OD {s:SV}(h:fit (.r .range) s=true): .rs .range (Ij s)=s:=by obtain⟨l,rfl⟩:=im h;rfl
theorem OE {s:SV}(h:fit (.r .ratio) s=true): .rs .ratio (Ik s)=s:=by obtain⟨l,rfl⟩:=im h;rfl
theorem L4 {s:SV}(h:fit (.r .apJ) s=true): .rs .apJ (D4 s)=s:=by obtain⟨l,rfl⟩:=im h;rfl
theorem Bf {s:SV}(h:fit (.r .x5) s=true): .rs .x5 (vX s)=s:=by obtain⟨l,rfl⟩:=im h;rfl
theorem Ew {s:SV}(h:fit (.r .apn) s=true): .rs .apn (yA s)=s:=by obtain⟨l,rfl⟩:=im h;rfl
theorem zX {s:SV}(h:fit (.r .apj) s=true): .rs .apj (uk s)=s:=by obtain⟨l,rfl⟩:=im h;rfl
theorem Ue {s:SV}(h:fit (.r .str) s=true): .rs .str (Qj s)=s:=by obtain⟨l,rfl⟩:=im h;rfl
theorem wi {s:SV}(h:fit (.m .ao9 .int) s=true): .rm .ao9 .int (lD s)=s:=by obtain⟨l,rfl⟩:=Ub h;rfl
theorem yg {s:SV}(h:fit (.m .G2 .bool) s=true): .rm .G2 .bool (j_ s)=s:=by obtain⟨l,rfl⟩:=Ub h;rfl
theorem JU {s:SV}(h:fit (.m .int .int) s=true): .rm .int .int (wD s)=s:=by obtain⟨l,rfl⟩:=Ub h;rfl
theorem af0 {s:SV}(h:fit .f s=true):fnV (toF s)=s:=by
 unfold fit at h;split at h <;>first|rfl|simp_all
theorem pw{k:Kd}{ks:List Kd}(h:ul (k::ks) l=true):∃ x r,l=x::r/\fit k x=true/\ul ks r=true:=by
 cases l with
 |nil=>simp[ul]at h|cons x r=>grind [ul]
theorem uz(h:ul [] l=true):l=[]:=by
 grind [ul]
variable {k:Tag}{x:k.T}
theorem qH(h:vY k l=some x):cellsOf k x=l:=by
 unfold vY at h;cases E:ul (d_ k) l with
 |false=>grind
 |true=>
  simp only[E,cond_true,alK]at h;subst h;cases k <;>simp only[d_]at E <;>
   (repeat (obtain⟨_,_,rfl,_,E⟩:=pw E)) <;>(obtain rfl:=uz E) <;>
   simp_all [cellsOf,mkE,at0,Ir,It,Is,af0,Oy,R_,Sa,Oz,Sb,Uc,Sc,Sd,Se,L3,OA,OB,Sf,Be,OC,Sg,Sh,Ev,zW,Ud,JS,y7,y8,Si,Hj,JT,OD,OE,L4,Bf,Ew,zX,Ue
   ,wi,yg,JU
   ]
def mo(h:ou k l=some x):cellsOf k x=ye (d_ k) l:=qH h
theorem Ey(h:ou k l=some x){vs:Array Value}(E:apx F own w l vs):apx F own w (cellsOf k x) vs:=by
 rw[mo h];exact E.nrm
theorem OF(h:ou k l=some x):l.length=aa k:=by
 rw[<-bG k x,mo h,zV]
theorem Bg(x:k.T):ou k (cellsOf k x)=some x:=by
 cases k <;>first|rfl|(cases x <;>rfl)
theorem Cz{y:k.T}(h:cellsOf k x=cellsOf k y):x=y:=by
 grind [Bg]
theorem Hk (k:Tag):0<aa k:=by cases k <;>simp[aa]
theorem Ez {k:Tag}{size:Nat}(W:size=aa k):∀ (n:Nat) (l:List SV) (xs:List k.T),rG k size n l=some xs->
  xs.length=n/\∀ (i:Nat) (x:k.T),xs[i]? =some x->∀ (j:Nat) (s:SV),(cellsOf k x)[j]? =some s->∃ s0,l[i*size+j]? =some s0/\(s=s0\/∃ q,s=LH q s0)
 |0,l,xs,h=>by
  grind [rG]
 |n+1,l,xs,h=>by
  simp only[rG,JP,DI]at h;cases V:ou k (l.take size)with
  |none=>grind
  |some y=>
   cases U:rG k size n (l.drop size)with
   |none=>grind
   |some Y=>
    simp only[V,U,alK]at h;subst h;obtain⟨h1,h2⟩:=Ez W n _ _ U;refine⟨by simp[h1],λi x E j s O=>?_⟩;cases i with
    |zero=>
     simp at E;subst E;rw[mo V]at O;obtain⟨s0,e1,X⟩:=uw _ _ _ _ O;grind
    |succ i=>
     simp at E;grind
variable {ps:List (Nat×SV)}
theorem L5{i:TypeInfo}{e:TypeId}{E:TypeInfo}{O:Value}(hi:P.info? t=some i)(hd:P.underlying t=some (.slice e))(hie:P.info? e=some E)(hze:E.zero=some O)(hzl:O.cells.size=E.size){n:Nat}{vps:Array (Nat×Value)}
  (hm:ps.map (·.1)=vps.toList.map (·.1)) (ap6:∀ (j:Nat) (x:Nat×SV) (y:Nat×Value),ps[j]? =some x->vps.toList[j]? =some y->Rel F own w x.2 y.2)
  (hf:lE (λi=>some (i*E.size,E.size)) (C3 n (svs O)) ps=some l) (hpos:0<E.size) (hle:n*E.size<=16777216):
  ∃ U,(Instr.buildSlice t n vps).run P w=.ok (.slice (some ⟨w.heap.size,0,none⟩) n n) (w.alloc (.cells U e))/\apx F own w l U/\U.size=n*E.size:=by
 have W:(svs O).length=E.size:=by simp[svs,hzl]
 let cz:Array Value:=if n*E.size=0 then #[]else O.cells
 have hz0:apx F own w (C3 n (svs O)) ((Array.range (n*E.size)).map (cz[· % cz.size]!)):=by
  refine⟨by simp[wM,W],λj s hj=>?_⟩;rw[L2 _ (by omega)]at hj;by_cases hjn:j<n*(svs O).length
  rw[if_pos hjn]at hj;rw[W]at hjn hj;have X:n*E.size≠0:=by omega
  have V:cz=O.cells:=by grind
  rw[V];have hm1:j % O.cells.size<O.cells.size:=anP _ (by omega);have:=(xH (F:=F) (own:=own) (w:=w) O).2 (j % O.cells.size) s (by grind);simp_all;grind
 obtain⟨U,q1,q2⟩:=DJ (place':=λi=>some (i*E.size,E.size)) (λi=>rfl) ps vps.toList _ l _ hz0 hm ap6 hf;refine⟨U,?_,q2,?_⟩;simp only[Instr.buildSlice,al9,run_underlying hd,alY,dJ hie];have Y:¬ (n*E.size > 2 ^ 24):=by omega
 simp only[Y,if_false];by_cases X:n*E.size=0
 have V:cz= #[]:=by grind
 simp_all [newRow];have V:cz=O.cells:=by grind
 rw[V]at q1;rw[if_neg X];simp_all [zeroValue,typeInfo,newRow];have h1:=Iq _ _ _ hf;rw[q2.1,h1,wM,W]
variable {h:List Ob}
theorem asj(V:Hp F own w h):¬cH F own w.heap.size:=by
 rintro (O| ⟨id,hd',U,E⟩);exact amI _ (V.ao1 _ O);exact amI _ (V.lt id hd' _ U E)
theorem aa7(hp:Hp F own w h){te:TI}(ht:jg P t=some ti)(hte:jg P ti.elem=some te){n:Nat}{vps:Array (Nat×Value)}
  (hm:ps.map (·.1)=vps.toList.map (·.1)) (ap6:∀ (j:Nat) (x:Nat×SV) (y:Nat×Value),ps[j]? =some x->vps.toList[j]? =some y->Rel F own w x.2 y.2) {r:OR}
  (E:bsS ti te n ps=r) (hr:r≠ .bad):
  ∃ s cs ty u,r=.apY s/\(Instr.buildSlice t n vps).run P w=.ok u (w.alloc (.cells cs ty))/\Rel F own (w.alloc (.cells cs ty)) s u/\∀ (k:Tag) (xs:List k.T),s=.rs k xs->u=.slice (some ⟨w.heap.size,0,none⟩) xs.length xs.length/\xs.length*aa k<=cs.size/\xs.length<=aH/\apB F own w k xs 0 cs:=by
 obtain⟨i,d,z,hi,hd,hz,hq,rfl⟩:=bV ht;obtain⟨ie,de,ze,V,hde,hze,hqe,he⟩:=bV hte;have W:te.size=ie.size:=by rw[he];rfl
 have U:te.zero=svs ze:=by simp_all [dG]
 have hg:∀ cs ty,apK F own w own (w.alloc (.cells cs ty)):=λcs ty=>apK.below F own (qE w _);have hnew:=asj hp;unfold bsS at E;cases hn:Nat.beq n 0 with
 |true=>
  rw[hn]at E;have hn0:=alH hn;subst hn0;simp only[cond_true]at E;cases d with
  |slice e=>
   subst E;have hps:ps=[]:=by
    grind
   simp only[dG]at V;have hv:vps= #[]:=by
    simp_all
   subst hv;subst hps;refine⟨_,#[],e,.slice (some ⟨w.heap.size,0,none⟩) 0 0,rfl,?_,.e0,λ_ _ e=>(by cases e)⟩;have he0:Array.map (λ(_:Nat) =>(default:Value)) (Array.range 0)= #[]:=anY (by simp);simp[Instr.buildSlice,run_underlying hd,dJ V,Instr.fill,newRow,World.alloc_eq,he0]
  |_=>simp[dG]at E;exact absurd E.symm hr
 |false=>
 rw[hn]at E;simp only[cond_false]at E;rw[W]at E;cases hf:lE (λi=>some (i*ie.size,ie.size)) (C3 n te.zero) ps with
 |none=>
  rw[hf]at E;exfalso;unfold bsG at E;cases aqr:aaT te.tag with
  |none=>rw[aqr]at E;exact hr E.symm|some k=>rw[aqr]at E;simp only at E;cases hio:XM ps <;>rw[hio]at E <;>exact hr E.symm
 |some l=>
 rw[hf]at E;have typed:∀ k,bsT k (dG P t i d) te n (some l)=r->∃ s cs ty u,r=.apY s/\(Instr.buildSlice t n vps).run P w=.ok u (w.alloc (.cells cs ty))/\Rel F own (w.alloc (.cells cs ty)) s u/\∀ (k:Tag) (xs:List k.T),s=.rs k xs->u=.slice (some ⟨w.heap.size,0,none⟩) xs.length xs.length/\xs.length*aa k<=cs.size/\xs.length<=aH/\apB F own w k xs 0 cs:=by
  intro k E;simp only[bsT]at E;cases hc:Nat.beq te.size (aa k)&&(dG P t i d).isSlice&&Nat.ble (n*te.size) 16777216&&Nat.beq (sz te.zero) te.size with
  |false=>rw[hc]at E;exact absurd E.symm hr
  |true=>
  rw[hc]at E;simp only[cond_true]at E;simp only[alG,qF]at hc;obtain⟨⟨⟨c1,c2⟩,c3⟩,c4⟩:=hc;have c1:=alH c1;have c3:=Y2 c3;have c4:=alH c4;cases hel:rG k te.size n l with
  |none=>rw[hel]at E;exact absurd E.symm hr
  |some xs=>
  rw[hel]at E;simp only[TL]at E;subst E;cases d with
  |slice e=>
   simp only[dG]at V hde;have X:0<te.size:=by rw[c1];exact Hk k
   have hzl:ze.cells.size=ie.size:=by rw[<-W,<-c4,U];simp[svs]
   rw[U]at hf;obtain⟨O,q1,q2,q3⟩:=L5 hi hd V hze hzl hm ap6 hf (by omega) (by rw[<-W];exact c3);obtain⟨x1,x2⟩:=Ez c1 n l xs hel;refine⟨_,O,e,_,rfl,q1,?_,?_⟩
   rotate_left
   intro k' xs' e';cases e';refine⟨by rw[x1],?_,by rw[x1];have:n<=n*te.size:=amP n X;unfold aH;omega,λi x hx j s Y=>?_⟩;grind
   obtain⟨s0,h1,h2⟩:=x2 i x hx j s Y;rw[c1]at h1;have hlt:i*aa k+j<O.size:=by rw[q2.1];exact(alM.1 h1).1
   have h3:=q2.2 _ _ h1;refine⟨O.getD (i*aa k+j) undef,by simp_all,?_⟩;rcases h2 with rfl| ⟨q,rfl⟩;exact h3;exact ox h3;have:=Rel.rs (F:=F) (own:=own) (w:=w.alloc (.cells O e)) (k:=k) (l:=xs) (b:=w.heap.size) (o:=0) (cap:=xs.length) (λi j=>O.getD (i*aa k+j) undef) (alJ _)
    (by rw[x1];have:n<=n*te.size:=amP n X;unfold aH;omega)
    (λi x hx j s Y=>⟨hnew,by
     obtain⟨s0,h1,_⟩:=x2 i x hx j s Y;rw[c1]at h1;have hlt:i*aa k+j<O.size:=by rw[q2.1];exact(alM.1 h1).1
     rw[alQ,aoE];simp[hlt]⟩)
    (λi x hx j s Y=>by
     obtain⟨s0,h1,h2⟩:=x2 i x hx j s Y;rw[c1]at h1;have h3:=(q2.2 _ _ h1).mono (hg O e);rcases h2 with rfl| ⟨q,rfl⟩;exact h3;exact ox h3)
   grind
  |_=>simp[dG]at c2
 have untyped:bsU (dG P t i d) te n (some l)=r->∃ s cs ty u,r=.apY s/\(Instr.buildSlice t n vps).run P w=.ok u (w.alloc (.cells cs ty))/\Rel F own (w.alloc (.cells cs ty)) s u/\∀ (k:Tag) (xs:List k.T),s=.rs k xs->u=.slice (some ⟨w.heap.size,0,none⟩) xs.length xs.length/\xs.length*aa k<=cs.size/\xs.length<=aH/\apB F own w k xs 0 cs:=by
  intro E;simp only[bsU]at E;cases hc:(dG P t i d).isSlice&&Nat.ble 1 te.size&&Nat.ble (n*te.size) 16777216&&Nat.beq (sz te.zero) te.size with
  |false=>rw[hc]at E;exact absurd E.symm hr
  |true=>
  rw[hc]at E;simp only[cond_true,lsS]at E;simp only[alG,qF]at hc;obtain⟨⟨⟨c2,c1⟩,c3⟩,c4⟩:=hc;have c1:=Y2 c1;have c3:=Y2 c3;have c4:=alH c4;cases hc2:Nat.beq (sz l) (n*te.size)&&u9 l with
  |false=>grind
  |true=>
  rw[hc2]at E;simp only[cond_true]at E;subst E;simp only[alG,qF]at hc2;have hln:=alH hc2.1;cases d with
  |slice e=>
   simp only[dG]at V hde;have hzl:ze.cells.size=ie.size:=by rw[<-W,<-c4,U];simp[svs]
   rw[U]at hf;obtain⟨O,q1,q2,q3⟩:=L5 hi hd V hze hzl hm ap6 hf (by omega) (by rw[<-W];exact c3);refine⟨_,O,e,_,rfl,q1,?_,λ_ _ e=>(by cases e)⟩;have:=Rel.ls (F:=F) (own:=own) (w:=w.alloc (.cells O e)) (z:=te.size) (n:=n) (l:=l) (b:=w.heap.size) (o:=0) (cap:=n) (λj=>O.getD j undef) hln.symm (alJ _)
    (λj s Y=>⟨hnew,by
     have hlt:j<O.size:=by grind
     rw[alQ,aoE];simp[hlt]⟩)
    (λj s Y=>(q2.2 _ _ Y).mono (hg O e))
   grind
  |_=>simp[dG]at c2
 unfold bsG at E;grind
end
structure arL (b:Nat)(ty:TypeId)(cs':Array Value)(w w':World):Prop where
 here:w'.heap[b]? =some (.cells cs' ty (0,0))
 size:w'.heap.size=w.heap.size
 other:∀ k,k≠b->w'.heap[k]? =w.heap[k]?
 os:w'.os=w.os
 tape:w'.tape=w.tape
 output:w'.output=w.output
section
variable {P:Program}{F:Nat->Prop}{own:Own}{w:World}
theorem jP {b o:Nat}{ty:TypeId}:∀ (vs:List Value) (i:Nat) (w:World) (cs:Array Value),w.heap[b]? =some (.cells cs ty (0,0))->o+i+vs.length<=cs.size->(∀ v∈vs,v.oneCell'=true)->
  ∃ O w',(storeCells ⟨b,o,none⟩ vs i).run P w=.ok () w'/\arL b ty O w w'/\O.size=cs.size/\∀ j,O[j]? =if o+i<=j/\j<o+i+vs.length then vs[j - (o+i)]? else cs[j]?
 | [],i,w,cs,V,_,_=>by
  refine⟨cs,w,by rfl,⟨V,rfl,λ_ _=>rfl,rfl,rfl,rfl⟩,rfl,λj=>?_⟩;grind
 |v::vs,i,w,cs,V,Y,W=>by
  simp only[alL]at Y;have hlt:o+i<cs.size:=by omega
  have hcell:w.cell? ⟨b,o+i,none⟩=some cs[o+i]:=by rw[dY V];simp[hlt]
  have hrun:(store (Addr.add ⟨b,o,none⟩ i) v).run P w=.ok () (w.setCell ⟨b,o+i,none⟩ v):=by
   grind [nD,run_store,Eu]
  have E:=setCell_eq_setRow w b (o+i) cs ty (0,0) v V;have X:(w.setCell ⟨b,o+i,none⟩ v).heap[b]? =some (.cells (cs.setIfInBounds (o+i) v) ty (0,0)):=by
   rw[E];exact setRow_heap w b cs _ ty (0,0) V
  obtain⟨O,w',e1,U,e3,e4⟩:=jP (o:=o) vs (i+1) _ _ X (by simp;omega) (λv hv=>W v (by simp[hv]));refine⟨O,w',?_,⟨U.here,by rw[U.size];simp,λk hk=>?_,by rw[U.os,E];rfl,by rw[U.tape,E];rfl,by rw[U.output,E];rfl⟩,by rw[e3];simp,λj=>?_⟩;grind [storeCells,Sem.run_bind,Result.andThen_ok]
  rw[U.other k hk,E];exact setRow_other w b k _ hk;grind
variable {v:Value}
theorem Uf{s:SV}(h:Of s=true)(E:Rel F own w s v):v.oneCell'=true:=by
 cases E <;>first|rfl|(exact mn (by assumption)) |(simp[Of]at h;done) |(rename_i x;cases x <;>first|rfl|(simp[Of]at h;done)) |(cases v <;>first|rfl|(simp[Of]at h;done))
theorem CA:∀ {l:List SV},u9 l=true->∀ (j:Nat) (s:SV),l[j]? =some s->Of s=true
 | [],_,j,s,h=>by simp at h
 |x::r,h,0,s,hs=>by grind [u9]
 |x::r,h,j+1,s,hs=>by simp[u9]at h hs;exact CA h.2 j s hs
variable {t:TypeId}{ti:TI}{Y:SV}{off:Nat}
theorem xI(ht:jg P t=some ti){U:Value}(X:Rel F own w Y U){xs:List SV}(hf:pg Y=some xs)(W:xs.length=ti.size)(O:∀ (j:Nat) (s:SV),xs[j]? =some s->∀ v,Rel F own w s v->v.oneCell'=true)
  {b:Nat} {cs:Array Value} {ty:TypeId} (hb:w.heap[b]? =some (.cells cs ty (0,0))) (hle:off+xs.length<=cs.size):
  ∃ E w',(Instr.storeAt t (.pointer (some ⟨b,off,none⟩)) U).run P w=.ok () w'/\arL b ty E w w'/\E.size=cs.size/\
   (∀ j,off<=j->j<off+xs.length->∃ u,E[j]? =some u/\∀ s,xs[j - off]? =some s->Rel F own w s u)/\(∀ j,¬ (off<=j/\j<off+xs.length)->E[j]? =cs[j]?):=by
 obtain⟨i,d,z,hi,hd',hz,hq,rfl⟩:=bV ht;obtain⟨f1,f2⟩:=Et X hf;obtain⟨E,w',q1,q2,q3,q4⟩:=jP (P:=P) (b:=b) (o:=off) (ty:=ty) U.cells.toList 0 w cs hb (by simp;omega) (λu hu=>by
  obtain⟨j,hj⟩:=ams hu;have hjl:j<U.cells.size:=by grind
  have V:=alP (l:=xs) (i:=j) (by omega);have:=O j _ V _ (f2 j _ V);simp_all)
 have hsz2:U.cells.size=i.size:=by rw[f1,W];rfl
 refine⟨E,w',by simp_all [Instr.storeAt,Instr.sureAddr,storeVar,dJ],q2,q3,λj h1 h2=>?_,λj h1=>?_⟩;simp_all <;>grind;grind
variable {bn:Own}{k:Tag}{o:Nat}{x:k.T}
theorem apB.put{w':World}(g:apK F own w bn w'){l:List k.T}{cs E:Array Value}(h:apB F own w k l o cs){i:Nat}(hi:i<l.length){xs:List SV}(hx:ou k (gK (cellsOf k (l.getD i (et k))) off xs)=some x)
  (hle:off+xs.length<=aa k)
  (hin:∀ j,o+i*aa k+off<=j->j<o+i*aa k+off+xs.length->∃ u,E[j]? =some u/\∀ s,xs[j - (o+i*aa k+off)]? =some s->Rel F own w s u)
  (V:∀ j,¬ (o+i*aa k+off<=j/\j<o+i*aa k+off+xs.length)->E[j]? =cs[j]?):apB F bn w' k (l.set i x) o E:=by
 intro W y hy j s Y;rw[anA]at hy;have hjl:j<aa k:=by grind [bG]
 by_cases O:i=W
 subst O;rw[if_pos rfl,if_pos hi]at hy;simp only[alK]at hy;subst hy;rw[mo hx]at Y;obtain⟨s0,X,e2⟩:=uw _ _ _ _ Y;rw[ow _ _ _ (by grind [bG])]at X;have fin:∀ u,Rel F own w s0 u->Rel F bn w' s u:=λu hu=>by
  rcases e2 with rfl| ⟨q,rfl⟩;exact hu.mono g;exact ox (hu.mono g)
 by_cases U:off<=j/\j<off+xs.length
 rw[if_pos U]at X;obtain⟨u,h1,h2⟩:=hin (o+i*aa k+j) (by omega) (by omega);grind
 rw[if_neg U]at X;obtain⟨h1,h2⟩:=h.get hi X;grind
 rw[if_neg O]at hy;obtain⟨u,h1,h2⟩:=h W y hy j s Y;refine⟨u,?_,h2.mono g⟩;rw[V];exact h1;rcases Nat.lt_or_gt_of_ne O with hlt|hlt;have:(i+1)*aa k<=W*aa k:=alX _ hlt;grind
 have:(W+1)*aa k<=i*aa k:=alX _ hlt;grind
variable {n:Nat}
theorem QA{cap i size m E:Nat}(h1:o+cap*size<=E)(h2:n<=cap)(O:i<n)(U:off+m<=size):o+i*size+off+m<=E:=by
 have V:(i+1)*size<=cap*size:=alX _ (by omega);grind
theorem apr.put{w':World}(g:apK F own w bn w'){l':List k.T}{b:Nat}(O:∀ c,c≠b->w'.heap[c]? =w.heap[c]?):
  ∀ {l:List (List k.T)} {vs:List Value} {bs:List Nat} {i:Nat},apr F own w k l vs bs->bs.Nodup->vs[i]? =some v->(∀ E,apm F own w k (l.getD i []) v E->b∈E)->(∀ E,apm F own w k (l.getD i []) v E->apm F bn w' k l' v E)->apr F bn w' k (l.set i l') vs bs
 | [],[],bs,i,_,_,h,_,_=>by simp at h
 |l::ls,u::vs,bs,0,⟨E,b2,h1,h0,h2,h3⟩,hn,h,hb,hr=>by
  simp at h;subst h;refine⟨E,b2,h1,h0,hr E h2,h3.carry g.apM λc hc=>O c λe=>?_⟩;grind
 |l::ls,u::vs,bs,i+1,⟨E,b2,h1,h0,h2,h3⟩,hn,h,hb,hr=>by
  rw[h1]at hn;have V:=hn;rw[amU]at hn;have h':vs[i]? =some v:=by simpa using h
  obtain⟨W,Y,q2,q3,X⟩:=h3.get h';have U:=hb W (by grind);exact⟨E,b2,h1,h0,h2.carry g.apM λc hc=>O c λe=>hn.2.2 _ hc _ (X b U) e,
   apr.put g O h3 hn.2.1 h' (λE hb1=>hb E (by grind)) λE hb1=>hr E (by grind)⟩
 | [],_::_,_,_,h,_,_,_,_=>h.elim|_::_,[],_,_,h,_,_,_,_=>h.elim
theorem Iu{l l':List SV}{xs:List SV}(V:ou k (gK l off xs)=some x)(hl:l.length=aa k)(X:off+xs.length<=aa k)(j:Nat)(s:SV)(W:xs[j]? =some s)(v:Value)(hv:Rel F own w s v):v.oneCell'=true:=by
 have Y:=(alM.1 W).1;have h1:(gK l off xs)[off+j]? =some s:=by
  simp_all [ow]
 have hc:=mo V;have E:off+j< (cellsOf k x).length:=by rw[bG];omega
 obtain⟨s1,h2⟩:∃ s1,(cellsOf k x)[off+j]? =some s1:=⟨_,alP E⟩;have U:=h2;rw[hc]at U;obtain⟨s0,O,e2⟩:=uw _ _ _ _ U;rw[h1]at O;simp only[alK]at O;subst O;have h4:Rel F own w s1 v:=by
  grind [ox]
 exact mn (JQ h2 h4)
theorem Sj{h:List Ob}(hp:Hp F own w h)(ht:jg P t=some ti){s sx:SV}{vx:Value}(hr:Rel F own w s v)(hrx:Rel F own w sx vx){r:OR}
  (E:rg ti.size h s (pg sx)=r) (U:r≠ .bad):
  ∃ ups,r=.eff True True ups .any/\∃ w',(Instr.storeAt t v vx).run P w=.ok () w'/\Step F own w (bb h ups) own w':=by
 cases hf:pg sx with
 |none=>rw[hf]at E;cases s <;>exact absurd E.symm U
 |some xs=>
 rw[hf]at E;cases hr with
 |ptr h1 h2=>
  rename_i id off b hd;simp only[rg]at E;cases hb:Nat.beq (sz xs) ti.size with
  |false=>grind
  |true=>
  rw[hb]at E;simp only[cond_true]at E;cases ho:ap h id with
  |cells l=>
   rw[ho]at E;simp only[Oh]at E;cases hc:Nat.ble (off+sz xs) (sz l)&&u9 xs with
   |false=>grind
   |true=>
   rw[hc]at E;simp only[cond_true]at E;subst E;simp only[alG,qF]at hc hb;have hsz:=alH hb;have V:=Y2 hc.1;obtain⟨hd',e0,b',cs,ty,e1,e2,e3,e4,e5⟩:=hp.at ho rfl;rw[h1]at e0;cases e0;rw[h2]at e1;cases e1;obtain⟨Y,w',q1,O,q3,q4,q5⟩:=xI (P:=P) ht hrx hf hsz (λj s W v hv=>Uf (CA hc.2 j s W) hv) (off:=off) e3 (by omega);refine⟨_,rfl,w',q1,pu hp h1 (by simp[e2]) O.size O.other O.os O.tape O.output _ λg=>⟨b,Y,ty,h2,e2,O.here,by rw[q3,e4,nC],λj s W=>?_⟩⟩;rw[ow _ _ _ V]at W;by_cases hjr:off<=j/\j<off+xs.length
   rw[if_pos hjr]at W;obtain⟨u,k1,k2⟩:=q4 j hjr.1 hjr.2;have:=(k2 s W).mono g;simp_all;rw[if_neg hjr]at W;have:=(e5 j s W).mono g;simp_all
  |_=>rw[ho]at E;exact absurd E.symm U
 |rp h1 h2 h3=>
  rename_i X id off n cap b o i hd;simp only[rg]at E;cases hb:Nat.beq (sz xs) ti.size with
  |false=>grind
  |true=>
  rw[hb]at E;simp only[cond_true]at E;cases ho:ap h id with
  |row k l=>
   rw[ho]at E;simp only[Oi]at E;cases hc:Nat.beq X (aa k)&&Nat.ble (off+sz xs) X with
   |false=>grind
   |true=>
   rw[hc]at E;simp only[cond_true]at E;simp only[alG,qF]at hc hb;have hsz:=alH hb;have hszt:=alH hc.1;have V:=Y2 hc.2;subst hszt;cases hx:ou k (gK (cellsOf k (l.getD i.toNat (et k))) off xs)with
   |none=>rw[hx]at E;exact absurd E.symm U
   |some x=>
   rw[hx]at E;simp only[Og]at E;subst E;obtain⟨hd',e0,e⟩:=hp.at ho rfl;rw[h1]at e0;cases e0;rcases e with⟨a,e1,_⟩ | ⟨b',o',cap',cs,ty,e1,e2,e3,e4,e5,e6,e7⟩;grind
   have e1':=e1;rw[h2]at e1;simp only[amF,alK,am6]at e1;obtain⟨⟨rfl,rfl,_⟩,rfl,rfl⟩:=e1;obtain⟨Y,w',q1,O,q3,q4,q5⟩:=xI (P:=P) ht hrx hf hsz (λj s W v hv=>Iu (l':=[]) hx (bG _ _) V j s W v hv) e3 (QA e4 e5 h3 V);refine⟨_,rfl,w',q1,pu hp h1 (by simp[e2]) O.size O.other O.os O.tape O.output _ λg=>.inr ⟨b,o,cap,Y,ty,by grind,e2,O.here,by omega,by grind,by grind,e7.put g h3 hx V q4 q5⟩⟩
  |_=>rw[ho]at E;exact absurd E.symm U
 |gp h1 h2 h3=>
  rename_i X id off n cap b o i j hd;simp only[rg]at E;cases hb:Nat.beq (sz xs) ti.size with
  |false=>grind
  |true=>
  rw[hb]at E;simp only[cond_true]at E;cases ho:ap h id with
  |apw k l=>
   rw[ho]at E;simp only[Oj]at E;cases hc:Nat.beq X (aa k)&&Nat.ble (off+sz xs) X with
   |false=>grind
   |true=>
   rw[hc]at E;simp only[cond_true]at E;simp only[alG,qF]at hc hb;have hsz:=alH hb;have hszt:=alH hc.1;have V:=Y2 hc.2;subst hszt;cases hx:ou k (gK (cellsOf k ((l.getD i.toNat []).getD j.toNat (et k))) off xs)with
   |none=>rw[hx]at E;exact absurd E.symm U
   |some x=>
   rw[hx]at E;simp only[JA]at E;subst E;obtain⟨hd',e0,e⟩:=hp.at ho rfl;rw[h1]at e0;cases e0;rcases e with⟨_,_,e1,_⟩ | ⟨b',o',cap',cs,ty,bs,e1,e2,e3,e4,e5,e6,e7,e8,e9⟩;grind
   obtain⟨b1,k1,k2,k3,k4⟩:=e9.get h2;have hrow:∀ b1,apm F own w k (l.getD i.toNat []) (.slice (some ⟨b,o,none⟩) n cap) b1->∃ cs ty,b1=[b]/\n=(l.getD i.toNat []).length/\w.heap[b]? =some (.cells cs ty (0,0))/\o+cap*aa k<=cs.size/\(l.getD i.toNat []).length<=cap/\(l.getD i.toNat []).length<=aH/\apB F own w k (l.getD i.toNat []) o cs:=by
    rintro b1 (⟨a,m1,_⟩ | ⟨b2,o2,cap2,cs2,ty2,m1,m2,m3,m4,m5,m6,m7⟩) <;>grind
   obtain⟨cs2,ty2,m1,rfl,m3,m4,m5,m6,m7⟩:=hrow b1 k3;obtain⟨Y,w',q1,O,q3,q4,q5⟩:=xI (P:=P) ht hrx hf hsz (λj s W v hv=>Iu (l':=[]) hx (bG _ _) V j s W v hv) m3 (QA m4 m5 h3 V);have hbb:b∈hd.bs:=by grind
   have U:b'≠b:=λe=>by
    grind
   refine⟨_,rfl,w',q1,pu hp h1 hbb O.size O.other O.os O.tape O.output _ λg=>.inr ⟨b',o',cap',cs,ty,bs,by grind,e2,e3,by rw[O.other b' U];exact e4,by omega,by grind,by grind,e8,?_⟩⟩;rw[e2,ami]at e3;refine e9.put g O.other e3.2 h2 (λb1 hb1=>?_) λb1 hb1=>?_;grind
   obtain⟨cs3,ty3,rfl,_,n3,n4,n5,n6,n7⟩:=hrow b1 hb1;rw[m3]at n3;cases n3;exact .inr ⟨b,o,cap,Y,ty2,by simp,rfl,O.here,by omega,by grind,by grind,m7.put g h3 hx V q4 q5⟩
  |_=>rw[ho]at E;exact absurd E.symm U
 |_=>simp only[rg]at E;exact absurd E.symm U
theorem vh(E:cq (P.underlying t)≠0){xs:Array Value}(O:n<xs.size):(part t xs n).run P w=.ok (xs.getD n undef) w:=by
 have:(isAgg t).run P w=.ok false w:=by
  unfold isAgg;cases hd:P.underlying t with
  |none=>grind [cq]|some d=>rw[hd]at E;cases d <;>simp[cq]at E <;>simp[run_underlying hd]
 simp_all [part]
theorem OG{W:SV}{X vy:Value}(V:Rel F own w W X)(hy:Rel F own w Y vy){b:Bool}(h:eqV (cq (P.underlying t)) W Y=some b)(d:Nat):(Op.equalIn (d+1) t X vy).run P w=.ok b w:=by
 unfold eqV at h;split at h
 rename_i k a k' c;have ex:=cG V;have O:=cG hy;subst ex;subst O;cases E:Nat.beq (cq (P.underlying t)) 1&&Nat.beq (kN k) (kN k')with
 |false=>grind
 |true=>
  rw[E]at h;simp only[cond_true,alK]at h;subst h;simp only[alG]at E;have hk:=Ow E.2;subst hk;have hc:=alH E.1;cases hd:P.underlying t with
  |none=>grind [cq]
  |some U=>
   rw[hd]at hc;cases U <;>simp[cq]at hc;simp[Op.equalIn,run_underlying hd]
 rename_i a c;have ex:=cG V;have O:=cG hy;subst ex;subst O;cases E:Nat.beq (cq (P.underlying t)) 2 with
 |false=>grind
 |true=>
  rw[E]at h;simp only[cond_true,alK]at h;subst h;have hc:=alH E;cases hd:P.underlying t with
  |none=>grind [cq]
  |some U=>
   rw[hd]at hc;cases U <;>simp[cq]at hc;simp[Op.equalIn,run_underlying hd]
 rename_i a c;have ex:=cG V;have O:=cG hy;subst ex;subst O;cases E:Nat.beq (cq (P.underlying t)) 3 with
 |false=>grind
 |true=>
  rw[E]at h;simp only[cond_true,alK]at h;subst h;have hc:=alH E;cases hd:P.underlying t with
  |none=>grind [cq]
  |some U=>
   rw[hd]at hc;cases U <;>simp[cq]at hc;simp[Op.equalIn,run_underlying hd]
 cases h
theorem wN {d:Nat}:∀ (fs:List Field) (n:Nat) (O E:List SV) (xs U:Array Value) (b:Bool),eqFields P n fs=true->eqL (fs.map λf=>cq (P.underlying f.type)) O E=some b->n+O.length<=xs.size->n+E.length<=U.size->
  (∀ (j:Nat) (s:SV),O[j]? =some s->Rel F own w s (xs.getD (n+j) undef))->(∀ (j:Nat) (s:SV),E[j]? =some s->Rel F own w s (U.getD (n+j) undef))->
  (Op.eqFields (d+1) xs U fs).run P w=.ok b w
 | [],n,O,E,xs,U,b,_,h,_,_,_,_=>by
  cases O <;>cases E <;>simp[eqL]at h;simp_all [Op.eqFields]
 |f::fs,n,O,E,xs,U,b,W,h,h1,h2,h3,h4=>by
  simp only[eqFields,alG]at W;obtain⟨⟨⟨q1,q2⟩,q3⟩,q4⟩:=W;have hn:f.name≠ "_":=by grind
  have ho:f.offset=n:=alH q2;have hc:cq (P.underlying f.type)≠0:=by simp_all <;>grind
  cases O with
  |nil=>simp[eqL]at h
  |cons x O=>
   cases E with
   |nil=>simp[eqL]at h
   |cons y E=>
    simp only[amu,eqL]at h;cases V:eqV (cq (P.underlying f.type)) x y with
    |none=>grind [yY]
    |some b1=>
     cases Y:eqL (fs.map λf=>cq (P.underlying f.type)) O E with
     |none=>grind [yY]
     |some b2=>
      rw[V,Y]at h;simp only[yY,alK]at h;subst h;simp only[alL]at h1 h2;have e1:=vh (P:=P) (w:=w) hc (xs:=xs) (n:=n) (by omega);have e2:=vh (P:=P) (w:=w) hc (xs:=U) (n:=n) (by omega);have X:=OG (P:=P) (h3 0 x rfl) (h4 0 y rfl) V d;simp only[amK]at X;simp only[Op.eqFields,if_pos hn,ho,al9,e1,e2,alY,X];cases b1 with
      |false=>simp
      |true=>
       have ih:=wN (d:=d) fs (n+1) O E xs U b2 q4 Y (by omega) (by omega) (λj s hj=>by have:=h3 (j+1) s (by grind);grind) (λj s hj=>by have:=h4 (j+1) s (by grind);grind);grind
variable {O W:List SV}{E:Array Value}
theorem L6{fs:Array Field}(hd:P.underlying t=some (.struct fs)){xs:Array Value}(Y:apx F own w O xs)(hy:apx F own w W E){b:Bool}
  (hc:nO P t (.struct fs)≠[]) (h:eqL (nO P t (.struct fs)) O W=some b):(Op.equal t (.agg xs) (.agg E)).run P w=.ok b w/\P.eqGuardType P.depth t=false:=by
 simp only[nO]at hc h;cases U:!P.stoodInHeld t&& !P.eqGuardType P.depth t&&eqFields P 0 fs.toList with
 |false=>grind
 |true=>
  rw[U]at h;simp only[cond_true]at h;simp only[alG,al0]at U;obtain⟨⟨q1,q2⟩,q3⟩:=U;refine⟨?_,q2⟩;have X:P.fieldsOf t=fs:=by simp[Program.fieldsOf,hd]
  unfold Op.equal Op.maxDepth;rw[run_equalIn_struct w 9999 t xs E (by grind) q1,X];exact wN (P:=P) (d:=9998) fs.toList 0 O W xs E b q3 h (by rw[Y.1];omega) (by rw[hy.1];omega) (λj s V=>by simpa using Y.2 j s V) (λj s V=>by simpa using hy.2 j s V)
theorem QB:∀ {E bs:List Nat} {l m:List SV} {b:Bool},eqL (E++bs) l m=some b->∃ U O,eqL E (l.take E.length) (m.take E.length)=some U/\eqL bs (l.drop E.length) (m.drop E.length)=some O/\b=(U&&O)/\E.length<=l.length/\E.length<=m.length
 | [],bs,l,m,b,h=>⟨true,b,by simp[eqL],by simpa using h,by simp,by simp,by simp⟩
 |c::E,bs,[],m,b,h=>by simp[eqL]at h
 |c::E,bs,x::l,[],b,h=>by simp[eqL]at h
 |c::E,bs,x::l,y::m,b,h=>by
  simp only[al7,eqL]at h;cases W:eqV c x y with
  |none=>grind [yY]
  |some b0=>
   cases V:eqL (E++bs) l m with
   |none=>grind [yY]
   |some Y=>
    rw[W,V]at h;simp only[yY,alK]at h;obtain⟨U,O,e1,e2,e3,X,e5⟩:=QB V;grind [eqL,yY]
theorem Ug{lx Y:List SV}{xs ys:Array Value}{b:Bool}(h:eqL (qB P t) lx Y=some b)(hp:0< (qB P t).length)(V:lx.length=(qB P t).length)(U:Y.length=(qB P t).length)(h1:n+lx.length<=xs.size)(h2:n+Y.length<=ys.size)
  (h3:∀ (j:Nat) (s:SV),lx[j]? =some s->Rel F own w s (xs.getD (n+j) undef)) (h4:∀ (j:Nat) (s:SV),Y[j]? =some s->Rel F own w s (ys.getD (n+j) undef)) (d:Nat):
  ∃ vx vy,(part t xs n).run P w=.ok vx w/\(part t ys n).run P w=.ok vy w/\(Op.equalIn (d+2) t vx vy).run P w=.ok b w:=by
 by_cases hst:∃ E,P.underlying t=some (.struct E)
 obtain⟨E,hd⟩:=hst;have e:qB P t=bif !P.stoodInHeld t&&eqFields P 0 E.toList&&Nat.beq (nX P t) E.size&&(P.info? t).isSome then E.toList.map λf=>cq (P.underlying f.type)else []:=by grind [qB]
 cases hb:!P.stoodInHeld t&&eqFields P 0 E.toList&&Nat.beq (nX P t) E.size&&(P.info? t).isSome with
 |false=>grind
 |true=>
  rw[hb]at e;simp only[cond_true]at e;simp only[alG,al0]at hb;obtain⟨⟨⟨q1,q2⟩,q3⟩,q4⟩:=hb;have hsz:=alH q3;obtain⟨i,hi⟩:=anM.1 q4;have hszi:i.size=E.size:=by grind [nX]
  have hlen:(qB P t).length=E.size:=by rw[e];simp
  have O:∀ X:Array Value,(part t X n).run P w=.ok (.agg (X.extract n (n+i.size))) w:=λX=>by
   simp_all [part,xG,ka,dJ]
  have W:∀ (X:Array Value) (l:List SV),l.length=E.size->n+l.length<=X.size->(∀ (j:Nat) (s:SV),l[j]? =some s->Rel F own w s (X.getD (n+j) undef))->∀ (j:Nat) (s:SV),l[j]? =some s->Rel F own w s ((X.extract n (n+i.size)).getD (0+j) undef):=λX l hl hz hr j s hj=>by
   grind [tO]
  refine⟨_,_,O xs,O ys,?_⟩;have hfo:P.fieldsOf t=E:=by simp[Program.fieldsOf,hd]
  rw[run_equalIn_struct w (d+1) t _ _ (by grind) q1,hfo];rw[e]at h;rw[hlen]at V U;exact wN (P:=P) (d:=d) E.toList 0 lx Y _ _ b q2 h (by simp;omega) (by simp;omega) (W xs lx V h1 h3) (W ys Y U h2 h4)
 have e:qB P t=bif Nat.blt 0 (cq (P.underlying t))then [cq (P.underlying t)]else []:=by
  grind [qB]
 cases hb:Nat.blt 0 (cq (P.underlying t))with
 |false=>grind
 |true=>
  rw[hb]at e;simp only[cond_true]at e;have hc:cq (P.underlying t)≠0:=by simp_all <;>grind
  rw[e]at h V U;match lx,Y,V,U with
  | [x],[y],_,_=>
   simp only[eqL]at h;cases hv:eqV (cq (P.underlying t)) x y with
   |none=>grind [yY]
   |some b1=>
    rw[hv]at h;simp only[yY,alK,aoh]at h;subst h;simp only[alL,alS]at h1 h2;have e3:=OG (P:=P) (h3 0 x rfl) (h4 0 y rfl) hv (d+1);simp only[amK]at e3;grind [vh]
theorem zY {d:Nat}:∀ (fs:List Field) (n:Nat) (O E:List SV) (xs U:Array Value) (b:Bool),um P n fs=true->eqL (fs.flatMap λf=>qB P f.type) O E=some b->n+O.length<=xs.size->n+E.length<=U.size->
  (∀ (j:Nat) (s:SV),O[j]? =some s->Rel F own w s (xs.getD (n+j) undef))->(∀ (j:Nat) (s:SV),E[j]? =some s->Rel F own w s (U.getD (n+j) undef))->
  (Op.eqFields (d+2) xs U fs).run P w=.ok b w
 | [],n,O,E,xs,U,b,_,h,_,_,_,_=>by
  cases O <;>cases E <;>simp[eqL]at h;simp_all [Op.eqFields]
 |f::fs,n,O,E,xs,U,b,W,h,h1,h2,h3,h4=>by
  simp only[um,alG]at W;obtain⟨⟨⟨q1,q2⟩,q3⟩,q4⟩:=W;have hn:f.name≠ "_":=by grind
  have ho:f.offset=n:=alH q2;have hc:0< (qB P f.type).length:=Y2 q3;simp only[al5]at h;obtain⟨b1,X,e1,e2,e3,e4,e5⟩:=QB h;subst e3;obtain⟨vx,vy,p1,p2,Y⟩:=Ug (P:=P) (n:=n) e1 hc (by simp;omega) (by simp;omega) (by simp;omega) (by simp;omega) (λj s V=>h3 j s (by grind)) (λj s V=>h4 j s (by grind)) d;simp only[Op.eqFields,if_pos hn,ho,al9,p1,p2,alY,Y];cases b1 with
  |false=>simp
  |true=>
   have ih:=zY (d:=d) fs (n+(qB P f.type).length) (O.drop (qB P f.type).length) (E.drop (qB P f.type).length) xs U X q4 e2 (by simp;omega) (by simp;omega) (λj s V=>by grind) (λj s V=>by grind);grind
theorem Sk{d:TypeDesc}(hd:P.underlying t=some d){xs:Array Value}(Y:apx F own w O xs)(hy:apx F own w W E){b:Bool}
  (hc:Jw P t d≠[]) (h:eqL (Jw P t d) O W=some b):(Op.equal t (.agg xs) (.agg E)).run P w=.ok b w/\P.eqGuardType P.depth t=false:=by
 cases d with
 |struct fs=>
  simp only[Jw]at hc h;cases U:!P.stoodInHeld t&& !P.eqGuardType P.depth t&&um P 0 fs.toList with
  |false=>grind
  |true=>
   rw[U]at h;simp only[cond_true]at h;simp only[alG,al0]at U;obtain⟨⟨q1,q2⟩,q3⟩:=U;refine⟨?_,q2⟩;have X:P.fieldsOf t=fs:=by simp[Program.fieldsOf,hd]
   unfold Op.equal Op.maxDepth;rw[run_equalIn_struct w 9999 t xs E (by grind) q1,X];exact zY (P:=P) (d:=9997) fs.toList 0 O W xs E b q3 h (by rw[Y.1];omega) (by rw[hy.1];omega) (λj s V=>by simpa using Y.2 j s V) (λj s V=>by simpa using hy.2 j s V)
 |_=>exact absurd rfl hc
end
section
variable {P:Program}{F:Nat->Prop}{own:Own}{w:World}
def Own.move (own:Own)(K:List Nat)(nx:Nat)(hd:Hd):Own:=λj=>if j=nx then some hd else if j∈K then(own j).map (λhd=>{ hd with bs:=[]})else own j
theorem j7 (nx:Nat)(E:Ob):∀ (K:List Nat) (h:List Ob) (j:Nat),nx ∉ K->(∀ id∈K,id<h.length)->
  ap (bb h (K.map (λid=>(id,Ob.dead))++[(nx,E)])) j=(if j=nx then E else if j∈K then .dead else ap h j)/\h.length<=(bb h (K.map (λid=>(id,Ob.dead))++[(nx,E)])).length/\nx< (bb h (K.map (λid=>(id,Ob.dead))++[(nx,E)])).length
 | [],h,j,_,_=>by
  simp only[amL,alR,bb,amw,if_false];refine⟨by simp_all [dy,eq_comm],?_,?_⟩ <;>rw[cA] <;>split <;>omega
 |id::K,h,j,V,Y=>by
  simp only[alV,not_or]at V;have O:=Y id (by simp);have U:(cm h id Ob.dead).length=h.length:=by rw[cA,if_pos O]
  obtain⟨X,q2,W⟩:=j7 nx E K (cm h id .dead) j V.2 (λi hi=>by grind);simp only[amu,al7,bb];refine⟨?_,by omega,W⟩;rw[X,dy];grind
variable {h:List Ob}
theorem kK(hp:Hp F own w h){nx:Nat}(hn:ap9 own h nx){w':World}(K:List Nat)(hK:∀ id∈K,∃ hd,own id=some hd)(hd':Hd)(ob:Ob)
  (hbs:∀ b∈hd'.bs,(∃ id∈K,∃ hd,own id=some hd/\b∈hd.bs)\/(w.heap.size<=b/\b<w'.heap.size))
  (hold:∀ b,b<w.heap.size->(¬ ∃ id∈K,∃ hd,own id=some hd/\b∈hd.bs)->w'.heap[b]? =w.heap[b]?) (hsz:w.heap.size<=w'.heap.size) (q2:w'.os=w.os) (q3:w'.tape=w.tape) (q4:w'.output=w.output)
  (hob:∀ bn,apK F own w bn w'->apF F bn w' hd' ob) (hnd:dx ob=false:=by rfl):Step F own w (bb h (K.map (λid=>(id,Ob.dead))++[(nx,ob)])) (own.move K nx hd') w':=by
 have hnK:nx ∉ K:=λE=>by obtain⟨hd,e⟩:=hK nx E;rw[hn.none]at e;cases e
 have V:∀ id∈K,id<h.length:=λid E=>by obtain⟨hd,e⟩:=hK id E;exact hp.dom _ _ e
 have fr:Fr { w:=w,own:=own} (own.move K nx hd') w':=by
  refine Fr.ap0 (λid hd h1=>?_) (λid hd b h1 h2=>?_) (λb hb hnb=>hold b hb λ⟨id,_,hd,e1,e2⟩ =>hnb ⟨id,hd,e1,e2⟩) hsz q2 q3 q4;have W:id≠nx:=λe=>by rw[e,hn.none]at h1;cases h1
  simp only[Own.move,if_neg W];by_cases E:id∈K
  exact⟨{ hd with bs:=[]},by simp[E,h1],rfl,rfl,rfl⟩;exact⟨hd,by simp[E,h1],.refl _⟩;grind [Own.move]
 refine⟨hp.upd fr.apS (λid=>id=nx\/id∈K) (j7 nx ob K h 0 hnK V).2.1 (λid O=>?_) (λid hd O h1=>?_) (λid O hd=>?_),fr,λid h1 h2=>?_⟩
 rotate_left 3
 grind [j7,Own.move]
 simp only[not_or]at O;refine⟨by grind [Own.move],by simp_all [j7],λhd b h1 h2=>hold b (hp.lt id hd b h1 h2) ?_⟩;rintro⟨X,E,U,e1,e2⟩;exact O.2 (hp.inj id X hd U b h1 e1 h2 e2▸E);simp only[Own.move]at h1;by_cases e:id=nx
 subst e;rw[if_pos rfl]at h1;cases h1;refine⟨(j7 _ ob K h 0 hnK V).2.2,λb hb=>?_⟩;rcases hbs b hb with⟨X,E,U,e1,e2⟩ |h3;refine⟨alT (hp.lt X U b e1 e2) hsz,hp.apart X U b e1 e2,λj hj W h4 h5=>?_⟩;simp only[Own.move,if_neg W]at h4;by_cases Y:j∈K
 grind
 rw[if_neg Y]at h4;exact Y (hp.inj j X hj U b h4 e1 h5 e2▸E);refine⟨h3.2,λhf=>by have:=hp.ao1 b hf;omega,λj hj W h4 h5=>?_⟩;simp only[Own.move,if_neg W]at h4;by_cases Y:j∈K
 grind
 rw[if_neg Y]at h4;have:=hp.lt j hj b h4 h5;omega;rw[if_neg e]at h1;have E:id∈K:=O.resolve_left e;rw[if_pos E]at h1;cases ho:own id with
 |none=>grind
 |some U=>
  rw[ho]at h1;simp at h1;subst h1;exact⟨alT (V id E) (j7 nx ob K h 0 hnK V).2.1,λb hb=>by simp at hb⟩
 rw[(j7 nx ob K h id hnK V).1]at hd |-;by_cases e:id=nx
 subst e;rw[if_pos rfl]at hd |-;exact⟨hd',by simp[Own.move],hob _ fr.apS⟩;rw[if_neg e]at hd;have E:id∈K:=O.resolve_left e;rw[if_pos E]at hd;cases hd
structure Src (P:Program)(F:Nat->Prop)(own:Own)(w:World)(k:Tag)(m:List k.T)(v:Value)(news:List Value):Prop where
 len:∃ a cap,v=.slice a m.length cap
 cells:∀ (w1:World),w1.heap=w.heap->(Builtin.firstCells (aa k) m.length v).run P w1=.ok news.toArray w1
 size:news.length=m.length*aa k
 rel:∀ (i:Nat) (x:k.T),m[i]? =some x->∀ (j:Nat) (s:SV),(cellsOf k x)[j]? =some s->∃ u,news[i*aa k+j]? =some u/\Rel F own w s u
variable {n:Nat}
theorem L7{size p:Nat}(h:p<n*size):p / size<n/\p % size<size/\p / size*size+p % size=p:=by
 have E:0<size:=by
  grind
 refine⟨(Nat.div_lt_iff_lt_mul E).2 h,anP _ E,?_⟩;grind [Nat.div_add_mod]
variable {k:Tag}{m:List k.T}{v:Value}
theorem Src.one{news:List Value}(h:Src P F own w k m v news):∀ u∈news,u.oneCell'=true:=by
 intro u U;obtain⟨p,O⟩:=ams U;have hlt:=(alM.1 O).1;rw[h.size]at hlt;obtain⟨h1,h2,V⟩:=L7 hlt;have hc:p % aa k< (cellsOf k (m.getD (p / aa k) (et k))).length:=by grind [bG]
 obtain⟨X,E,W⟩:=h.rel _ _ (sD h1) _ _ (alP hc);rw[V,O]at E;simp only[alK]at E;subst E;exact mn (JQ (alP hc) W)
theorem OH{l:List k.T}{b o cap:Nat}(hc:∀ (i:Nat) (x:k.T),l[i]? =some x->∀ (j:Nat) (s:SV),(cellsOf k x)[j]? =some s->∃ u,w.cell? ⟨b,o+i*aa k+j,none⟩=some u/\Rel F own w s u):
  ∃ news,Src P F own w k l (.slice (some ⟨b,o,none⟩) l.length cap) news:=by
 have key:∀ p,p<l.length*aa k->w.cell? ⟨b,o+p,none⟩=some ((w.cell? ⟨b,o+p,none⟩).getD undef):=by
  intro p X;obtain⟨h1,h2,h3⟩:=L7 X;have hl:p % aa k< (cellsOf k (l.getD (p / aa k) (et k))).length:=by grind [bG]
  obtain⟨u,Y,_⟩:=hc _ _ (sD h1) _ _ (alP hl);grind
 refine⟨(List.range (l.length*aa k)).map λp=>(w.cell? ⟨b,o+p,none⟩).getD undef,⟨_,_,rfl⟩,λw1 V=>?_,by simp,λi x hi j s O=>?_⟩;refine run_firstCells_some w1 _ _ _ _ _ _ (by simp) λj v O=>?_;grind [nD,ut]
 obtain⟨u,Y,W⟩:=hc i x hi j s O;have E:=(alM.1 hi).1;have U:j<aa k:=by grind [bG]
 have hlt:i*aa k+j<l.length*aa k:=by
  have:(i+1)*aa k<=l.length*aa k:=alX _ E;grind
 refine⟨u,?_,W⟩;rw[amB,List.getElem?_range hlt];grind
theorem zZ{a:Option Addr}{cap:Nat}:Src P F own w k [] (.slice a 0 cap) []:=
 ⟨⟨_,_,rfl⟩,λw1 _=>by cases a <;>simp[Builtin.firstCells,loadCells,loadCellsFrom],by simp,λi x h=>by simp at h⟩
theorem sE{k':Tag}{l:List k'.T}(h:zP k k' l=some m):∃ e:k'=k,m=e▸l:=by
 grind [zP]
theorem JV{l:List k.T}{bs:List Nat}(h:apm F own w k l v bs):∃ news,Src P F own w k l v news:=by
 rcases h with⟨a,rfl,rfl,_⟩ | ⟨b,o,cap,cs,ty,rfl,h2,W,X,Y,U,E⟩;exact⟨[],zZ⟩;exact OH λi x hi j s O=>by
  obtain⟨u,e1,V⟩:=E i x hi j s O;grind [dY]
theorem yF {α:Type}{l:List α}{a b i:Nat}{x:α}(h:((l.take b).drop a)[i]? =some x):l[a+i]? =some x/\a+i<b:=by
 grind
variable {l:List k.T}
theorem Uh{x:Value}{bs:List Nat}(h:apm F own w k l x bs){sz cap:Nat}{lo hi:Int}{a:Option Addr}(h2:aa6 x sz lo hi a)(hz:sz=aa k):
  ∃ news,Src P F own w k ((l.take hi.toNat).drop lo.toNat) (.slice a (hi.toNat - lo.toNat) cap) news:=by
 have nil:hi.toNat<=lo.toNat->∃ news,Src P F own w k ((l.take hi.toNat).drop lo.toNat) (.slice a (hi.toNat - lo.toNat) cap) news:=λV=>by
  have e:(l.take hi.toNat).drop lo.toNat=[]:=aou (by simp;omega);rw[e,show hi.toNat - lo.toNat=0 by omega];exact⟨[],zZ⟩
 rcases h2 with h2| ⟨b,o,n,c,rfl,h3,rfl⟩;exact nil h2;rcases h with⟨a,e,rfl,_⟩ | ⟨b',o',U,cs,ty,e,q2,q3,q4,q5,q6,Y⟩;grind
 cases e;have E:((l.take hi.toNat).drop lo.toNat).length=hi.toNat - lo.toNat:=by simp;omega
 rw[<-E];exact OH λi x O j s W=>by
  obtain⟨X,_⟩:=yF O;obtain⟨u,g1,g2⟩:=Y _ x X j s W;grind [dY]
theorem JW(hp:Hp F own w h){s:SV}(hr:Rel F own w s v)(E:ur k h s=some m):∃ news,Src P F own w k m v news:=by
 cases hr with
 |rs c h0 h0' h1 h2=>
  obtain⟨e,rfl⟩:=sE E;subst e;exact OH λi x hi j s Y=>⟨_,(h1 i x hi j s Y).2,h2 i x hi j s Y⟩
 |rs0=>
  obtain⟨e,rfl⟩:=sE E;subst e;exact⟨[],zZ⟩
 |e0=>simp[ur]at E;subst E;exact⟨[],zZ⟩
 |v x=>
  unfold ur at E;split at E
  grind
  rename_i V;cases V;simp at E;subst E;exact⟨[],zZ⟩;grind
  grind
  grind
  cases E
 |os h1 h2=>
  rename_i id hd;simp only[ur]at E;cases O:ap h id with
  |row k' l=>
   rw[O]at E;simp only[TS]at E;obtain⟨e,rfl⟩:=sE E;subst e;obtain⟨hd',e0,W⟩:=hp.at O rfl;rw[h1]at e0;cases e0;exact JV W
  |_=>rw[O]at E;cases E
 |vw h1 h2 U=>
  rename_i sz id cap lo hi hd a;simp only[ur]at E;cases O:ap h id with
  |row k' l=>
   rw[O]at E;simp only[aaW]at E;cases X:Nat.beq sz (aa k')with
   |false=>grind
   |true=>
    rw[X]at E;simp only[cond_true]at E;obtain⟨e,rfl⟩:=sE E;subst e;obtain⟨hd',e0,W⟩:=hp.at O rfl;rw[h1]at e0;cases e0;exact Uh W h2 (alH X)
  |_=>rw[O]at E;cases E
 |_=>simp[ur]at E
theorem rk (z:Array Value)(n:Nat):(Builtin.zeroCells z n).size=n*z.size:=by simp[Builtin.zeroCells]
variable {t t2 ty e:TypeId}{z:Value}{a0:Option Addr}{m:Nat}
theorem tP{e2:TypeId}{i:TypeInfo}(ht:P.underlying t=some (.slice e))(X:P.underlying t2=some (.slice e2))(hi:P.info? e=some i)(hz:i.zero=some z){cap:Nat}{olds:List Value}
  (O:∀ w1:World,w1.heap=w.heap->(Builtin.firstCells i.size n (.slice a0 n cap)).run P w1=.ok olds.toArray w1)   {news:List Value} (Y:∃ a c,v=.slice a m c) (E:∀ w1:World,w1.heap=w.heap->(Builtin.firstCells i.size m v).run P w1=.ok news.toArray w1)
  (hg:cap<n+m) (h63:n+m<=9223372036854775807) (U:(n+m)*i.bytes<=dI):
  (Builtin.append_ #[t,t2] ty #[.slice a0 n cap,v]).run P w=.ok (.slice (some ⟨w.heap.size,0,none⟩) (n+m) (grownCap w (n+m) cap e)) (w.drew.alloc (.cells (olds.toArray++news.toArray++Builtin.zeroCells z.cells (grownCap w (n+m) cap e - (n+m))) e)):=by
 obtain⟨a,c,rfl⟩:=Y;have hn:¬ (n+m<=cap):=by omega
 have V:¬ (9223372036854775807< ((n:Int)+(m:Int))):=by omega
 have W:¬ (281474976710656<Builtin.nextslicecap (n+m) cap*i.bytes):=by have:=growslice_fits hg U;omega
 have h1:=O w.drew rfl;have h2:=E w.drew rfl;simp[Builtin.append_,run_underlying ht,run_underlying X,sizeOf,typeInfo,zeroValue,hi,hz,Builtin.lenOf,hn,V,W,Question.forced,h1,h2,newRow,grownCap];grind
theorem wO{X:TypeId}{i:TypeInfo}(Y:P.underlying t=some (.slice e))(U:P.underlying t2=some (.slice X))(hi:P.info? e=some i){b o cap:Nat}{news:List Value}(V:∃ a c,v=.slice a m c)(E:(Builtin.firstCells i.size m v).run P w=.ok news.toArray w)
  (W:n+m<=cap) {w':World} (O:(storeCells ⟨b,o+n*i.size,none⟩ news 0).run P w=.ok () w'):
  (Builtin.append_ #[t,t2] ty #[.slice (some ⟨b,o,none⟩) n cap,v]).run P w=.ok (.slice (some ⟨b,o,none⟩) (n+m) cap) w':=by
 obtain⟨a,c,rfl⟩:=V;simp[Builtin.append_,run_underlying Y,run_underlying U,sizeOf,typeInfo,hi,Builtin.lenOf,W,E,nD,O]
theorem CB{V:TypeId}{i:TypeInfo}(W:P.underlying t=some (.slice e))(O:P.underlying t2=some (.slice V))(hi:P.info? e=some i){cap:Nat}(U:∃ a c,v=.slice a 0 c)(E:(Builtin.firstCells i.size 0 v).run P w=.ok #[] w):
  (Builtin.append_ #[t,t2] ty #[.slice a0 0 cap,v]).run P w=.ok (.slice a0 0 cap) w:=by
 obtain⟨a,c,rfl⟩:=U;cases a0 <;>simp[Builtin.append_,run_underlying W,run_underlying O,sizeOf,typeInfo,hi,Builtin.lenOf,E,storeCells]
def rM (w:World)(E O:Nat)(e:TypeId):E<=grownCap w E O e:=grownCap_ge w E O e
def X6 (P:Program)(F:Nat->Prop)(own:Own)(w:World)(k:Tag)(l m:List k.T)(v:Value)(bs:List Nat):Prop:=bs=[]/\m≠[]/\(∃ a,v=.slice a l.length l.length)/\∃ olds,Src P F own w k l v olds
theorem Sl(hp:Hp F own w h){nx:Nat}(hn:ap9 own h nx){Y:TypeId}{i:TypeInfo}(ht:P.underlying t=some (.slice e))(ht2:P.underlying t2=some (.slice Y))(hi:P.info? e=some i)(hz:i.zero=some z)(hzs:z.cells.size=i.size)(hk:i.size=aa k)(hby:1<=i.bytes)
  {m:List k.T} {u:Value} {bs:List Nat} (hrow:apm F own w k l v bs\/X6 P F own w k l m v bs) {K:List Nat} (hK:∀ id∈K,∃ hd,own id=some hd) (hKb:∀ b∈bs,∃ id∈K,∃ hd,own id=some hd/\b∈hd.bs) (hKo:∀ id∈K,∀ hd,own id=some hd->∀ b∈hd.bs,b∈bs)
  {news:List Value} (X:Src P F own w k m u news) (hfit:(l++m).length*i.bytes<=dI):
  (l++m).length<=aH/\∃ v' hd' w',(Builtin.append_ #[t,t2] ty #[v,u]).run P w=.ok v' w'/\hd'.v=v'/\pj v'=true/\Step F own w (bb h (K.map (λid=>(id,Ob.dead))++[(nx,.row k (l++m))])) (own.move K nx hd') w':=by
 have hlen:(l++m).length<=aH:=by
  have:(l++m).length<=(l++m).length*i.bytes:=amP _ hby;grind [dI,aH]
 refine⟨hlen,?_⟩;have h63:(l++m).length<=9223372036854775807:=by grind [aH]
 have O:=X.len;rw[alN]at hlen h63 hfit;have W:∀ (a0:Option Addr) (cap:Nat) (olds:List Value),v=.slice a0 l.length cap->cap<l.length+m.length->(∀ w1:World,w1.heap=w.heap->(Builtin.firstCells i.size l.length v).run P w1=.ok olds.toArray w1)->olds.length=l.length*aa k->
   (∀ (i:Nat) (x:k.T),l[i]? =some x->∀ (j:Nat) (s:SV),(cellsOf k x)[j]? =some s->∃ u,olds[i*aa k+j]? =some u/\Rel F own w s u)->
   ∃ v' hd' w',(Builtin.append_ #[t,t2] ty #[v,u]).run P w=.ok v' w'/\hd'.v=v'/\pj v'=true/\Step F own w (bb h (K.map (λid=>(id,Ob.dead))++[(nx,.row k (l++m))])) (own.move K nx hd') w':=by
  intro a0 cap olds hv hcap V hol ap6;rw[hv]at V;have E:=tP (P:=P) (ty:=ty) ht ht2 hi hz V O (by rw[hk];exact X.cells) hcap h63 hfit;rw[<-hv]at E;have hge:=rM w (l.length+m.length) cap e;let cs:=olds.toArray++news.toArray++Builtin.zeroCells z.cells (grownCap w (l.length+m.length) cap e - (l.length+m.length))
  have hcs:cs.size=grownCap w (l.length+m.length) cap e*aa k:=by
   simp only[cs,Array.size_append,anB,rk,hzs,hk,hol,X.size,<-aof];grind
  refine⟨_,⟨none,_,[],[w.heap.size]⟩,_,E,rfl,rfl,kK hp hn K hK _ _ (λb hb=>?_) (λb hb _=>?_) ?_ rfl rfl rfl λbn g=>?_⟩;simp_all;exact qD w.drew _ b hb;simp_all;refine .inr ⟨w.heap.size,0,grownCap w (l.length+m.length) cap e,cs,e,by simp,rfl,kz w.drew _,by omega,by grind,by grind,λq x hq j s hj=>?_⟩;have hjl:j<aa k:=by grind [bG]
  rw[alQ];rw[amC]at hq;split at hq
  rename_i hlt;obtain⟨u',e1,Y⟩:=ap6 q x hq j s hj;refine⟨u',?_,Y.mono g⟩;grind
  rename_i hlt;obtain⟨u',e1,Y⟩:=X.rel (q - l.length) x hq j s hj;refine⟨u',?_,Y.mono g⟩;have hb:=(alM.1 e1).1;have hqq:q*aa k+j=olds.length+((q - l.length)*aa k+j):=by
   rw[hol];have:q=l.length+(q - l.length):=by omega
   grind
  simp only[cs];simp_all [al6]
 rcases hrow with(⟨a,rfl,rfl,rfl⟩ | ⟨b,o,cap,cs,tyb,rfl,rfl,h3,h4,h5,h6,h7⟩) | ⟨rfl,hm,⟨a,hv⟩,olds,ho⟩
 rotate_left 2
 have:0<m.length:=amq.2 hm;exact W a l.length olds hv (by omega) (by rw[hk];exact ho.cells) ho.size ho.rel;by_cases hm:m=[]
 subst hm;have hnw:news=[]:=al1 (by simpa using X.size);subst hnw;have E:=CB (P:=P) (ty:=ty) ht ht2 hi (a0:=a) (cap:=0) O (by have:=X.cells w rfl;rw[hk];exact this);exact⟨_,⟨none,_,[],[]⟩,w,E,rfl,rfl,kK hp hn K hK _ _ (λb hb=>by simp at hb) (λ_ _ _=>rfl) (alJ _) rfl rfl rfl λbn g=>.inl ⟨a,rfl,rfl,rfl⟩⟩;have:0<m.length:=amq.2 hm;exact W a 0 [] rfl (by simp;omega) (λw1 _=>by cases a <;>simp[Builtin.firstCells,loadCells,loadCellsFrom]) (by simp) (λi x hx=>by simp at hx);by_cases U:l.length+m.length<=cap
 have hfits:o+l.length*aa k+news.length<=cs.size:=by
  rw[X.size];have:(l.length+m.length)*aa k<=cap*aa k:=alX _ U;grind
 obtain⟨cs',w',q1,q2,q3,q4⟩:=jP (P:=P) (b:=b) (o:=o+l.length*aa k) (ty:=tyb) news 0 w cs h3 (by omega) X.one;have E:=wO (P:=P) (ty:=ty) ht ht2 hi (b:=b) (o:=o) (n:=l.length) (cap:=cap) O (by have:=X.cells w rfl;rw[hk];exact this) U (w':=w') (by grind);refine⟨_,⟨none,_,[],[b]⟩,w',E,rfl,rfl,kK hp hn K hK _ _ (λb' hb'=>by grind) (λb' hb' hn'=>q2.other b' λe=>hn' (by simp_all)) (by rw[q2.size];omega) q2.os q2.tape q2.output λbn g=>?_⟩;refine .inr ⟨b,o,cap,cs',tyb,by simp,rfl,q2.here,by omega,by grind,by grind,λq x hq j s hj=>?_⟩;have hjl:j<aa k:=by grind [bG]
 rw[amC]at hq;split at hq
 rename_i hlt;obtain⟨u',e1,Y⟩:=h7 q x hq j s hj;refine⟨u',?_,Y.mono g⟩;have:(q+1)*aa k<=l.length*aa k:=alX _ hlt;grind
 rename_i hlt;obtain⟨u',e1,Y⟩:=X.rel (q - l.length) x hq j s hj;refine⟨u',?_,Y.mono g⟩;have hb:=(alM.1 e1).1;have hqq:o+q*aa k+j=o+l.length*aa k+0+((q - l.length)*aa k+j):=by
  have:q=l.length+(q - l.length):=by omega
  grind
 simp_all;obtain⟨olds,ho⟩:=JV (P:=P) (F:=F) (own:=own) (w:=w) (k:=k) (l:=l) (v:=.slice (some ⟨b,o,none⟩) l.length cap) (bs:=[b]) (.inr ⟨b,o,cap,cs,tyb,rfl,rfl,h3,h4,h5,h6,h7⟩);exact W (some ⟨b,o,none⟩) cap olds rfl (by omega) (by rw[hk];exact ho.cells) ho.size ho.rel
end
end Go.Sx
end
