/- Part of the proof that the law RefuseLess returns true and leaves its arguments as they were, for all arguments of bulk at most 1048576 (the Upto form). -/
import Derived.Test.YtaikmgjfkejlkaaGreatF101
import Derived.Laws.Entries
import Derived.Laws.Tables
import Derived.Laws.StructEq
import Derived.Laws.MakeOwn
import Derived.ChangeKeysEq
set_option linter.all false
set_option maxHeartbeats 4000000
set_option maxRecDepth 100000
section
namespace Go.Sx
open Go.RowKit
def nbl {n m:Nat}(h:Nat.ble n m=true):n<=m:=Nat.le_of_ble_eq_true h
theorem wz {k:Tag}{x:k.T}{j:Nat}{s:SV}(h:(cellsOf k x)[j]? =some s):(∃ y,s=.v y/\pr y=true)\/(∃ (k':Tag) (l:List k'.T),s=.rs k' l/\aoX k'<aoX k)\/(∃ (k' k2:Tag) (l:List (k'.T×k2.T)),s=.rm k' k2 l/\aoX k'<aoX k/\aoX k2<aoX k)\/∃ f,s=.fn f [] []/\aoX k≠0:=by
 have hm:=alH h;cases k <;>simp only[cellsOf,alD,amf,or_false]at hm <;>
  (repeat' (rcases hm with hm|hm)) <;>first|exact .inl ⟨_,rfl,rfl⟩ |exact .inr (.inl ⟨_,_,rfl,by decide⟩) |exact .inr (.inr (.inl ⟨_,_,_,rfl,by decide,by decide⟩)) |(cases x <;>first|exact .inl ⟨_,rfl,rfl⟩ |exact .inr (.inr (.inr ⟨_,rfl,by decide⟩)))
section
variable {P:Program}{F:Nat->Prop}{own:Own}{w:World}
theorem cK {x v:Value}(h:Rel F own w (.v x) v):v=x:=by cases h;rfl
theorem Jh {k:Tag}{x:k.T}{j:Nat}{s:SV}{u:Value}(h:(cellsOf k x)[j]? =some s)(E:Rel F own w s u):pr u=true:=by
 rcases wz h with⟨y,rfl,hy⟩ | ⟨k',l,rfl,_⟩ | ⟨k',k2,l,rfl,_⟩ | ⟨f,rfl,_⟩;grind [cK]
 cases E <;>rfl;cases E <;>rfl;cases E <;>rfl
def apm (F:Nat->Prop)(own:Own)(w:World)(k:Tag)(l:List k.T)(o:Nat)(cs:Array Value):Prop:=
 ∀ (i:Nat) (x:k.T),l[i]? =some x->∀ (j:Nat) (s:SV),(cellsOf k x)[j]? =some s->∃ u,cs[o+i*aa k+j]? =some u/\Rel F own w s u
def ao8 (F:Nat->Prop)(own:Own)(w:World)(k:Tag)(l:List k.T)(v:Value)(bs:List Nat):Prop:=
 (∃ a,v=.slice a 0 0/\l=[]/\bs=[])\/
 ∃ b o cap cs ty,v=.slice (some ⟨b,o,none⟩) l.length cap/\bs=[b]/\w.heap[b]? =some (.cells cs ty (0,0))/\o+cap*aa k<=cs.size/\l.length<=cap/\l.length<=aK/\apm F own w k l o cs
def apP (F:Nat->Prop)(own:Own)(w:World)(kk vk:Tag)(l:List (kk.T×vk.T))(es:Array MapEntry):Prop:=
 es.size=l.length/\∀ (i:Nat) (x:kk.T×vk.T),l[i]? =some x->∃ e,es[i]? =some e/\True/\Rel F own w (svT kk x.1) e.key/\Rel F own w (svT vk x.2) e.val
def eD (kk vk:Tag)(l:List (kk.T×vk.T)):Option (Nat×Option kk.T)->List (kk.T×vk.T)
 |some (_,some x) =>if(iC l x).isSome then l else l++[(x,eC vk)]|_=>l
theorem kg {kk E:Tag}{l:List (kk.T×E.T)}{p:Option (Nat×Option kk.T)}(h:noE p=true):eD kk E l p=l:=by
 cases p with
 |none=>rfl
 |some q=>obtain⟨i,q⟩:=q;cases q with
  |none=>rfl|some x=>cases h
def kD (es:Array MapEntry):List Nat:=es.toList.map (·.born)
def Stamped (es:Array MapEntry)(clock:Nat):Prop:=(kD es).Nodup/\∀ n∈kD es,n<clock
def stV (ss:List Nat)(clock:Nat):List Value:=.int .i64 clock::ss.map λn=>.int .i64 (n:Nat)
def ap9 (own:Own)(kk vk:Tag)(l:List (kk.T×vk.T))(es:Array MapEntry)(clock:Nat):Option (Nat×Option kk.T)->Prop
 |none=>True|some (nx,some x) =>∃ hd2 e,own nx=some hd2/\es[ud kk vk l x]? =some e/\hd2.v=.int .i64 e.born|some (nx,none) =>∃ hd2,own nx=some hd2/\hd2.vs=stV (kD es) clock
def apb (F:Nat->Prop)(own:Own)(w:World)(k:Tag):List (List k.T)->List Value->List Nat->Prop
 | [],[],bs=>bs=[]|l::ls,v::vs,bs=>∃ b1 b2,bs=b1++b2/\pr v=true/\ao8 F own w k l v b1/\apb F own w k ls vs b2|_,_,_=>False
def aps (F:Nat->Prop)(own:Own)(w:World)(hd:Hd):Ob->Prop
 | .cells l=>∃ b cs ty,hd.p=some b/\hd.bs=[b]/\w.heap[b]? =some (.cells cs ty (0,0))/\cs.size=l.length/\∀ (j:Nat) (s:SV),l[j]? =some s->Rel F own w s (cs.getD j undef)| .dead=>True| .row k l=>ao8 F own w k l hd.v hd.bs| .mp kk vk l apJ=>∃ b es clock,hd.v=.map (some b)/\hd.bs=[b]/\w.heap[b]? =some (.map es clock)/\apP F own w kk vk (eD kk vk l apJ) es/\Stamped es clock/\ap9 own kk vk l es clock apJ
 | .apg k l=>(hd.v=.slice none 0 0/\l=[]/\hd.vs=[]/\hd.bs=[])\/
   ∃ b o cap cs ty bs,hd.v=.slice (some ⟨b,o,none⟩) l.length cap/\hd.bs=b::bs/\hd.bs.Nodup/\w.heap[b]? =some (.cells cs ty (0,0))/\o+cap<=cs.size/\l.length<=cap/\l.length<=aK/\
    (∀ (i:Nat) (v:Value),hd.vs[i]? =some v->cs[o+i]? =some v)/\apb F own w k l hd.vs bs
 | .ab r=>hd.v=r.yv/\r.R (λb=>df F own b/\b ∉ hd.bs) hd.bs w
 | .raw o=>∃ b,hd.p=some b/\hd.bs=[b]/\w.heap[b]? =some o| .mi mid n left cur=>∃ b,hd.p=some b/\hd.bs=[b]/\∀ i,mid=some i->∃ (hdm:Hd) (bm:Nat) (seen:Array Nat) (c:Nat) (ss:List Nat),own i=some hdm/\hdm.v=.map (some bm)/\w.heap[b]? =some (.mapIter (some bm) c seen c)/\hd.vs=stV ss c/\ss.length=n/\left.Nodup/\(∀ k,k∈left↔∃ s,ss[k]? =some s/\¬s∈seen.toList)/\∀ j,cur=some j->∃ s,ss[j]? =some s/\seen.back? =some s| .fwd n=>∀ i,n=some i->∃ hd2,own i=some hd2/\hd2.v=hd.v/\pr hd.v=true| .fz k l=>Rel F own w (.rs k l) hd.v
variable {F':Nat->Prop}{bo:Own}{w':World}
variable {k:Tag}{l:List k.T}{cs:Array Value}
theorem apm.carry(g:apk F own w F' bo w'){o:Nat}(h:apm F own w k l o cs):apm F' bo w' k l o cs:=
 λi x hi j s E=>by obtain⟨u,h1,h2⟩:=h i x hi j s E;exact⟨u,h1,h2.carry g⟩
variable {v:Value}
theorem ao8.carry(g:apk F own w F' bo w'){bs:List Nat}(X:∀ b∈bs,w'.heap[b]? =w.heap[b]?)(h:ao8 F own w k l v bs):ao8 F' bo w' k l v bs:=by
 rcases h with h| ⟨b,o,cap,cs,ty,h1,h2,W,V,E,U,O⟩;exact .inl h;exact .inr ⟨b,o,cap,cs,ty,h1,h2,by grind,V,E,U,O.carry g⟩
theorem apb.carry(g:apk F own w F' bo w'):∀ {l:List (List k.T)} {vs:List Value} {bs:List Nat},(∀ b∈bs,w'.heap[b]? =w.heap[b]?)->apb F own w k l vs bs->apb F' bo w' k l vs bs
 | [],[],bs,_,h=>h
 |l::Y,v::vs,bs,O,⟨X,W,h1,U,h2,V⟩ =>⟨X,W,h1,U,h2.carry g λb E=>O b (by grind),apb.carry g (λb E=>O b (by grind)) V⟩
 | [],_::_,_,_,h=>h.elim|_::_,[],_,_,h=>h.elim
variable {es:Array MapEntry}
theorem apP.carry(g:apk F own w F' bo w'){kk E:Tag}{l:List (kk.T×E.T)}(h:apP F own w kk E l es):apP F' bo w' kk E l es:=
 ⟨h.1,λi x hi=>by obtain⟨e,h1,h2,U,O⟩:=h.2 i x hi;exact⟨e,h1,h2,U.carry g,O.carry g⟩⟩
theorem ap9.ids(g:∀ (id:Nat) (hd:Hd),own id=some hd->∃ hd',bo id=some hd'/\hd.like hd'){kk V:Tag}{l:List (kk.T×V.T)}{clock:Nat}{p:Option (Nat×Option kk.T)}(h:ap9 own kk V l es clock p):ap9 bo kk V l es clock p:=by
 cases p with
 |none=>trivial
 |some q=>
  obtain⟨i,q⟩:=q;cases q with
  |some x=>
   obtain⟨O,e,h1,h2,W⟩:=h;obtain⟨hd',E,U⟩:=g _ _ h1;exact⟨hd',e,E,h2,U.2.1.trans W⟩
  |none=>
   obtain⟨O,h1,h2⟩:=h;obtain⟨hd',E,U⟩:=g _ _ h1;exact⟨hd',E,U.2.2.trans h2⟩
theorem aps.carry (g:apk F own w F' bo w')(hsz:w.heap.size<=w'.heap.size){hd:Hd}(hb:∀ b∈hd.bs,w'.heap[b]? =w.heap[b]?){o:Ob}(h:aps F own w hd o):aps F' bo w' hd o:=by
 cases o with
 |cells l=>obtain⟨b,cs,ty,h1,h2,O,V,U⟩:=h;exact⟨b,cs,ty,h1,h2,by grind,V,λj s hj=>(U j s hj).carry g⟩
 |dead=>trivial|row k l=>exact ao8.carry g hb h
 |mp kk vk l apJ=>obtain⟨b,es,clock,h1,h2,O,V,U,h6⟩:=h;exact⟨b,es,clock,h1,h2,by grind,V.carry g,U,h6.ids g.ids⟩
 |apg k l=>
  rcases h with h| ⟨b,o,cap,cs,ty,bs,h1,h2,O,V,U,h6,h7,h8,h9⟩;exact .inl h;exact .inr ⟨b,o,cap,cs,ty,bs,h1,h2,O,by grind,U,h6,h7,h8,h9.carry g λb' hb'=>hb b' (by grind)⟩
 |ab r=>
  refine⟨h.1,r.loc _ _ _ w w' h.2 hsz (λb E W=>?_) (λb E W=>⟨?_,W.2⟩)⟩;by_cases hm:b∈hd.bs
  exact hb b hm;exact(g.keep b E λY=>W ⟨Y,hm⟩).2;exact al2 λY=>(g.keep b E Y).1 W.1
 |raw o=>obtain⟨b,h1,h2,O⟩:=h;exact⟨b,h1,h2,by grind⟩
 |mi mid n left cur=>
  obtain⟨b,h1,h2,O⟩:=h;refine⟨b,h1,h2,λi hi=>?_⟩;obtain⟨hdm,bm,seen,c,ss,X,k2,k3,k4⟩:=O i hi;obtain⟨hd',e1,e2⟩:=g.ids _ _ X;exact⟨hd',bm,seen,c,ss,e1,e2.2.1.trans k2,by grind,k4⟩
 |fwd n=>
  intro i hi;obtain⟨hd2,X,k2,k3⟩:=h i hi;obtain⟨hd',e1,e2⟩:=g.ids _ _ X;exact⟨hd',e1,e2.2.1.trans k2,k3⟩
 |fz k l=>exact Rel.carry g h
structure Hp (F:Nat->Prop)(own:Own)(w:World)(h:List Ob):Prop where
 dom:∀ (id:Nat) (hd:Hd),own id=some hd->id<h.length
 aoY:∀ b,F b->b<w.heap.size
 apart:∀ (id:Nat) (hd:Hd) (b:Nat),own id=some hd->b∈hd.bs->¬F b
 inj:∀ (i j:Nat) (hi hj:Hd) (b:Nat),own i=some hi->own j=some hj->b∈hi.bs->b∈hj.bs->i=j
 lt:∀ (id:Nat) (hd:Hd) (b:Nat),own id=some hd->b∈hd.bs->b<w.heap.size
 obs:∀ (id:Nat),dI (aq h id)=false->∃ hd,own id=some hd/\aps F own w hd (aq h id)
variable {h:List Ob}
theorem Hp.at(O:Hp F own w h){id:Nat}{o:Ob}(E:aq h id=o)(hd:dI o=false):∃ hd,own id=some hd/\aps F own w hd o:=by
 subst E;exact O.obs id hd
theorem Hp.upd{h':List Ob}(O:Hp F own w h)(g:apx F own w bo w')(U:Nat->Prop)(W:h.length<=h'.length)
  (same:∀ id,¬U id->bo id=own id/\aq h' id=aq h id/\∀ hd b,own id=some hd->b∈hd.bs->w'.heap[b]? =w.heap[b]?)
  (new:∀ id hd,U id->bo id=some hd->id<h'.length/\∀ b∈hd.bs,b<w'.heap.size/\¬F b/\∀ j X,j≠id->bo j=some X->b ∉ X.bs)
  (obs:∀ id,U id->dI (aq h' id)=false->∃ hd,bo id=some hd/\aps F bo w' hd (aq h' id)):Hp F bo w' h':=by
 refine⟨λid hd h1=>?_,λb hb=>alG (O.aoY b hb) g.size,λid hd b h1 h2=>?_,λi j hi X b h1 h2 h3 h4=>?_,λid hd b h1 h2=>?_,λid hd=>?_⟩;by_cases E:U id
 grind
 rw[(same id E).1]at h1;exact alG (O.dom id hd h1) W;by_cases E:U id
 grind
 rw[(same id E).1]at h1;exact O.apart id hd b h1 h2;by_cases hui:U i
 grind
 by_cases Y:U j
 grind
 rw[(same i hui).1]at h1;rw[(same j Y).1]at h2;exact O.inj i j hi X b h1 h2 h3 h4;by_cases E:U id
 grind
 rw[(same id E).1]at h1;exact alG (O.lt id hd b h1 h2) g.size;by_cases E:U id
 grind
 obtain⟨e1,e2,e3⟩:=same id E;rw[e2]at hd |-;obtain⟨V,q1,q2⟩:=O.obs id hd;exact⟨V,by grind,q2.carry g.apz g.size λb hb=>e3 V b q1 hb⟩
theorem Hp.apD(U:Hp F own w h)(g:apx F own w own w')(E:∀ (id:Nat) (hd:Hd) (b:Nat),own id=some hd->b∈hd.bs->w'.heap[b]? =w.heap[b]?):Hp F own w' h:=
 U.upd g (λ_=>False) (alw _) (λid _=>⟨rfl,rfl,λhd b h1 h2=>E id hd b h1 h2⟩) (λ_ _ O=>O.elim) (λ_ O=>O.elim)
theorem Hp.below(O:Hp F own w h)(E:Below w.heap.size w w'):Hp F own w' h:=
 O.apD (apx.below F own E) λid hd b h1 h2=>E.block b (O.lt id hd b h1 h2)
structure apX (own:Own)(h:List Ob)(nx:Nat):Prop where
 none:own nx=none
 dead:aq h nx=.dead
theorem Hp.nx(O:Hp F own w h):apX own h h.length:=by
 refine⟨?_,mT (alw _)⟩;cases E:own h.length with
 |none=>rfl|some hd=>exact absurd (O.dom _ _ E) (amw _)
def Own.set (own:Own)(id:Nat)(hd:Hd):Own:=λj=>if j=id then some hd else own j
theorem Own.apj (own:Own)(id:Nat)(hd:Hd):own.set id hd id=some hd:=by simp[Own.set]
theorem Own.apr (own:Own){id j:Nat}(hd:Hd)(h:j≠id):own.set id hd j=own j:=by simp[Own.set,h]
structure Step (F:Nat->Prop)(own:Own)(w:World)(h':List Ob)(bo:Own)(w':World):Prop where
 hp:Hp F bo w' h'
 fr:Fr { w:=w,own:=own} bo w'
 fresh:∀ id,own id=none->dI (aq h' id)=true->bo id=none
theorem ui(X:Hp F own w h){nx:Nat}(hn:apX own h nx){w1:World}(hw1:w1.heap=w.heap/\w1.os=w.os/\w1.tape=w.tape/\w1.output=w.output)(o:Obj)(ob:Ob)(hd:Hd)(Y:hd.bs=[w.heap.size])
  (hob:∀ bo:Own,apx F own w bo (w1.alloc o)->aps F bo (w1.alloc o) hd ob) (hnd:dI ob=false:=by rfl):Step F own w (cF h nx ob) (own.set nx hd) (w1.alloc o):=by
 obtain⟨q1,q2,q3,q4⟩:=hw1;have hheap:(w1.alloc o).heap=w.heap.push o:=by show w1.heap.push o=_;rw[q1]
 have U:∀ b,b<w.heap.size->(w1.alloc o).heap[b]? =w.heap[b]?:=λb V=>by grind
 have hsz:(w1.alloc o).heap.size=w.heap.size+1:=by grind
 have ids:∀ (id:Nat) (E:Hd),own id=some E->∃ hd',own.set nx hd id=some hd'/\E.like hd':=λid E h1=>by
  have W:id≠nx:=λe=>by rw[e,hn.none]at h1;cases h1
  exact⟨E,by grind [Own.apr],.refl _⟩
 have fr:Fr { w:=w,own:=own} (own.set nx hd) (w1.alloc o):=Fr.apM ids (λid E b h1 h2=>by
   grind [Own.apj,Own.apr]) (λb V _=>U b V) (by omega) q2 q3 q4
 have g:apx F own w (own.set nx hd) (w1.alloc o):=fr.apD;refine⟨X.upd g (· =nx) (by grind [cB]) (λid O=>⟨Own.apr _ _ O,by rw[dF,if_neg (λe=>O e.symm)],λE b h1 h2=>U b (X.lt id E b h1 h2)⟩) (λid E O h1=>?_) (λid O _=>?_),fr,λid h1 h2=>?_⟩
 rotate_left 2
 grind [dF,Own.apr]
 subst O;rw[Own.apj]at h1;cases h1;refine⟨by grind [cB],λb V=>?_⟩;rw[Y]at V;simp at V;subst V;refine⟨by omega,λhf=>amw _ (X.aoY _ hf),λj hj W h2 h3=>?_⟩;rw[Own.apr _ _ W]at h2;exact amw _ (X.lt j hj _ h2 h3);grind [Own.apj,dF]
theorem pt(V:Hp F own w h){id:Nat}{hd:Hd}(h1:own id=some hd){b:Nat}(hb:b∈hd.bs)(hsz:w'.heap.size=w.heap.size)(O:∀ k,k≠b->w'.heap[k]? =w.heap[k]?)(q2:w'.os=w.os)(q3:w'.tape=w.tape)(q4:w'.output=w.output)(ob:Ob)
  (hob:apx F own w own w'->aps F own w' hd ob):Step F own w (cF h id ob) own w':=by
 have hlt:=V.dom id hd h1;have fr:Fr { w:=w,own:=own} own w':=Fr.apM (λ_ E h=>⟨E,h,.refl _⟩) (λid E b h1 h2=>.inl ⟨id,E,h1,h2⟩) (λk _ hn=>O k λe=>hn ⟨id,hd,h1,e▸hb⟩) (by omega) q2 q3 q4;refine⟨V.upd fr.apD (· =id) (by rw[cB,if_pos hlt];omega) (λj W=>⟨rfl,by rw[dF,if_neg (λe=>W e.symm)],λE X h2 h3=>O X λe=>W (V.inj j id E hd X h2 h1 h3 (e▸hb))⟩) (λj E W h2=>?_) (λj W _=>?_),fr,λ_ h1 _=>h1⟩;subst W;rw[h1]at h2;cases h2;exact⟨by simp_all [cB],λX U=>⟨by rw[hsz];exact V.lt j hd X h1 U,V.apart j hd X h1 U,λi hi Y h3 h4=>Y (V.inj i j hi hd X h3 h1 h4 U)⟩⟩;subst W;refine⟨hd,h1,?_⟩;rw[dF,if_pos rfl];exact hob fr.apD
theorem HT(U:Hp F own w h){id:Nat}{hd:Hd}(h1:own id=some hd)(Y:Ob)(hob:aps F own w hd Y):Step F own w (cF h id Y) own w:=by
 have hlt:=U.dom id hd h1;have fr:Fr { w:=w,own:=own} own w:=Fr.apM (λ_ E h=>⟨E,h,.refl _⟩) (λid E b h1 h2=>.inl ⟨id,E,h1,h2⟩) (λ_ _ _=>rfl) (alw _) rfl rfl rfl;refine⟨U.upd fr.apD (· =id) (by rw[cB,if_pos hlt];omega) (λj V=>⟨rfl,by rw[dF,if_neg (λe=>V e.symm)],λ_ _ _ _=>rfl⟩) (λj E V h2=>?_) (λj V _=>?_),fr,λ_ h1 _=>h1⟩;subst V;rw[h1]at h2;cases h2;exact⟨by simp_all [cB],λX O=>⟨U.lt j hd X h1 O,U.apart j hd X h1 O,λi hi W h3 h4=>W (U.inj i j hi hd X h3 h1 h4 O)⟩⟩;simp_all [dF]
theorem PK {O E:List Nat}{c U:Nat}(h:stV O c=stV E U):c=U/\O=E:=by
 unfold stV at h;simp only[anb,Value.int.injEq,true_and]at h;refine⟨by omega,?_⟩;have h2:=h.2;clear h;induction O generalizing E with
 |nil=>simp_all|cons a r V=>cases E <;>grind
variable {t:TypeId}{ti:TI}
theorem bV(h:ca P t=some ti):∃ i d z,P.info? t=some i/\P.underlying t=some d/\i.zero=some z/\zq P d=true/\ti=dL P t i d:=by
 unfold ca at h;split at h
 rename_i i d hi hd;cases E:i.zero <;>grind;cases h
theorem dM{i:TypeInfo}(h:P.info? t=some i):(sizeOf t).run P w=.ok i.size w:=by
 simp[sizeOf,typeInfo,h]
theorem xp{d:TypeDesc}(h:P.underlying t=some d):(isAgg t).run P w=.ok (kf P t) w:=by
 simp only[isAgg,alV,run_underlying h,alK,kf,h];cases d <;>simp
theorem nD (b o n:Nat):Addr.add ⟨b,o,none⟩ n=⟨b,o+n,none⟩:=by grind [Addr.add]
variable {ty:TypeId}
theorem eE{b:Nat}{fr:Nat×Nat}(h:w.heap[b]? =some (.cells cs ty fr))(j:Nat):w.cell? ⟨b,j,none⟩=cs[j]?:=by
 simp[World.cell?,h]
theorem D1{b:Nat}(h:w.heap[b]? =some (.cells cs ty (0,0)))(j:Nat):w.frozen? ⟨b,j,none⟩=false:=by
 simp[World.frozen?,h]
variable {s':SV}
theorem zA(X:ca P t=some ti){l:List SV}{b o off:Nat}(c:Nat->Value)
  (hc:∀ (j:Nat) (s:SV),l[j]? =some s->w.cell? ⟨b,o+j,none⟩=some (c j)/\Rel F own w s (c j))  (E:qZ ti.agg ti.size l off=some s'):
  ∃ u,(loadVar t ⟨b,o+off,none⟩).run P w=.ok u w/\Rel F own w s' u:=by
 obtain⟨i,d,z,hi,hd,Y,hq,rfl⟩:=bV X;simp only[dL]at E;simp only[loadVar,alV,xp hd,alK];cases W:kf P t with
 |true=>
  simp only[qZ,W,cond_true,qC,Jg,Di]at E;cases O:Nat.ble (off+i.size) l.length with
  |false=>grind
  |true=>
   simp only[O,cond_true,alx]at E;subst E;have U:off+i.size<=l.length:=nbl O;simp only[if_true,alV,dM hi,alK];rw[run_loadCells w ⟨b,o+off,none⟩ i.size (λj=>c (off+j)) (λj V=>by
    have:=(hc (off+j) _ (alE (by omega))).1;grind [nD])]
   refine⟨_,rfl,.agg (by simp;omega) λj s V=>?_⟩;simp_all <;>grind
 |false=>
  simp_all [qZ,gH]
theorem uZ {o:Option SV}{s:SV}(h:uf o=.val s):o=some s:=by
 cases o with
 |none=>simp[uf]at h|some x=>grind [uf]
theorem sr {α:Type}{l:List α}{i:Nat}{d:α}(h:i<l.length):l[i]? =some (l.getD i d):=by grind
theorem apm.get{o:Nat}(h:apm F own w k l o cs){i:Nat}(hi:i<l.length){j:Nat}{s:SV}(E:(cellsOf k (l.getD i (eC k)))[j]? =some s):
  cs[o+i*aa k+j]? =some (cs.getD (o+i*aa k+j) undef)/\Rel F own w s (cs.getD (o+i*aa k+j) undef):=by
 obtain⟨u,h1,h2⟩:=h i _ (sr hi) j s E;simp_all
theorem apb.get:∀ {l:List (List k.T)} {vs:List Value} {bs:List Nat} {i:Nat} {v:Value},apb F own w k l vs bs->vs[i]? =some v->∃ E,pr v=true/\i<l.length/\ao8 F own w k (l.getD i []) v E/\∀ b∈E,b∈bs
 | [],[],bs,i,v,_,h=>by simp at h
 |l::ls,u::vs,bs,0,v,⟨E,b2,h1,h0,h2,h3⟩,h=>by grind
 |l::ls,u::vs,bs,i+1,v,⟨E,b2,h1,h0,h2,h3⟩,h=>by
  obtain⟨X,U,V,O,W⟩:=apb.get h3 (by simpa using h);grind
 | [],_::_,_,_,_,h,_=>h.elim|_::_,[],_,_,_,h,_=>h.elim
theorem apb.len:∀ {l:List (List k.T)} {vs:List Value} {bs:List Nat},apb F own w k l vs bs->vs.length=l.length
 | [],[],_,_=>rfl
 |l::U,u::vs,bs,⟨W,V,h1,O,h2,E⟩ =>by simp[apb.len E]
 | [],_::_,_,h=>h.elim|_::_,[],_,h=>h.elim
theorem Li(hp:Hp F own w h)(ht:ca P t=some ti){s:SV}(hr:Rel F own w s v)(E:qy ti h s=.val s'):
  ∃ u,(Instr.loadAt t v).run P w=.ok u w/\Rel F own w s' u:=by
 cases hr with
 |ptr h1 h2=>
  rename_i id off b hd;simp only[qy]at E;cases V:aq h id with
  |cells l=>
   rw[V]at E;have O:=uZ E;obtain⟨hd',X,b',cs,ty,U,e2,e3,e4,e5⟩:=hp.at V rfl;rw[h1]at X;cases X;rw[h2]at U;cases U;have:=zA (P:=P) (w:=w) (F:=F) (own:=own) (b:=b) (o:=0) (off:=off) ht (λj=>cs.getD j undef) (λj s hj=>by
    refine⟨?_,e5 j s hj⟩;have hjl:j<cs.size:=by grind
    rw[alF,eE e3];simp[hjl]) O
   grind [Instr.loadAt,Instr.sureAddr]
  |_=>rw[V]at E;simp[zt]at E
 |ep c h1 h2=>
  rename_i cells off b o;simp only[qy]at E;have O:=uZ E;have:=zA (P:=P) (w:=w) (F:=F) (own:=own) (b:=b) (o:=o) (off:=off) ht c (λj s hj=>⟨(h1 j s hj).2,h2 j s hj⟩) O;grind [Instr.loadAt,Instr.sureAddr]
 |rp h1 h2 h3=>
  rename_i W id off n cap b o i hd;simp only[qy]at E;cases V:aq h id with
  |row k l=>
   rw[V]at E;simp only[DI]at E;cases Y:Nat.beq W (aa k)with
   |false=>grind
   |true=>
    rw[Y]at E;have hsz:=alu Y;have O:=uZ E;obtain⟨hd',X,e⟩:=hp.at V rfl;rw[h1]at X;cases X;rcases e with⟨a,U,_⟩ | ⟨b',o',cap',cs,ty,U,e2,e3,e4,e5,e6,e7⟩;grind
    rw[h2]at U;simp only[ams,alx,amT]at U;obtain⟨⟨rfl,rfl,_⟩,rfl,rfl⟩:=U;have:=zA (P:=P) (w:=w) (F:=F) (own:=own) (b:=b) (o:=o+i.toNat*W) (off:=off) ht (λj=>cs.getD (o+i.toNat*aa k+j) undef) (λj s hj=>by
     have:=e7.get h3 hj;grind [eE]) O
    grind [Instr.loadAt,Instr.sureAddr]
  |apg k l=>
   rw[V]at E;simp only[DI]at E;cases Y:Nat.beq W 1&&Nat.beq off 0&& !ti.agg with
   |false=>grind
   |true=>
    rw[Y]at E;simp only[alt,alL]at Y;have hs1:=alu Y.1.1;have hs2:=alu Y.1.2;subst hs1;subst hs2;simp only[cond_true,OR.val.injEq]at E;subst E;obtain⟨hd',X,e⟩:=hp.at V rfl;rw[h1]at X;cases X;rcases e with⟨U,_⟩ | ⟨b',o',cap',cs,ty,bs,U,e2,e3,e4,e5,e6,e7,e8,e9⟩;grind
    rw[h2]at U;simp only[ams,alx,amT]at U;obtain⟨⟨rfl,rfl,_⟩,rfl,rfl⟩:=U;have hlen:=e9.len;have hv:hd.vs[i.toNat]? =some (hd.vs.getD i.toNat undef):=sr (by omega);obtain⟨b1,q1,q2,q3,q4⟩:=e9.get hv;refine⟨_,?_,.gr h1 hv q1⟩;obtain⟨i',d,z,hi,hdd,hz,hq,rfl⟩:=bV ht;have hcell:w.cell? ⟨b,o+i.toNat,none⟩=some (hd.vs.getD i.toNat undef):=by grind [eE]
    have hag:kf P t=false:=Y.2;simp_all [Instr.loadAt,Instr.sureAddr,loadVar,xp]
  |_=>rw[V]at E;simp[DI]at E
 |gp h1 h2 h3=>
  rename_i W id off n cap b o i j hd;simp only[qy]at E;cases V:aq h id with
  |apg k l=>
   rw[V]at E;simp only[AR]at E;cases Y:Nat.beq W (aa k)with
   |false=>grind
   |true=>
    rw[Y]at E;have hsz:=alu Y;have O:=uZ E;obtain⟨hd',X,e⟩:=hp.at V rfl;rw[h1]at X;cases X;rcases e with⟨_,_,U,_⟩ | ⟨b',o',cap',cs,ty,bs,U,e2,e3,e4,e5,e6,e7,e8,e9⟩;grind
    obtain⟨b1,q1,q2,q3,q4⟩:=e9.get h2;rcases q3 with⟨a,k1,_⟩ | ⟨b2,o2,cap2,cs2,ty2,k1,k2,k3,k4,k5,k6,k7⟩;grind
    simp only[ams,alx,amT]at k1;obtain⟨⟨rfl,rfl,_⟩,rfl,rfl⟩:=k1;have:=zA (P:=P) (w:=w) (F:=F) (own:=own) (b:=b) (o:=o+j.toNat*W) (off:=off) ht (λq=>cs2.getD (o+j.toNat*aa k+q) undef) (λq s hj=>by
     have:=k7.get h3 hj;grind [eE]) O
    grind [Instr.loadAt,Instr.sureAddr]
  |_=>rw[V]at E;simp[AR]at E
 |_=>simp[qy]at E
variable {f:Nat}
theorem PM(E:ca P t=some ti){x:Nat×Nat×Bool}(O:nth ti.fields f=some x):
  ∃ fs fd,P.underlying t=some (.struct fs)/\fs[f]? =some fd/\x=(fd.offset,nU P fd.type,kf P fd.type):=by
 obtain⟨i,d,z,hi,hd,U,V,rfl⟩:=bV E;simp only[dL,gH]at O;grind
theorem XZ{s:SV}{n:Nat}(O:Rel F own w s v)(h:AS n s=.val s'):
  ∃ b o,v=.pointer (some ⟨b,o,none⟩)/\Rel F own w s' (.pointer (some ⟨b,o+n,none⟩)):=by
 cases O with
 |ptr h1 h2=>simp only[AS,OR.val.injEq]at h;subst h;exact⟨_,_,rfl,.ptr h1 h2⟩
 |ep c h1 h2=>simp only[AS,OR.val.injEq]at h;subst h;exact⟨_,_,rfl,by rw[amF];exact .ep c h1 h2⟩
 |rp h1 h2 E=>simp only[AS,OR.val.injEq]at h;subst h;exact⟨_,_,rfl,by rw[amF];exact .rp h1 h2 E⟩
 |gp h1 h2 E=>simp only[AS,OR.val.injEq]at h;subst h;exact⟨_,_,rfl,by rw[amF];exact .gp h1 h2 E⟩
 |_=>simp[AS]at h
theorem Ji(W:ca P t=some ti){o n:Nat}{g:Bool}(V:nth ti.fields f=some (o,n,g))(hn:1<=n){s:SV}
  (hr:Rel F own w s v) (h:AS o s=.val s'):∃ u,(Instr.fieldAt t v f).run P w=.ok u w/\Rel F own w s' u:=by
 obtain⟨fs,fd,X,O,U⟩:=PM W V;obtain⟨b,q,rfl,Y⟩:=XZ hr h;simp only[am2]at U;obtain⟨rfl,rfl,rfl⟩:=U;refine⟨_,?_,Y⟩;have E:(sizeOf fd.type).run P w=.ok (nU P fd.type) w:=by
  grind [nU,dM]
 simp only[Instr.fieldAt,alV,run_underlying X,alK,O,Instr.sureAddr,amQ,fieldPlace,E];rw[if_neg (by omega)];simp[nD]
theorem RN(ht:ca P t=some ti){s:SV}(hr:Rel F own w s v)(h:sn (nth ti.fields f) (zr s)=.val s'):
  ∃ u,(Instr.field t v f).run P w=.ok u w/\Rel F own w s' u:=by
 cases hf:nth ti.fields f with
 |none=>grind [sn]
 |some x=>
  obtain⟨o,n,g⟩:=x;obtain⟨fs,fd,X,hfd,he⟩:=PM ht hf;simp only[am2]at he;obtain⟨rfl,rfl,rfl⟩:=he;obtain⟨i,d,z,hi,hd,hz,hq,rfl⟩:=bV ht;rw[hd]at X;cases X;have V:(P.info? fd.type).isSome/\(P.underlying fd.type).isSome:=by
   simp only[zq,al0,alt]at hq;grind
  obtain⟨fi,U⟩:=anv.1 V.1;obtain⟨fd',Y⟩:=anv.1 V.2;have key:∀ (l:List SV) (vs:Array Value),vs.size=l.length->(∀ (j:Nat) (s:SV),l[j]? =some s->Rel F own w s (vs.getD j undef))->sn (some (fd.offset,nU P fd.type,kf P fd.type)) (some l)=.val s'->
    ∃ u,(part fd.type vs fd.offset).run P w=.ok u w/\Rel F own w s' u:=by
   intro l vs hl W O;simp only[sn]at O;cases E:qZ (kf P fd.type) (nU P fd.type) l fd.offset with
   |none=>grind [uf]
   |some q=>
    simp only[E,uf,OR.val.injEq]at O;subst O;simp only[nU,U]at E;simp only[part,alV,xp Y,alK];cases ha:kf P fd.type with
    |true=>
     simp only[qZ,ha,cond_true,qC,Jg,Di]at E;cases hb:Nat.ble (fd.offset+fi.size) l.length with
     |false=>grind
     |true=>
      simp only[hb,cond_true,alx]at E;subst E;have hle:=nbl hb;simp only[if_true,alV,dM U,alK,amQ];refine⟨_,rfl,.agg (by simp;omega) λj s hj=>?_⟩;simp_all <;>grind
    |false=>
     simp only[qZ,ha,cond_false,gH]at E;have h1:=W _ _ E;have hlt:fd.offset<vs.size:=by grind
     refine⟨vs.getD fd.offset undef,?_,h1⟩;simp[hlt]
  cases hr with
  |agg h0 h1=>
   simp only[zr]at h;rw[hf]at h;obtain⟨u,X,hru⟩:=key _ _ h0 h1 h;simp_all [Instr.field,run_underlying,asAgg]
  |v x=>
   cases v with
   |agg cs=>
    simp only[zr]at h;rw[hf]at h;obtain⟨u,X,hru⟩:=key (cs.toList.map .v) cs (by simp) (λj s hj=>by
     simp at hj;obtain⟨z,hz,rfl⟩:=hj;simp[hz];exact .v _) h
    simp_all [Instr.field,run_underlying,asAgg]
   |_=>simp[zr,sn]at h
  |_=>simp[zr,sn]at h
end
section
variable {P:Program}{F:Nat->Prop}{own:Own}{w:World}
def tB (k:IntKind)(n:Int):(asIntOf (.int k n)).run P w=.ok (k,n) w:=rfl
variable {t e:TypeId}{E:TypeInfo}{o:Nat}{k:IntKind}
theorem qD(hd:P.underlying t=some (.slice e))(O:P.info? e=some E){b n cap:Nat}{i:Int}(U:0<=i)(h1:i.toNat<n):
  (Instr.indexAt t (.slice (some ⟨b,o,none⟩) n cap) (.int k i)).run P w=.ok (.pointer (some ⟨b,o+i.toNat*E.size,none⟩)) w:=by
 simp only[Instr.indexAt,alV,tB,alK,run_underlying hd,amQ];simp_all [dM,nD]
theorem AV{len:Nat}(hd:P.underlying t=some (.array len e))(O:P.info? e=some E){b:Nat}{i:Int}(hc:0<=i/\i< (len:Int)):
  (Instr.indexAt t (.pointer (some ⟨b,o,none⟩)) (.int k i)).run P w=.ok (.pointer (some ⟨b,o+i.toNat*E.size,none⟩)) w:=by
 simp only[Instr.indexAt,alV,tB,alK,run_underlying hd,Instr.sureAddr,amQ];simp_all [dM,nD]
theorem RO{h:List Ob}(hp:Hp F own w h){ti te:TI}(ht:ca P t=some ti)(hte:ca P ti.elem=some te){s si:SV}{v vi:Value}{r:OR}
  (hr:Rel F own w s v) (hri:Rel F own w si vi) (E:iv ti te.size h s si=r) (V:r≠ .bad):
  ∃ c s',r=.chk c s'/\(c->∃ u,(Instr.indexAt t v vi).run P w=.ok u w/\Rel F own w s' u):=by
 obtain⟨i,d,z,hi,hd,hz,hq,rfl⟩:=bV ht;obtain⟨ie,de,ze,hie,hde,hze,hqe,hte'⟩:=bV hte;have hes:te.size=ie.size:=by rw[hte'];rfl
 have key:∀ k n,si=.v (.int k n)->∃ c s',r=.chk c s'/\(c->∃ u,(Instr.indexAt t v (.int k n)).run P w=.ok u w/\Rel F own w s' u):=by
  rintro k n rfl;have slice:(dL P t i d).isSlice=true->∃ e,d=.slice e/\P.info? e=some ie:=λhs=>by
   cases d <;>simp[dL]at hs;grind [dL]
  have arr:(dL P t i d).apK=true->∃ len e,d=.array len e/\P.info? e=some ie/\(dL P t i d).len=len:=λhs=>by
   cases d <;>simp[dL]at hs;grind [dL]
  cases hr with
  |rs cf h0 h0' h1 h2=>
   rename_i X l b o cap;simp only[iv]at E;cases U:(dL P t i d).isSlice&&Nat.beq te.size (aa X)with
   |false=>grind
   |true=>
    rw[U]at E;simp only[cond_true]at E;simp only[alt]at U;obtain⟨e,rfl,O⟩:=slice U.1;have hsz:te.size=aa X:=alu U.2;refine⟨_,_,E.symm,λhc=>⟨_,qD hd O hc.1 (by omega),?_⟩⟩;have hlt:n.toNat<l.length:=by omega
    have:=Rel.ep (F:=F) (own:=own) (w:=w) (cells:=cellsOf X (l.getD n.toNat (eC X))) (off:=0) (b:=b) (o:=o+n.toNat*aa X) (cf n.toNat)
     (λj s hj=>h1 n.toNat _ (sr hlt) j s hj) (λj s hj=>h2 n.toNat _ (sr hlt) j s hj)
    grind
  |rs0=>
   rename_i X a cap;simp only[iv]at E;grind
  |os h1 h2=>
   rename_i id hdd;simp only[iv]at E;cases U:(dL P t i d).isSlice with
   |false=>grind
   |true=>
    rw[U]at E;simp only[cond_true]at E;obtain⟨e,rfl,O⟩:=slice U;cases Y:aq h id with
    |row X l=>
     rw[Y]at E;simp only[I3]at E;cases W:Nat.beq te.size (aa X)with
     |false=>grind
     |true=>
      rw[W]at E;simp only[cond_true]at E;obtain⟨hd',e0,e1⟩:=hp.at Y rfl;rw[h1]at e0;cases e0;refine⟨_,_,E.symm,λhc=>?_⟩;rcases e1 with⟨a,q1,rfl,_⟩ | ⟨b,o,cap,cs,ty,q1,q2,q3,q4,q5,q6,q7⟩;grind
      rw[q1];refine⟨_,qD hd O hc.1 (by omega),?_⟩;have:=Rel.rp (F:=F) (own:=own) (w:=w) (sz:=te.size) (off:=0) (i:=n) h1 q1 (by omega);grind
    |apg X l=>
     rw[Y]at E;simp only[I3]at E;cases W:Nat.beq te.size 1 with
     |false=>grind
     |true=>
      rw[W]at E;simp only[cond_true]at E;have hsz:=alu W;obtain⟨hd',e0,e1⟩:=hp.at Y rfl;rw[h1]at e0;cases e0;refine⟨_,_,E.symm,λhc=>?_⟩;rcases e1 with⟨q1,rfl,_⟩ | ⟨b,o,cap,cs,ty,bs,q1,q2,q3,q4,q5,q6,q7,q8,q9⟩;grind
      rw[q1];refine⟨_,qD hd O hc.1 (by omega),?_⟩;have:=Rel.rp (F:=F) (own:=own) (w:=w) (sz:=1) (off:=0) (i:=n) h1 q1 (by omega);grind
    |_=>rw[Y]at E;exact absurd E.symm V
  |gr h1 h2 h3=>
   rename_i id q hdd;simp only[iv]at E;cases U:(dL P t i d).isSlice with
   |false=>grind
   |true=>
    rw[U]at E;simp only[cond_true]at E;obtain⟨e,rfl,O⟩:=slice U;cases Y:aq h id with
    |apg X l=>
     rw[Y]at E;simp only[Nx]at E;cases W:Nat.beq te.size (aa X)with
     |false=>grind
     |true=>
      rw[W]at E;simp only[cond_true]at E;obtain⟨hd',e0,e1⟩:=hp.at Y rfl;rw[h1]at e0;cases e0;refine⟨_,_,E.symm,λhc=>?_⟩;rcases e1 with⟨_,_,q1,_⟩ | ⟨b,o,cap,cs,ty,bs,q1,q2,q3,q4,q5,q6,q7,q8,q9⟩;grind
      obtain⟨b1,k1,k2,k3,k4⟩:=q9.get h2;rcases k3 with⟨a,m1,m2,_⟩ | ⟨b2,o2,cap2,cs2,ty2,m1,m2,m3,m4,m5,m6,m7⟩;grind
      subst m1;refine⟨_,qD hd O hc.1 (by omega),?_⟩;have:=Rel.gp (F:=F) (own:=own) (w:=w) (sz:=te.size) (off:=0) (i:=q) (j:=n) h1 h2 (by omega);grind
    |_=>rw[Y]at E;exact absurd E.symm V
  |ls cf hz h0 h1 h2=>
   rename_i s m l b o cap;simp only[iv]at E;cases U:(dL P t i d).isSlice&&Nat.beq te.size s with
   |false=>grind
   |true=>
    rw[U]at E;simp only[cond_true]at E;simp only[alt]at U;obtain⟨e,rfl,O⟩:=slice U.1;have hsz:=alu U.2;unfold Ny at E;cases hx:Nat.ble 1 s&&Nat.ble (n.toNat*s+s) (sz l)with
    |false=>rw[hx]at E;exact absurd E.symm V
    |true=>
     rw[hx]at E;simp only[alt,qC]at hx;have g1:=nbl hx.1;have g2:=nbl hx.2;have hlt:n.toNat<m:=Nat.lt_of_mul_lt_mul_right (a:=s) (by omega);refine⟨_,_,E.symm,λhc=>⟨_,qD hd O hc hlt,?_⟩⟩;have:=Rel.ep (F:=F) (own:=own) (w:=w) (cells:=l) (off:=n.toNat*s) (b:=b) (o:=o) cf h1 h2;grind
  |ptr h1 h2=>
   simp only[iv]at E;cases U:(dL P t i d).apK with
   |false=>grind
   |true=>
    rw[U]at E;simp only[cond_true]at E;obtain⟨len,e,rfl,O,hl⟩:=arr U;exact⟨_,_,E.symm,λhc=>⟨_,AV hd O hc,by rw[<-hes];exact .ptr h1 h2⟩⟩
  |ep cf h1 h2=>
   simp only[iv]at E;cases U:(dL P t i d).apK with
   |false=>grind
   |true=>
    rw[U]at E;simp only[cond_true]at E;obtain⟨len,e,rfl,O,hl⟩:=arr U;exact⟨_,_,E.symm,λhc=>⟨_,AV hd O hc,by rw[<-hes,amF];exact .ep cf h1 h2⟩⟩
  |rp h1 h2 h3=>
   simp only[iv]at E;cases U:(dL P t i d).apK with
   |false=>grind
   |true=>
    rw[U]at E;simp only[cond_true]at E;obtain⟨len,e,rfl,O,hl⟩:=arr U;exact⟨_,_,E.symm,λhc=>⟨_,AV hd O hc,by rw[<-hes,amF];exact .rp h1 h2 h3⟩⟩
  |_=>simp only[iv]at E;exact absurd E.symm V
 cases hri with
 |v=>
  cases vi with
  |int k n=>grind
  |_=>cases s <;>first|(simp only[iv]at E;exact absurd E.symm V) |(exact absurd E.symm V)
 |_=>cases s <;>first|(simp only[iv]at E;exact absurd E.symm V) |(exact absurd E.symm V)
variable {k':IntKind}
theorem NN(h:Nat.beq (kN k) (kN k')=true):k=k':=by
 cases k <;>cases k' <;>simp[kN]at h <;>rfl
theorem Lj{op:BinOp}(h:Ca op k k'=true)(h1:op≠ .shl)(h2:op≠ .shr):k=k':=by
 cases op <;>simp only[Ca]at h <;>first|exact NN h|exact absurd rfl h1|grind
variable {a:Int}{ty:TypeId}
theorem RP{op:BinOp}{b:Int}{s:SV}(E:Ca op k k'=true)(h:ue op k a b=.val s):∃ u,(binOp op ty (.int k a) (.int k' b)).run P w=.ok u w/\s=.v u:=by
 by_cases h1:op=.shl
 grind [ue]
 by_cases h2:op=.shr
 grind [ue]
 obtain rfl:=Lj E h1 h2;cases op <;>simp[ue]at h <;>subst h <;>exact⟨_,by simp[binOp,Op.intArith,Op.intCmp,Op.intBits,af4,orI,af5,Pu],rfl⟩
theorem RQ{op:BinOp}{b:Int}{s:SV}{c:Prop}(O:Ca op k k'=true)(h:ue op k a b=.chk c s)(hc:c):∃ u,(binOp op ty (.int k a) (.int k' b)).run P w=.ok u w/\s=.v u:=by
 by_cases E:op=.shr
 subst E;simp only[ue,OR.chk.injEq]at h;obtain⟨rfl,rfl⟩:=h;refine⟨.int k (mr k a b),?_,rfl⟩;simp only[binOp];unfold Op.shift;rw[if_neg (Int.not_lt.2 hc)];rfl;by_cases h1:op=.shl
 subst h1;simp only[ue,OR.chk.injEq]at h;obtain⟨rfl,rfl⟩:=h;refine⟨.int k (af3 k a b),?_,rfl⟩;simp only[binOp];unfold Op.shift;rw[if_neg (Int.not_lt.2 hc)];rfl;obtain rfl:=Lj O h1 E;cases op <;>simp only[ue,OR.chk.injEq,reduceCtorEq]at h <;>first|exact absurd rfl E|exact absurd rfl h1|(obtain⟨rfl,rfl⟩:=h;exact⟨_,by simp[binOp,Op.intDiv,hc],rfl⟩)
theorem uj {k k':Tag}(h:Nat.beq (zm k) (zm k')=true):k=k':=by
 have h':=alu h;cases k <;>cases k' <;>first|rfl|(simp[zm]at h';done)
theorem Ce (op:BinOp)(t:TypeId)(x y:Operand)(k k':IntKind)(a b:Int):(eqGuard op t x y (.int k a) (.int k' b)).run P w=.ok () w:=by
 simp_all [eqGuard]
theorem NO{op:BinOp}{b:Int}{r:OR}(h:abt op (.v (.int k a)) (.v (.int k' b))=r)(E:r≠ .bad):Ca op k k'=true/\r=ue op k a b:=by
 grind [abt]
end
def api (F:Nat->Prop)(own:Own)(w:World)(l:List SV)(vs:Array Value):Prop:=vs.size=l.length/\∀ (j:Nat) (s:SV),l[j]? =some s->Rel F own w s (vs.getD j undef)
section
variable {P:Program}{F:Nat->Prop}{own:Own}{w:World}
theorem HU (off:Nat):∀ (l:List Value) (k:Nat) (cs:Array Value),off+k+l.length<=cs.size->
  ((l.zipIdx k).foldl (λ(cs:Array Value) (x:Value×Nat) =>cs.setIfInBounds (off+x.2) x.1) cs).size=cs.size/\
  ∀ j,((l.zipIdx k).foldl (λ(cs:Array Value) (x:Value×Nat) =>cs.setIfInBounds (off+x.2) x.1) cs)[j]? =if off+k<=j/\j<off+k+l.length then l[j - off - k]? else cs[j]?
 | [],k,cs,_=>by
  simp_all [if_neg]
 |x::xs,k,cs,h=>by
  simp only[aly]at h;obtain⟨h1,h2⟩:=HU off xs (k+1) (cs.setIfInBounds (off+k) x) (by simp;omega);simp only[List.zipIdx_cons,aon];grind
theorem Lk (v:Value)(off:Nat)(cs:Array Value)(h:off+v.cells.size<=cs.size):
  (v.cells.zipIdx.foldl (λcs (c,j) =>cs.setIfInBounds (off+j) c) cs).size=cs.size/\
  ∀ j,(v.cells.zipIdx.foldl (λcs (c,j) =>cs.setIfInBounds (off+j) c) cs)[j]? =if off<=j/\j<off+v.cells.size then v.cells[j - off]? else cs[j]?:=by
 have:=HU off v.cells.toList 0 cs (by simpa using h);grind [Array.toList_zipIdx]
theorem tC {vs ws:Array Value}{i j:Nat}(h:vs[i]? =ws[j]?):vs.getD i undef=ws.getD j undef:=by
 simp_all
theorem Dj {E place':Nat->Option (Nat×Nat)}(hpl:∀ i,place' i=E i):∀ (W:List (Nat×SV)) (vps:List (Nat×Value)) (cells l:List SV) (vs:Array Value),api F own w cells vs->
  (W.map (·.1)=vps.map (·.1))->(∀ (j:Nat) (x:Nat×SV) (y:Nat×Value),W[j]? =some x->vps[j]? =some y->Rel F own w x.2 y.2)->lI E cells W=some l->
  ∃ U,Instr.fill place' vs vps=some U/\api F own w l U
 | [],[],cells,l,vs,V,_,_,h=>by
  simp[lI]at h;subst h;exact⟨vs,rfl,V⟩
 | [],_::_,_,_,_,_,h,_,_=>by simp at h
 |_::_,[],_,_,_,_,h,_,_=>by simp at h
 |(i,s)::W,(i',v)::vps,cells,l,vs,V,X,O,h=>by
  simp only[amh,anb]at X;obtain⟨rfl,X⟩:=X;have h0:Rel F own w s v:=O 0 _ _ rfl rfl;simp only[lI]at h;cases hp:E i with
  |none=>grind
  |some os=>
   obtain⟨off,size⟩:=os;cases hf:pf s with
   |none=>grind
   |some xs=>
    simp only[hp,hf]at h;cases Y:Nat.beq (sz xs) size&&Nat.ble (off+size) (sz cells)with
    |false=>grind
    |true=>
     rw[Y]at h;simp only[cond_true]at h;simp only[alt,qC]at Y;have e1:xs.length=size:=alu Y.1;have e2:off+size<=cells.length:=nbl Y.2;obtain⟨f1,f2⟩:=D0 h0 hf;have hle:off+v.cells.size<=vs.size:=by rw[V.1];omega
     obtain⟨g1,g2⟩:=Lk v off vs hle;have hr':api F own w (gS cells off xs) (v.cells.zipIdx.foldl (λcs (c,j) =>cs.setIfInBounds (off+j) c) vs):=by
      refine⟨by rw[g1,nC];exact V.1,λj x hj=>?_⟩;rw[oq _ _ _ (by omega)]at hj;by_cases hjr:off<=j/\j<off+xs.length
      simp_all;rw[if_neg hjr]at hj;have:=V.2 _ _ hj;simp_all [if_neg]
     obtain⟨U,q1,q2⟩:=Dj hpl W vps _ l _ hr' X (λj x y hx hy=>O (j+1) x y hx hy) h;simp_all [Instr.fill]
theorem ot {k:Kd}{s:SV}{v:Value}(h:Rel F own w s v):Rel F own w (K5 k s) v:=by
 unfold K5;split;have:=cK h;subst this;exact .rs0;cases h;exact .rs0;have:=cK h;subst this;exact .rm0;exact h
theorem zB:∀ (ks:List Kd) (l:List SV),(xR ks l).length=l.length
 | [],l=>by simp[xR]
 |k::ks,[] =>by simp[xR]
 |k::ks,s::r=>by simp[xR,zB ks r]
theorem uk:∀ (ks:List Kd) (l:List SV) (j:Nat) (s:SV),(xR ks l)[j]? =some s->∃ s0,l[j]? =some s0/\(s=s0\/∃ k,s=K5 k s0)
 | [],l,j,s,h=>⟨s,by grind [xR],.inl rfl⟩
 |k::ks,[],j,s,h=>by simp[xR]at h
 |k::ks,x::r,0,s,h=>by grind [xR]
 |k::ks,x::r,j+1,s,h=>by simp[xR]at h;simpa using uk ks r j s h
variable {l:List SV}
theorem api.nrm{ks:List Kd}{vs:Array Value}(h:api F own w l vs):api F own w (xR ks l) vs:=
 ⟨by rw[zB];exact h.1,λj s U=>by
  obtain⟨s0,O,E| ⟨k,E⟩⟩:=uk _ _ _ _ U;subst E;exact h.2 j _ O;subst E;exact ot (h.2 j _ O)⟩
theorem HV {E:Nat->Option (Nat×Nat)}:∀ (O:List (Nat×SV)) (cells l:List SV),lI E cells O=some l->l.length=cells.length
 | [],cells,l,h=>by grind [lI]
 |(i,v)::O,cells,l,h=>by
  simp only[lI]at h;split at h
  rename_i off size vs _ _;cases U:Nat.beq (sz vs) size&&Nat.ble (off+size) (sz cells)with
  |false=>grind|true=>rw[U]at h;simp only[cond_true]at h;rw[HV O _ _ h,nC]
  cases h
theorem xq (v:Value):api F own w (svs v) v.cells:=by
 refine⟨by simp[svs],λj s E=>?_⟩;simp[svs]at E;obtain⟨z,O,rfl⟩:=E;simp[O];exact .v _
theorem Ll {fs:List Field}:(fs.all λf=>(P.info? f.type).isSome&&(P.underlying f.type).isSome)=true->
  fs.mapM (λf=>(P.info? f.type).map λi=>(f.offset,i.size))=some (fs.map λf=>(f.offset,nU P f.type)):=by
 induction fs with
 |nil=>intro _;rfl
 |cons f fs E=>
  intro h;simp only[List.all_cons,alt]at h;grind [nU]
variable {t:TypeId}{ti:TI}
theorem TY(ht:ca P t=some ti){V:List (Nat×SV)}{vps:Array (Nat×Value)}(hm:V.map (·.1)=vps.toList.map (·.1))
  (U:∀ (j:Nat) (x:Nat×SV) (y:Nat×Value),V[j]? =some x->vps.toList[j]? =some y->Rel F own w x.2 y.2)
  (h:(ti.apK=true/\∃ te,ca P ti.elem=some te/\lI (λi=>some (i*te.size,te.size)) ti.zero V=some l)\/
     (ti.apK=false/\ti.agg=true/\lI (λi=>(nth ti.fields i).map λf=>(f.1,f.2.1)) ti.zero V=some l)):
  ∃ u,(Instr.build t vps).run P w=.ok u w/\Rel F own w (.agg l) u:=by
 obtain⟨i,d,z,hi,hd,hz,hq,rfl⟩:=bV ht;have O:(dL P t i d).zero=svs z:=by simp[dL,hz]
 rcases h with⟨ha,te,hte,X⟩ | ⟨ha,hg,X⟩;obtain⟨ie,de,ze,hie,hde,hze,hqe,he⟩:=bV hte;cases d <;>simp[dL]at ha;rename_i len e;simp only[dL]at hie;rw[O]at X;have Y:te.size=ie.size:=by rw[he];rfl
 obtain⟨E,q1,W⟩:=Dj (place':=λi=>some (i*ie.size,ie.size)) (λi=>by rw[Y]) V vps.toList _ l z.cells (xq z) hm U X;exact⟨.agg E,run_build w t vps E (by grind [Program.built]),.agg W.1 W.2⟩;cases d with
 |struct fs=>
  rw[O]at X;have hmp:=Ll (P:=P) (fs:=fs.toList) (by grind [zq]);obtain⟨E,q1,W⟩:=Dj (place':=λi=>(fs.toList.map λf=>(f.offset,nU P f.type)).toArray[i]?) (λi=>by
   simp[dL,gH];rfl) V vps.toList _ l z.cells (xq z) hm U X
  exact⟨.agg E,run_build w t vps E (by grind [Program.built]),.agg W.1 W.2⟩
 |array len e=>simp[dL]at ha|_=>simp[dL,kf,hd]at hg
theorem Lm (z:List SV)(O:0<z.length):∀ (n i:Nat),(CF n z)[i]? =if i<n*z.length then z[i % z.length]? else none
 |0,i=>by simp[CF]
 |n+1,i=>by
  rw[CF,amn];by_cases hi:i<z.length
  rw[if_pos hi,if_pos (by grind),an_ hi];rw[if_neg hi,Lm z O n];rw[anV];by_cases E:i - z.length<n*z.length
  rw[if_pos E,if_pos (by omega)];grind [Nat.mod_eq_sub_mod]
  grind
theorem wA (z:List SV):∀ n,(CF n z).length=n*z.length
 |0=>by simp[CF]
 |n+1=>by rw[CF,alA,wA z n,anV];omega
theorem HW {s:SV}(h:fit .s s=true): .v (.string (toS s))=s:=by
 cases s <;>simp only[fit,alB]at h;rename_i x;cases x <;>simp only[fit,alB]at h;rfl
theorem HX {s:SV}(h:fit .b s=true): .v (.bool (toB s))=s:=by
 cases s <;>simp only[fit,alB]at h;rename_i x;cases x <;>simp only[fit,alB]at h;rfl
variable {k:IntKind}
theorem X0{k':IntKind}(h:Nat.beq (kN k) (kN k')=true):k=k':=by
 cases k <;>cases k' <;>first|rfl|(simp[kN]at h;done)
theorem HY{s:SV}(h:fit (.n k) s=true): .v (.int k (toI s))=s:=by
 cases s <;>simp only[fit,alB]at h;rename_i x;cases x <;>simp only[fit,alB]at h;have:=X0 h;subst this;rfl
theorem iy {k:Tag}{s:SV}(h:fit (.r k) s=true):∃ l,s=.rs k l:=by
 cases s <;>simp only[fit,alB]at h;rename_i k' l;have:=uj h;subst this;grind
theorem TZ {k k2:Tag}{s:SV}(h:fit (.m k k2) s=true):∃ l,s=.rm k k2 l:=by
 cases s <;>simp only[fit,alB]at h;rename_i k' U l;simp only[alt]at h;have E:=uj h.1;have O:=uj h.2;subst E;subst O;grind
theorem NP {s:SV}(h:fit (.r .reach) s=true): .rs .reach (t7 s)=s:=by obtain⟨l,rfl⟩:=iy h;rfl
theorem RR {s:SV}(h:fit (.r .ee) s=true): .rs .ee (wj s)=s:=by obtain⟨l,rfl⟩:=iy h;rfl
theorem RS {s:SV}(h:fit (.r .apy) s=true): .rs .apy (wl s)=s:=by obtain⟨l,rfl⟩:=iy h;rfl
theorem NQ {s:SV}(h:fit (.r .right) s=true): .rs .right (t8 s)=s:=by obtain⟨l,rfl⟩:=iy h;rfl
theorem RU {s:SV}(h:fit (.r .apH) s=true): .rs .apH (wn s)=s:=by obtain⟨l,rfl⟩:=iy h;rfl
theorem T0 {s:SV}(h:fit (.r .int) s=true): .rs .int (zn s)=s:=by obtain⟨l,rfl⟩:=iy h;rfl
theorem RV {s:SV}(h:fit (.r .apL) s=true): .rs .apL (wo s)=s:=by obtain⟨l,rfl⟩:=iy h;rfl
theorem RW {s:SV}(h:fit (.r .part) s=true): .rs .part (DB s)=s:=by obtain⟨l,rfl⟩:=iy h;rfl
theorem RX {s:SV}(h:fit (.r .x6) s=true): .rs .x6 (K1 s)=s:=by obtain⟨l,rfl⟩:=iy h;rfl
theorem Ln {s:SV}(h:fit (.r .aoR) s=true): .rs .aoR (yH s)=s:=by obtain⟨l,rfl⟩:=iy h;rfl
theorem NR {s:SV}(h:fit (.r .C1) s=true): .rs .C1 (AM s)=s:=by obtain⟨l,rfl⟩:=iy h;rfl
theorem NS {s:SV}(h:fit (.r .order) s=true): .rs .order (AN s)=s:=by obtain⟨l,rfl⟩:=iy h;rfl
theorem RY {s:SV}(h:fit (.r .aoQ) s=true): .rs .aoQ (K2 s)=s:=by obtain⟨l,rfl⟩:=iy h;rfl
theorem AW {s:SV}(h:fit (.r .X1) s=true): .rs .X1 (vM s)=s:=by obtain⟨l,rfl⟩:=iy h;rfl
theorem NT {s:SV}(h:fit (.r .fault) s=true): .rs .fault (HN s)=s:=by obtain⟨l,rfl⟩:=iy h;rfl
theorem RZ {s:SV}(h:fit (.r .bool) s=true): .rs .bool (K3 s)=s:=by obtain⟨l,rfl⟩:=iy h;rfl
theorem R8 {s:SV}(h:fit (.r .ints) s=true): .rs .ints (zo s)=s:=by obtain⟨l,rfl⟩:=iy h;rfl
theorem D2 {s:SV}(h:fit (.r .M1) s=true): .rs .M1 (yj s)=s:=by obtain⟨l,rfl⟩:=iy h;rfl
theorem zC {s:SV}(h:fit (.r .aoZ) s=true): .rs .aoZ (t_ s)=s:=by obtain⟨l,rfl⟩:=iy h;rfl
theorem T3 {s:SV}(h:fit (.r .fnc) s=true): .rs .fnc (Pr s)=s:=by obtain⟨l,rfl⟩:=iy h;rfl
theorem Jj {s:SV}(h:fit (.r .holding) s=true): .rs .holding (B8 s)=s:=by obtain⟨l,rfl⟩:=iy h;rfl
theorem yP {s:SV}(h:fit (.r .bn) s=true): .rs .bn (tu s)=s:=by obtain⟨l,rfl⟩:=iy h;rfl
theorem yQ {s:SV}(h:fit (.r .gl) s=true): .rs .gl (tw s)=s:=by obtain⟨l,rfl⟩:=iy h;rfl
theorem R9 {s:SV}(h:fit (.r .Y2) s=true): .rs .Y2 (K4 s)=s:=by obtain⟨l,rfl⟩:=iy h;rfl
theorem GL {s:SV}(h:fit (.r .bh) s=true): .rs .bh (zp s)=s:=by obtain⟨l,rfl⟩:=iy h;rfl
theorem Jk {s:SV}(h:fit (.r .refusal) s=true): .rs .refusal (B9 s)=s:=by obtain⟨l,rfl⟩:=iy h;rfl
theorem NU {s:SV}(h:fit (.r .range) s=true): .rs .range (HO s)=s:=by obtain⟨l,rfl⟩:=iy h;rfl
theorem NV {s:SV}(h:fit (.r .ratio) s=true): .rs .ratio (HP s)=s:=by obtain⟨l,rfl⟩:=iy h;rfl
theorem Lo {s:SV}(h:fit (.r .apw) s=true): .rs .apw (DC s)=s:=by obtain⟨l,rfl⟩:=iy h;rfl
theorem AX {s:SV}(h:fit (.r .zs) s=true): .rs .zs (vN s)=s:=by obtain⟨l,rfl⟩:=iy h;rfl
theorem D3 {s:SV}(h:fit (.r .ao9) s=true): .rs .ao9 (yk s)=s:=by obtain⟨l,rfl⟩:=iy h;rfl
theorem zD {s:SV}(h:fit (.r .ao7) s=true): .rs .ao7 (ua s)=s:=by obtain⟨l,rfl⟩:=iy h;rfl
theorem T4 {s:SV}(h:fit (.r .str) s=true): .rs .str (Ps s)=s:=by obtain⟨l,rfl⟩:=iy h;rfl
theorem v8 {s:SV}(h:fit (.m .aoZ .int) s=true): .rm .aoZ .int (lH s)=s:=by obtain⟨l,rfl⟩:=TZ h;rfl
theorem xT {s:SV}(h:fit (.m .M1 .bool) s=true): .rm .M1 .bool (ke s)=s:=by obtain⟨l,rfl⟩:=TZ h;rfl
theorem Jl {s:SV}(h:fit (.m .int .int) s=true): .rm .int .int (wp s)=s:=by obtain⟨l,rfl⟩:=TZ h;rfl
theorem age {s:SV}(h:fit .f s=true):fnV (toF s)=s:=by
 unfold fit at h;split at h <;>first|rfl|simp_all
theorem pu{k:Kd}{ks:List Kd}(h:ub (k::ks) l=true):∃ x r,l=x::r/\fit k x=true/\ub ks r=true:=by
 cases l with
 |nil=>simp[ub]at h|cons x r=>grind [ub]
theorem ul(h:ub [] l=true):l=[]:=by
 grind [ub]
variable {k:Tag}{x:k.T}
theorem qE(h:vO k l=some x):cellsOf k x=l:=by
 unfold vO at h;cases E:ub (dN k) l with
 |false=>grind
 |true=>
  simp only[E,cond_true,alx]at h;subst h;cases k <;>simp only[dN]at E <;>
   (repeat (obtain⟨_,_,rfl,_,E⟩:=pu E)) <;>(obtain rfl:=ul E) <;>
   simp_all [cellsOf,mkE,at0,HW,HY,HX,age,NP,RR,RS,NQ,RU,T0,RV,RW,RX,Ln,NR,NS,RY,AW,NT,RZ,R8,D2,zC,T3,Jj,yP,yQ,R9,GL,Jk,NU,NV,Lo,AX,D3,zD,T4
   ,v8,xT,Jl
   ]
def mw(h:oj k l=some x):cellsOf k x=xR (dN k) l:=qE h
theorem D4(h:oj k l=some x){vs:Array Value}(E:api F own w l vs):api F own w (cellsOf k x) vs:=by
 rw[mw h];exact E.nrm
theorem NW(h:oj k l=some x):l.length=aa k:=by
 rw[<-bE k x,mw h,zB]
theorem AY(x:k.T):oj k (cellsOf k x)=some x:=by
 cases k <;>first|rfl|(cases x <;>rfl)
theorem Cf{y:k.T}(h:cellsOf k x=cellsOf k y):x=y:=by
 grind [AY]
theorem GM (k:Tag):0<aa k:=by cases k <;>simp[aa]
theorem D5 {k:Tag}{size:Nat}(W:size=aa k):∀ (n:Nat) (l:List SV) (xs:List k.T),rA k size n l=some xs->
  xs.length=n/\∀ (i:Nat) (x:k.T),xs[i]? =some x->∀ (j:Nat) (s:SV),(cellsOf k x)[j]? =some s->∃ s0,l[i*size+j]? =some s0/\(s=s0\/∃ q,s=K5 q s0)
 |0,l,xs,h=>by
  grind [rA]
 |n+1,l,xs,h=>by
  simp only[rA,Jg,Di]at h;cases O:oj k (l.take size)with
  |none=>grind
  |some y=>
   cases V:rA k size n (l.drop size)with
   |none=>grind
   |some Y=>
    simp only[O,V,alx]at h;subst h;obtain⟨h1,h2⟩:=D5 W n _ _ V;refine⟨by simp[h1],λi x E j s U=>?_⟩;cases i with
    |zero=>
     simp at E;subst E;rw[mw O]at U;obtain⟨s0,X,e2⟩:=uk _ _ _ _ U;grind
    |succ i=>
     simp at E;grind
variable {ps:List (Nat×SV)}
theorem Lp{i:TypeInfo}{e:TypeId}{E:TypeInfo}{O:Value}(hi:P.info? t=some i)(hd:P.underlying t=some (.slice e))(hie:P.info? e=some E)(hze:E.zero=some O)(hzl:O.cells.size=E.size){n:Nat}{vps:Array (Nat×Value)}
  (hm:ps.map (·.1)=vps.toList.map (·.1)) (apR:∀ (j:Nat) (x:Nat×SV) (y:Nat×Value),ps[j]? =some x->vps.toList[j]? =some y->Rel F own w x.2 y.2)
  (hf:lI (λi=>some (i*E.size,E.size)) (CF n (svs O)) ps=some l) (hpos:0<E.size) (hle:n*E.size<=16777216):
  ∃ U,(Instr.buildSlice t n vps).run P w=.ok (.slice (some ⟨w.heap.size,0,none⟩) n n) (w.alloc (.cells U e))/\api F own w l U/\U.size=n*E.size:=by
 have W:(svs O).length=E.size:=by simp[svs,hzl]
 let cz:Array Value:=if n*E.size=0 then #[]else O.cells
 have hz0:api F own w (CF n (svs O)) ((Array.range (n*E.size)).map (cz[· % cz.size]!)):=by
  refine⟨by simp[wA,W],λj s hj=>?_⟩;rw[Lm _ (by omega)]at hj;by_cases hjn:j<n*(svs O).length
  rw[if_pos hjn]at hj;rw[W]at hjn hj;have X:n*E.size≠0:=by omega
  have V:cz=O.cells:=by grind
  rw[V];have hm1:j % O.cells.size<O.cells.size:=anz _ (by omega);have:=(xq (F:=F) (own:=own) (w:=w) O).2 (j % O.cells.size) s (by grind);simp_all;grind
 obtain⟨U,q1,q2⟩:=Dj (place':=λi=>some (i*E.size,E.size)) (λi=>rfl) ps vps.toList _ l _ hz0 hm apR hf;refine⟨U,?_,q2,?_⟩;simp only[Instr.buildSlice,alV,run_underlying hd,alK,dM hie];have Y:¬ (n*E.size > 2 ^ 24):=by omega
 simp only[Y,if_false];by_cases X:n*E.size=0
 have V:cz= #[]:=by grind
 simp_all [newRow];have V:cz=O.cells:=by grind
 rw[V]at q1;rw[if_neg X];simp_all [zeroValue,typeInfo,newRow];have h1:=HV _ _ _ hf;rw[q2.1,h1,wA,W]
variable {h:List Ob}
theorem asg(V:Hp F own w h):¬df F own w.heap.size:=by
 rintro (O| ⟨id,hd',U,E⟩);exact amw _ (V.aoY _ O);exact amw _ (V.lt id hd' _ U E)
theorem abM(hp:Hp F own w h){te:TI}(ht:ca P t=some ti)(hte:ca P ti.elem=some te){n:Nat}{vps:Array (Nat×Value)}
  (hm:ps.map (·.1)=vps.toList.map (·.1)) (apR:∀ (j:Nat) (x:Nat×SV) (y:Nat×Value),ps[j]? =some x->vps.toList[j]? =some y->Rel F own w x.2 y.2) {r:OR}
  (E:bsS ti te n ps=r) (hr:r≠ .bad):
  ∃ s cs ty u,r=.apI s/\(Instr.buildSlice t n vps).run P w=.ok u (w.alloc (.cells cs ty))/\Rel F own (w.alloc (.cells cs ty)) s u/\∀ (k:Tag) (xs:List k.T),s=.rs k xs->u=.slice (some ⟨w.heap.size,0,none⟩) xs.length xs.length/\xs.length*aa k<=cs.size/\xs.length<=aK/\apm F own w k xs 0 cs:=by
 obtain⟨i,d,z,hi,hd,hz,hq,rfl⟩:=bV ht;obtain⟨ie,de,ze,V,hde,hze,hqe,he⟩:=bV hte;have W:te.size=ie.size:=by rw[he];rfl
 have U:te.zero=svs ze:=by simp_all [dL]
 have hg:∀ cs ty,apx F own w own (w.alloc (.cells cs ty)):=λcs ty=>apx.below F own (qB w _);have X:=asg hp;unfold bsS at E;cases hn:Nat.beq n 0 with
 |true=>
  rw[hn]at E;have hn0:=alu hn;subst hn0;simp only[cond_true]at E;cases d with
  |slice e=>
   subst E;have hps:ps=[]:=by
    grind
   simp only[dL]at V;have hv:vps= #[]:=by
    simp_all
   subst hv;subst hps;refine⟨_,#[],e,.slice (some ⟨w.heap.size,0,none⟩) 0 0,rfl,?_,.e0,λ_ _ e=>(by cases e)⟩;have he0:Array.map (λ(_:Nat) =>(default:Value)) (Array.range 0)= #[]:=anJ (by simp);simp[Instr.buildSlice,run_underlying hd,dM V,Instr.fill,newRow,World.alloc_eq,he0]
  |_=>simp[dL]at E;exact absurd E.symm hr
 |false=>
 rw[hn]at E;simp only[cond_false]at E;rw[W]at E;cases hf:lI (λi=>some (i*ie.size,ie.size)) (CF n te.zero) ps with
 |none=>
  rw[hf]at E;exfalso;unfold bsG at E;cases Y:aby te.tag with
  |none=>rw[Y]at E;exact hr E.symm|some k=>rw[Y]at E;simp only at E;cases hio:XK ps <;>rw[hio]at E <;>exact hr E.symm
 |some l=>
 rw[hf]at E;have typed:∀ k,bsT k (dL P t i d) te n (some l)=r->∃ s cs ty u,r=.apI s/\(Instr.buildSlice t n vps).run P w=.ok u (w.alloc (.cells cs ty))/\Rel F own (w.alloc (.cells cs ty)) s u/\∀ (k:Tag) (xs:List k.T),s=.rs k xs->u=.slice (some ⟨w.heap.size,0,none⟩) xs.length xs.length/\xs.length*aa k<=cs.size/\xs.length<=aK/\apm F own w k xs 0 cs:=by
  intro k E;simp only[bsT]at E;cases hc:Nat.beq te.size (aa k)&&(dL P t i d).isSlice&&Nat.ble (n*te.size) 16777216&&Nat.beq (sz te.zero) te.size with
  |false=>rw[hc]at E;exact absurd E.symm hr
  |true=>
  rw[hc]at E;simp only[cond_true]at E;simp only[alt,qC]at hc;obtain⟨⟨⟨c1,c2⟩,c3⟩,c4⟩:=hc;have c1:=alu c1;have c3:=nbl c3;have c4:=alu c4;cases hel:rA k te.size n l with
  |none=>rw[hel]at E;exact absurd E.symm hr
  |some xs=>
  rw[hel]at E;simp only[Tz]at E;subst E;cases d with
  |slice e=>
   simp only[dL]at V hde;have hpos:0<te.size:=by rw[c1];exact GM k
   have hzl:ze.cells.size=ie.size:=by rw[<-W,<-c4,U];simp[svs]
   rw[U]at hf;obtain⟨O,q1,q2,q3⟩:=Lp hi hd V hze hzl hm apR hf (by omega) (by rw[<-W];exact c3);obtain⟨x1,x2⟩:=D5 c1 n l xs hel;refine⟨_,O,e,_,rfl,q1,?_,?_⟩
   rotate_left
   intro k' xs' e';cases e';refine⟨by rw[x1],?_,by rw[x1];have:n<=n*te.size:=amB n hpos;unfold aK;omega,λi x hx j s hj=>?_⟩;grind
   obtain⟨s0,h1,h2⟩:=x2 i x hx j s hj;rw[c1]at h1;have hlt:i*aa k+j<O.size:=by rw[q2.1];exact(alz.1 h1).1
   have h3:=q2.2 _ _ h1;refine⟨O.getD (i*aa k+j) undef,by simp_all,?_⟩;rcases h2 with rfl| ⟨q,rfl⟩;exact h3;exact ot h3;have:=Rel.rs (F:=F) (own:=own) (w:=w.alloc (.cells O e)) (k:=k) (l:=xs) (b:=w.heap.size) (o:=0) (cap:=xs.length) (λi j=>O.getD (i*aa k+j) undef) (alw _)
    (by rw[x1];have:n<=n*te.size:=amB n hpos;unfold aK;omega)
    (λi x hx j s hj=>⟨X,by
     obtain⟨s0,h1,_⟩:=x2 i x hx j s hj;rw[c1]at h1;have hlt:i*aa k+j<O.size:=by rw[q2.1];exact(alz.1 h1).1
     rw[alF,aop];simp[hlt]⟩)
    (λi x hx j s hj=>by
     obtain⟨s0,h1,h2⟩:=x2 i x hx j s hj;rw[c1]at h1;have h3:=(q2.2 _ _ h1).mono (hg O e);rcases h2 with rfl| ⟨q,rfl⟩;exact h3;exact ot h3)
   grind
  |_=>simp[dL]at c2
 have untyped:bsU (dL P t i d) te n (some l)=r->∃ s cs ty u,r=.apI s/\(Instr.buildSlice t n vps).run P w=.ok u (w.alloc (.cells cs ty))/\Rel F own (w.alloc (.cells cs ty)) s u/\∀ (k:Tag) (xs:List k.T),s=.rs k xs->u=.slice (some ⟨w.heap.size,0,none⟩) xs.length xs.length/\xs.length*aa k<=cs.size/\xs.length<=aK/\apm F own w k xs 0 cs:=by
  intro E;simp only[bsU]at E;cases hc:(dL P t i d).isSlice&&Nat.ble 1 te.size&&Nat.ble (n*te.size) 16777216&&Nat.beq (sz te.zero) te.size with
  |false=>rw[hc]at E;exact absurd E.symm hr
  |true=>
  rw[hc]at E;simp only[cond_true,lsS]at E;simp only[alt,qC]at hc;obtain⟨⟨⟨c2,c1⟩,c3⟩,c4⟩:=hc;have c1:=nbl c1;have c3:=nbl c3;have c4:=alu c4;cases hc2:Nat.beq (sz l) (n*te.size)&&uT l with
  |false=>grind
  |true=>
  rw[hc2]at E;simp only[cond_true]at E;subst E;simp only[alt,qC]at hc2;have hln:=alu hc2.1;cases d with
  |slice e=>
   simp only[dL]at V hde;have hzl:ze.cells.size=ie.size:=by rw[<-W,<-c4,U];simp[svs]
   rw[U]at hf;obtain⟨O,q1,q2,q3⟩:=Lp hi hd V hze hzl hm apR hf (by omega) (by rw[<-W];exact c3);refine⟨_,O,e,_,rfl,q1,?_,λ_ _ e=>(by cases e)⟩;have:=Rel.ls (F:=F) (own:=own) (w:=w.alloc (.cells O e)) (z:=te.size) (n:=n) (l:=l) (b:=w.heap.size) (o:=0) (cap:=n) (λj=>O.getD j undef) hln.symm (alw _)
    (λj s hj=>⟨X,by
     have hlt:j<O.size:=by grind
     rw[alF,aop];simp[hlt]⟩)
    (λj s hj=>(q2.2 _ _ hj).mono (hg O e))
   grind
  |_=>simp[dL]at c2
 unfold bsG at E;grind
end
structure arq (b:Nat)(ty:TypeId)(cs':Array Value)(w w':World):Prop where
 here:w'.heap[b]? =some (.cells cs' ty (0,0))
 size:w'.heap.size=w.heap.size
 other:∀ k,k≠b->w'.heap[k]? =w.heap[k]?
 os:w'.os=w.os
 tape:w'.tape=w.tape
 output:w'.output=w.output
section
variable {P:Program}{F:Nat->Prop}{own:Own}{w:World}
theorem jR {b o:Nat}{ty:TypeId}:∀ (vs:List Value) (i:Nat) (w:World) (cs:Array Value),w.heap[b]? =some (.cells cs ty (0,0))->o+i+vs.length<=cs.size->(∀ v∈vs,v.oneCell'=true)->
  ∃ O w',(storeCells ⟨b,o,none⟩ vs i).run P w=.ok () w'/\arq b ty O w w'/\O.size=cs.size/\∀ j,O[j]? =if o+i<=j/\j<o+i+vs.length then vs[j - (o+i)]? else cs[j]?
 | [],i,w,cs,W,_,_=>by
  refine⟨cs,w,by rfl,⟨W,rfl,λ_ _=>rfl,rfl,rfl,rfl⟩,rfl,λj=>?_⟩;grind
 |v::vs,i,w,cs,W,Y,V=>by
  simp only[aly]at Y;have hlt:o+i<cs.size:=by omega
  have X:w.cell? ⟨b,o+i,none⟩=some cs[o+i]:=by rw[eE W];simp[hlt]
  have hrun:(store (Addr.add ⟨b,o,none⟩ i) v).run P w=.ok () (w.setCell ⟨b,o+i,none⟩ v):=by
   grind [nD,run_store,D1]
  have E:=setCell_eq_setRow w b (o+i) cs ty (0,0) v W;have hb':(w.setCell ⟨b,o+i,none⟩ v).heap[b]? =some (.cells (cs.setIfInBounds (o+i) v) ty (0,0)):=by
   rw[E];exact setRow_heap w b cs _ ty (0,0) W
  obtain⟨O,w',e1,U,e3,e4⟩:=jR (o:=o) vs (i+1) _ _ hb' (by simp;omega) (λv hv=>V v (by simp[hv]));refine⟨O,w',?_,⟨U.here,by rw[U.size];simp,λk hk=>?_,by rw[U.os,E];rfl,by rw[U.tape,E];rfl,by rw[U.output,E];rfl⟩,by rw[e3];simp,λj=>?_⟩;grind [storeCells,Sem.run_bind,Result.andThen_ok]
  rw[U.other k hk,E];exact setRow_other w b k _ hk;grind
variable {v:Value}
theorem T5{s:SV}(h:Nz s=true)(E:Rel F own w s v):v.oneCell'=true:=by
 cases E <;>first|rfl|(exact mv (by assumption)) |(simp[Nz]at h;done) |(rename_i x;cases x <;>first|rfl|(simp[Nz]at h;done)) |(cases v <;>first|rfl|(simp[Nz]at h;done))
theorem Cg:∀ {l:List SV},uT l=true->∀ (j:Nat) (s:SV),l[j]? =some s->Nz s=true
 | [],_,j,s,h=>by simp at h
 |x::r,h,0,s,hs=>by grind [uT]
 |x::r,h,j+1,s,hs=>by simp[uT]at h hs;exact Cg h.2 j s hs
variable {t:TypeId}{ti:TI}{sx:SV}{off:Nat}
theorem xr(ht:ca P t=some ti){U:Value}(W:Rel F own w sx U){xs:List SV}(hf:pf sx=some xs)(X:xs.length=ti.size)(O:∀ (j:Nat) (s:SV),xs[j]? =some s->∀ v,Rel F own w s v->v.oneCell'=true)
  {b:Nat} {cs:Array Value} {ty:TypeId} (hb:w.heap[b]? =some (.cells cs ty (0,0))) (hle:off+xs.length<=cs.size):
  ∃ E w',(Instr.storeAt t (.pointer (some ⟨b,off,none⟩)) U).run P w=.ok () w'/\arq b ty E w w'/\E.size=cs.size/\
   (∀ j,off<=j->j<off+xs.length->∃ u,E[j]? =some u/\∀ s,xs[j - off]? =some s->Rel F own w s u)/\(∀ j,¬ (off<=j/\j<off+xs.length)->E[j]? =cs[j]?):=by
 obtain⟨i,d,z,hi,hd',hz,hq,rfl⟩:=bV ht;obtain⟨f1,f2⟩:=D0 W hf;obtain⟨E,w',q1,q2,q3,q4⟩:=jR (P:=P) (b:=b) (o:=off) (ty:=ty) U.cells.toList 0 w cs hb (by simp;omega) (λu hu=>by
  obtain⟨j,hj⟩:=ame hu;have hjl:j<U.cells.size:=by grind
  have V:=alE (l:=xs) (i:=j) (by omega);have:=O j _ V _ (f2 j _ V);simp_all)
 have Y:U.cells.size=i.size:=by rw[f1,X];rfl
 refine⟨E,w',by simp_all [Instr.storeAt,Instr.sureAddr,storeVar,dM],q2,q3,λj h1 h2=>?_,λj h1=>?_⟩;simp_all <;>grind;grind
variable {bo:Own}{k:Tag}{o:Nat}{x:k.T}
theorem apm.put{w':World}(g:apx F own w bo w'){l:List k.T}{cs E:Array Value}(h:apm F own w k l o cs){i:Nat}(hi:i<l.length){xs:List SV}(hx:oj k (gS (cellsOf k (l.getD i (eC k))) off xs)=some x)
  (hle:off+xs.length<=aa k)
  (Y:∀ j,o+i*aa k+off<=j->j<o+i*aa k+off+xs.length->∃ u,E[j]? =some u/\∀ s,xs[j - (o+i*aa k+off)]? =some s->Rel F own w s u)
  (V:∀ j,¬ (o+i*aa k+off<=j/\j<o+i*aa k+off+xs.length)->E[j]? =cs[j]?):apm F bo w' k (l.set i x) o E:=by
 intro X y hy j s hj;rw[ank]at hy;have hjl:j<aa k:=by grind [bE]
 by_cases O:i=X
 subst O;rw[if_pos rfl,if_pos hi]at hy;simp only[alx]at hy;subst hy;rw[mw hx]at hj;obtain⟨s0,W,e2⟩:=uk _ _ _ _ hj;rw[oq _ _ _ (by grind [bE])]at W;have fin:∀ u,Rel F own w s0 u->Rel F bo w' s u:=λu hu=>by
  rcases e2 with rfl| ⟨q,rfl⟩;exact hu.mono g;exact ot (hu.mono g)
 by_cases U:off<=j/\j<off+xs.length
 rw[if_pos U]at W;obtain⟨u,h1,h2⟩:=Y (o+i*aa k+j) (by omega) (by omega);grind
 rw[if_neg U]at W;obtain⟨h1,h2⟩:=h.get hi W;grind
 rw[if_neg O]at hy;obtain⟨u,h1,h2⟩:=h X y hy j s hj;refine⟨u,?_,h2.mono g⟩;rw[V];exact h1;rcases Nat.lt_or_gt_of_ne O with hlt|hlt;have:(i+1)*aa k<=X*aa k:=alM _ hlt;grind
 have:(X+1)*aa k<=i*aa k:=alM _ hlt;grind
variable {n:Nat}
theorem PN{cap i size m E:Nat}(h1:o+cap*size<=E)(h2:n<=cap)(V:i<n)(U:off+m<=size):o+i*size+off+m<=E:=by
 have O:(i+1)*size<=cap*size:=alM _ (by omega);grind
theorem apb.put{w':World}(g:apx F own w bo w'){l':List k.T}{b:Nat}(O:∀ c,c≠b->w'.heap[c]? =w.heap[c]?):
  ∀ {l:List (List k.T)} {vs:List Value} {bs:List Nat} {i:Nat},apb F own w k l vs bs->bs.Nodup->vs[i]? =some v->(∀ E,ao8 F own w k (l.getD i []) v E->b∈E)->(∀ E,ao8 F own w k (l.getD i []) v E->ao8 F bo w' k l' v E)->apb F bo w' k (l.set i l') vs bs
 | [],[],bs,i,_,_,h,_,_=>by simp at h
 |l::ls,u::vs,bs,0,⟨E,b2,h1,h0,h2,h3⟩,hn,h,hb,hr=>by
  simp at h;subst h;refine⟨E,b2,h1,h0,hr E h2,h3.carry g.apz λc hc=>O c λe=>?_⟩;grind
 |l::ls,u::vs,bs,i+1,⟨E,b2,h1,h0,h2,h3⟩,hn,h,hb,hr=>by
  rw[h1]at hn;have V:=hn;rw[amP]at hn;have h':vs[i]? =some v:=by simpa using h
  obtain⟨W,q1,q2,Y,X⟩:=h3.get h';have U:=hb W (by grind);exact⟨E,b2,h1,h0,h2.carry g.apz λc hc=>O c λe=>hn.2.2 _ hc _ (X b U) e,
   apb.put g O h3 hn.2.1 h' (λE hb1=>hb E (by grind)) λE hb1=>hr E (by grind)⟩
 | [],_::_,_,_,h,_,_,_,_=>h.elim|_::_,[],_,_,h,_,_,_,_=>h.elim
theorem HZ{l l':List SV}{xs:List SV}(W:oj k (gS l off xs)=some x)(hl:l.length=aa k)(V:off+xs.length<=aa k)(j:Nat)(s:SV)(hj:xs[j]? =some s)(v:Value)(hv:Rel F own w s v):v.oneCell'=true:=by
 have X:=(alz.1 hj).1;have h1:(gS l off xs)[off+j]? =some s:=by
  simp_all [oq]
 have hc:=mw W;have E:off+j< (cellsOf k x).length:=by rw[bE];omega
 obtain⟨s1,h2⟩:∃ s1,(cellsOf k x)[off+j]? =some s1:=⟨_,alE E⟩;have U:=h2;rw[hc]at U;obtain⟨s0,O,e2⟩:=uk _ _ _ _ U;rw[h1]at O;simp only[alx]at O;subst O;have Y:Rel F own w s1 v:=by
  grind [ot]
 exact mv (Jh h2 Y)
theorem R_{h:List Ob}(hp:Hp F own w h)(ht:ca P t=some ti){s:SV}{vx:Value}(hr:Rel F own w s v)(hrx:Rel F own w sx vx){r:OR}
  (E:q_ ti.size h s (pf sx)=r) (V:r≠ .bad):
  ∃ ups,r=.eff True True ups .any/\∃ w',(Instr.storeAt t v vx).run P w=.ok () w'/\Step F own w (bf h ups) own w':=by
 cases hf:pf sx with
 |none=>rw[hf]at E;cases s <;>exact absurd E.symm V
 |some xs=>
 rw[hf]at E;cases hr with
 |ptr h1 h2=>
  rename_i id off b hd;simp only[q_]at E;cases hb:Nat.beq (sz xs) ti.size with
  |false=>grind
  |true=>
  rw[hb]at E;simp only[cond_true]at E;cases X:aq h id with
  |cells l=>
   rw[X]at E;simp only[NB]at E;cases hc:Nat.ble (off+sz xs) (sz l)&&uT xs with
   |false=>grind
   |true=>
   rw[hc]at E;simp only[cond_true]at E;subst E;simp only[alt,qC]at hc hb;have hsz:=alu hb;have U:=nbl hc.1;obtain⟨hd',e0,b',cs,ty,e1,e2,e3,e4,e5⟩:=hp.at X rfl;rw[h1]at e0;cases e0;rw[h2]at e1;cases e1;obtain⟨W,w',q1,O,q3,q4,q5⟩:=xr (P:=P) ht hrx hf hsz (λj s hj v hv=>T5 (Cg hc.2 j s hj) hv) (off:=off) e3 (by omega);refine⟨_,rfl,w',q1,pt hp h1 (by simp[e2]) O.size O.other O.os O.tape O.output _ λg=>⟨b,W,ty,h2,e2,O.here,by rw[q3,e4,nC],λj s hj=>?_⟩⟩;rw[oq _ _ _ U]at hj;by_cases hjr:off<=j/\j<off+xs.length
   rw[if_pos hjr]at hj;obtain⟨u,k1,k2⟩:=q4 j hjr.1 hjr.2;have:=(k2 s hj).mono g;simp_all;rw[if_neg hjr]at hj;have:=(e5 j s hj).mono g;simp_all
  |_=>rw[X]at E;exact absurd E.symm V
 |rp h1 h2 h3=>
  rename_i Y id off n cap b o i hd;simp only[q_]at E;cases hb:Nat.beq (sz xs) ti.size with
  |false=>grind
  |true=>
  rw[hb]at E;simp only[cond_true]at E;cases X:aq h id with
  |row k l=>
   rw[X]at E;simp only[NC]at E;cases hc:Nat.beq Y (aa k)&&Nat.ble (off+sz xs) Y with
   |false=>grind
   |true=>
   rw[hc]at E;simp only[cond_true]at E;simp only[alt,qC]at hc hb;have hsz:=alu hb;have hszt:=alu hc.1;have U:=nbl hc.2;subst hszt;cases hx:oj k (gS (cellsOf k (l.getD i.toNat (eC k))) off xs)with
   |none=>rw[hx]at E;exact absurd E.symm V
   |some x=>
   rw[hx]at E;simp only[NA]at E;subst E;obtain⟨hd',e0,e⟩:=hp.at X rfl;rw[h1]at e0;cases e0;rcases e with⟨a,e1,_⟩ | ⟨b',o',cap',cs,ty,e1,e2,e3,e4,e5,e6,e7⟩;grind
   have e1':=e1;rw[h2]at e1;simp only[ams,alx,amT]at e1;obtain⟨⟨rfl,rfl,_⟩,rfl,rfl⟩:=e1;obtain⟨W,w',q1,O,q3,q4,q5⟩:=xr (P:=P) ht hrx hf hsz (λj s hj v hv=>HZ (l':=[]) hx (bE _ _) U j s hj v hv) e3 (PN e4 e5 h3 U);refine⟨_,rfl,w',q1,pt hp h1 (by simp[e2]) O.size O.other O.os O.tape O.output _ λg=>.inr ⟨b,o,cap,W,ty,by grind,e2,O.here,by omega,by grind,by grind,e7.put g h3 hx U q4 q5⟩⟩
  |_=>rw[X]at E;exact absurd E.symm V
 |gp h1 h2 h3=>
  rename_i Y id off n cap b o i j hd;simp only[q_]at E;cases hb:Nat.beq (sz xs) ti.size with
  |false=>grind
  |true=>
  rw[hb]at E;simp only[cond_true]at E;cases X:aq h id with
  |apg k l=>
   rw[X]at E;simp only[ND]at E;cases hc:Nat.beq Y (aa k)&&Nat.ble (off+sz xs) Y with
   |false=>grind
   |true=>
   rw[hc]at E;simp only[cond_true]at E;simp only[alt,qC]at hc hb;have hsz:=alu hb;have hszt:=alu hc.1;have U:=nbl hc.2;subst hszt;cases hx:oj k (gS (cellsOf k ((l.getD i.toNat []).getD j.toNat (eC k))) off xs)with
   |none=>rw[hx]at E;exact absurd E.symm V
   |some x=>
   rw[hx]at E;simp only[I4]at E;subst E;obtain⟨hd',e0,e⟩:=hp.at X rfl;rw[h1]at e0;cases e0;rcases e with⟨_,_,e1,_⟩ | ⟨b',o',cap',cs,ty,bs,e1,e2,e3,e4,e5,e6,e7,e8,e9⟩;grind
   obtain⟨b1,k1,k2,k3,k4⟩:=e9.get h2;have hrow:∀ b1,ao8 F own w k (l.getD i.toNat []) (.slice (some ⟨b,o,none⟩) n cap) b1->∃ cs ty,b1=[b]/\n=(l.getD i.toNat []).length/\w.heap[b]? =some (.cells cs ty (0,0))/\o+cap*aa k<=cs.size/\(l.getD i.toNat []).length<=cap/\(l.getD i.toNat []).length<=aK/\apm F own w k (l.getD i.toNat []) o cs:=by
    rintro b1 (⟨a,m1,_⟩ | ⟨b2,o2,cap2,cs2,ty2,m1,m2,m3,m4,m5,m6,m7⟩) <;>grind
   obtain⟨cs2,ty2,m1,rfl,m3,m4,m5,m6,m7⟩:=hrow b1 k3;obtain⟨W,w',q1,O,q3,q4,q5⟩:=xr (P:=P) ht hrx hf hsz (λj s hj v hv=>HZ (l':=[]) hx (bE _ _) U j s hj v hv) m3 (PN m4 m5 h3 U);have hbb:b∈hd.bs:=by grind
   have V:b'≠b:=λe=>by
    grind
   refine⟨_,rfl,w',q1,pt hp h1 hbb O.size O.other O.os O.tape O.output _ λg=>.inr ⟨b',o',cap',cs,ty,bs,by grind,e2,e3,by rw[O.other b' V];exact e4,by omega,by grind,by grind,e8,?_⟩⟩;rw[e2,al6]at e3;refine e9.put g O.other e3.2 h2 (λb1 hb1=>?_) λb1 hb1=>?_;grind
   obtain⟨cs3,ty3,rfl,_,n3,n4,n5,n6,n7⟩:=hrow b1 hb1;rw[m3]at n3;cases n3;exact .inr ⟨b,o,cap,W,ty2,by simp,rfl,O.here,by omega,by grind,by grind,m7.put g h3 hx U q4 q5⟩
  |_=>rw[X]at E;exact absurd E.symm V
 |_=>simp only[q_]at E;exact absurd E.symm V
theorem u4(E:cw (P.underlying t)≠0){xs:Array Value}(O:n<xs.size):(part t xs n).run P w=.ok (xs.getD n undef) w:=by
 have:(isAgg t).run P w=.ok false w:=by
  unfold isAgg;cases hd:P.underlying t with
  |none=>grind [cw]|some d=>rw[hd]at E;cases d <;>simp[cw]at E <;>simp[run_underlying hd]
 simp_all [part]
theorem NX{W:SV}{Y X:Value}(V:Rel F own w sx Y)(hy:Rel F own w W X){b:Bool}(h:eqV (cw (P.underlying t)) sx W=some b)(d:Nat):(Op.equalIn (d+1) t Y X).run P w=.ok b w:=by
 unfold eqV at h;split at h
 rename_i k a k' c;have ex:=cK V;have U:=cK hy;subst ex;subst U;cases E:Nat.beq (cw (P.underlying t)) 1&&Nat.beq (kN k) (kN k')with
 |false=>grind
 |true=>
  rw[E]at h;simp only[cond_true,alx]at h;subst h;simp only[alt]at E;have hk:=NN E.2;subst hk;have hc:=alu E.1;cases hd:P.underlying t with
  |none=>grind [cw]
  |some O=>
   rw[hd]at hc;cases O <;>simp[cw]at hc;simp[Op.equalIn,run_underlying hd]
 rename_i a c;have ex:=cK V;have U:=cK hy;subst ex;subst U;cases E:Nat.beq (cw (P.underlying t)) 2 with
 |false=>grind
 |true=>
  rw[E]at h;simp only[cond_true,alx]at h;subst h;have hc:=alu E;cases hd:P.underlying t with
  |none=>grind [cw]
  |some O=>
   rw[hd]at hc;cases O <;>simp[cw]at hc;simp[Op.equalIn,run_underlying hd]
 rename_i a c;have ex:=cK V;have U:=cK hy;subst ex;subst U;cases E:Nat.beq (cw (P.underlying t)) 3 with
 |false=>grind
 |true=>
  rw[E]at h;simp only[cond_true,alx]at h;subst h;have hc:=alu E;cases hd:P.underlying t with
  |none=>grind [cw]
  |some O=>
   rw[hd]at hc;cases O <;>simp[cw]at hc;simp[Op.equalIn,run_underlying hd]
 cases h
theorem wB {d:Nat}:∀ (fs:List Field) (n:Nat) (O E:List SV) (xs U:Array Value) (b:Bool),eqFields P n fs=true->eqL (fs.map λf=>cw (P.underlying f.type)) O E=some b->n+O.length<=xs.size->n+E.length<=U.size->
  (∀ (j:Nat) (s:SV),O[j]? =some s->Rel F own w s (xs.getD (n+j) undef))->(∀ (j:Nat) (s:SV),E[j]? =some s->Rel F own w s (U.getD (n+j) undef))->
  (Op.eqFields (d+1) xs U fs).run P w=.ok b w
 | [],n,O,E,xs,U,b,_,h,_,_,_,_=>by
  cases O <;>cases E <;>simp[eqL]at h;simp_all [Op.eqFields]
 |f::fs,n,O,E,xs,U,b,Y,h,h1,h2,W,V=>by
  simp only[eqFields,alt]at Y;obtain⟨⟨⟨q1,q2⟩,q3⟩,q4⟩:=Y;have hn:f.name≠ "_":=by grind
  have ho:f.offset=n:=alu q2;have hc:cw (P.underlying f.type)≠0:=by simp_all <;>grind
  cases O with
  |nil=>simp[eqL]at h
  |cons x O=>
   cases E with
   |nil=>simp[eqL]at h
   |cons y E=>
    simp only[amh,eqL]at h;cases hv:eqV (cw (P.underlying f.type)) x y with
    |none=>grind [yJ]
    |some b1=>
     cases X:eqL (fs.map λf=>cw (P.underlying f.type)) O E with
     |none=>grind [yJ]
     |some b2=>
      rw[hv,X]at h;simp only[yJ,alx]at h;subst h;simp only[aly]at h1 h2;have e1:=u4 (P:=P) (w:=w) hc (xs:=xs) (n:=n) (by omega);have e2:=u4 (P:=P) (w:=w) hc (xs:=U) (n:=n) (by omega);have e3:=NX (P:=P) (W 0 x rfl) (V 0 y rfl) hv d;simp only[amy]at e3;simp only[Op.eqFields,if_pos hn,ho,alV,e1,e2,alK,e3];cases b1 with
      |false=>simp
      |true=>
       have ih:=wB (d:=d) fs (n+1) O E xs U b2 q4 X (by omega) (by omega) (λj s hj=>by have:=W (j+1) s (by grind);grind) (λj s hj=>by have:=V (j+1) s (by grind);grind);grind
variable {X U:List SV}{E:Array Value}
theorem Lq{fs:Array Field}(hd:P.underlying t=some (.struct fs)){xs:Array Value}(Y:api F own w X xs)(hy:api F own w U E){b:Bool}
  (hc:nL P t (.struct fs)≠[]) (h:eqL (nL P t (.struct fs)) X U=some b):(Op.equal t (.agg xs) (.agg E)).run P w=.ok b w/\P.eqGuardType P.depth t=false:=by
 simp only[nL]at hc h;cases O:!P.stoodInHeld t&& !P.eqGuardType P.depth t&&eqFields P 0 fs.toList with
 |false=>grind
 |true=>
  rw[O]at h;simp only[cond_true]at h;simp only[alt,alL]at O;obtain⟨⟨q1,q2⟩,q3⟩:=O;refine⟨?_,q2⟩;have V:P.fieldsOf t=fs:=by simp[Program.fieldsOf,hd]
  unfold Op.equal Op.maxDepth;rw[run_equalIn_struct w 9999 t xs E (by grind) q1,V];exact wB (P:=P) (d:=9998) fs.toList 0 X U xs E b q3 h (by rw[Y.1];omega) (by rw[hy.1];omega) (λj s W=>by simpa using Y.2 j s W) (λj s W=>by simpa using hy.2 j s W)
theorem PO:∀ {E bs:List Nat} {l m:List SV} {b:Bool},eqL (E++bs) l m=some b->∃ U O,eqL E (l.take E.length) (m.take E.length)=some U/\eqL bs (l.drop E.length) (m.drop E.length)=some O/\b=(U&&O)/\E.length<=l.length/\E.length<=m.length
 | [],bs,l,m,b,h=>⟨true,b,by simp[eqL],by simpa using h,by simp,by simp,by simp⟩
 |c::E,bs,[],m,b,h=>by simp[eqL]at h
 |c::E,bs,x::l,[],b,h=>by simp[eqL]at h
 |c::E,bs,x::l,y::m,b,h=>by
  simp only[alU,eqL]at h;cases W:eqV c x y with
  |none=>grind [yJ]
  |some b0=>
   cases V:eqL (E++bs) l m with
   |none=>grind [yJ]
   |some b3=>
    rw[W,V]at h;simp only[yJ,alx]at h;obtain⟨U,O,e1,e2,e3,Y,X⟩:=PO V;grind [eqL,yJ]
theorem T6{lx Y:List SV}{xs ys:Array Value}{b:Bool}(h:eqL (qx P t) lx Y=some b)(hp:0< (qx P t).length)(U:lx.length=(qx P t).length)(V:Y.length=(qx P t).length)(h1:n+lx.length<=xs.size)(h2:n+Y.length<=ys.size)
  (h3:∀ (j:Nat) (s:SV),lx[j]? =some s->Rel F own w s (xs.getD (n+j) undef)) (h4:∀ (j:Nat) (s:SV),Y[j]? =some s->Rel F own w s (ys.getD (n+j) undef)) (d:Nat):
  ∃ vx vy,(part t xs n).run P w=.ok vx w/\(part t ys n).run P w=.ok vy w/\(Op.equalIn (d+2) t vx vy).run P w=.ok b w:=by
 by_cases hst:∃ E,P.underlying t=some (.struct E)
 obtain⟨E,hd⟩:=hst;have e:qx P t=bif !P.stoodInHeld t&&eqFields P 0 E.toList&&Nat.beq (nU P t) E.size&&(P.info? t).isSome then E.toList.map λf=>cw (P.underlying f.type)else []:=by grind [qx]
 cases hb:!P.stoodInHeld t&&eqFields P 0 E.toList&&Nat.beq (nU P t) E.size&&(P.info? t).isSome with
 |false=>grind
 |true=>
  rw[hb]at e;simp only[cond_true]at e;simp only[alt,alL]at hb;obtain⟨⟨⟨q1,q2⟩,q3⟩,q4⟩:=hb;have hsz:=alu q3;obtain⟨i,hi⟩:=anv.1 q4;have hszi:i.size=E.size:=by grind [nU]
  have hlen:(qx P t).length=E.size:=by rw[e];simp
  have O:∀ X:Array Value,(part t X n).run P w=.ok (.agg (X.extract n (n+i.size))) w:=λX=>by
   simp_all [part,xp,kf,dM]
  have W:∀ (X:Array Value) (l:List SV),l.length=E.size->n+l.length<=X.size->(∀ (j:Nat) (s:SV),l[j]? =some s->Rel F own w s (X.getD (n+j) undef))->∀ (j:Nat) (s:SV),l[j]? =some s->Rel F own w s ((X.extract n (n+i.size)).getD (0+j) undef):=λX l hl hz hr j s hj=>by
   grind [tC]
  refine⟨_,_,O xs,O ys,?_⟩;have hfo:P.fieldsOf t=E:=by simp[Program.fieldsOf,hd]
  rw[run_equalIn_struct w (d+1) t _ _ (by grind) q1,hfo];rw[e]at h;rw[hlen]at U V;exact wB (P:=P) (d:=d) E.toList 0 lx Y _ _ b q2 h (by simp;omega) (by simp;omega) (W xs lx U h1 h3) (W ys Y V h2 h4)
 have e:qx P t=bif Nat.blt 0 (cw (P.underlying t))then [cw (P.underlying t)]else []:=by
  grind [qx]
 cases hb:Nat.blt 0 (cw (P.underlying t))with
 |false=>grind
 |true=>
  rw[hb]at e;simp only[cond_true]at e;have hc:cw (P.underlying t)≠0:=by simp_all <;>grind
  rw[e]at h U V;match lx,Y,U,V with
  | [x],[y],_,_=>
   simp only[eqL]at h;cases hv:eqV (cw (P.underlying t)) x y with
   |none=>grind [yJ]
   |some b1=>
    rw[hv]at h;simp only[yJ,alx,an5]at h;subst h;simp only[aly,alJ]at h1 h2;have e3:=NX (P:=P) (h3 0 x rfl) (h4 0 y rfl) hv (d+1);simp only[amy]at e3;grind [u4]
theorem zF {d:Nat}:∀ (fs:List Field) (n:Nat) (O E:List SV) (xs U:Array Value) (b:Bool),uc P n fs=true->eqL (fs.flatMap λf=>qx P f.type) O E=some b->n+O.length<=xs.size->n+E.length<=U.size->
  (∀ (j:Nat) (s:SV),O[j]? =some s->Rel F own w s (xs.getD (n+j) undef))->(∀ (j:Nat) (s:SV),E[j]? =some s->Rel F own w s (U.getD (n+j) undef))->
  (Op.eqFields (d+2) xs U fs).run P w=.ok b w
 | [],n,O,E,xs,U,b,_,h,_,_,_,_=>by
  cases O <;>cases E <;>simp[eqL]at h;simp_all [Op.eqFields]
 |f::fs,n,O,E,xs,U,b,W,h,h1,h2,h3,h4=>by
  simp only[uc,alt]at W;obtain⟨⟨⟨q1,Y⟩,q3⟩,q4⟩:=W;have hn:f.name≠ "_":=by grind
  have ho:f.offset=n:=alu Y;have hc:0< (qx P f.type).length:=nbl q3;simp only[alO]at h;obtain⟨b1,b2,e1,e2,e3,e4,e5⟩:=PO h;subst e3;obtain⟨vx,vy,X,p2,p3⟩:=T6 (P:=P) (n:=n) e1 hc (by simp;omega) (by simp;omega) (by simp;omega) (by simp;omega) (λj s V=>h3 j s (by grind)) (λj s V=>h4 j s (by grind)) d;simp only[Op.eqFields,if_pos hn,ho,alV,X,p2,alK,p3];cases b1 with
  |false=>simp
  |true=>
   have ih:=zF (d:=d) fs (n+(qx P f.type).length) (O.drop (qx P f.type).length) (E.drop (qx P f.type).length) xs U b2 q4 e2 (by simp;omega) (by simp;omega) (λj s V=>by grind) (λj s V=>by grind);grind
theorem Sa{d:TypeDesc}(hd:P.underlying t=some d){xs:Array Value}(Y:api F own w X xs)(hy:api F own w U E){b:Bool}
  (hc:I0 P t d≠[]) (h:eqL (I0 P t d) X U=some b):(Op.equal t (.agg xs) (.agg E)).run P w=.ok b w/\P.eqGuardType P.depth t=false:=by
 cases d with
 |struct fs=>
  simp only[I0]at hc h;cases O:!P.stoodInHeld t&& !P.eqGuardType P.depth t&&uc P 0 fs.toList with
  |false=>grind
  |true=>
   rw[O]at h;simp only[cond_true]at h;simp only[alt,alL]at O;obtain⟨⟨q1,q2⟩,q3⟩:=O;refine⟨?_,q2⟩;have V:P.fieldsOf t=fs:=by simp[Program.fieldsOf,hd]
   unfold Op.equal Op.maxDepth;rw[run_equalIn_struct w 9999 t xs E (by grind) q1,V];exact zF (P:=P) (d:=9997) fs.toList 0 X U xs E b q3 h (by rw[Y.1];omega) (by rw[hy.1];omega) (λj s W=>by simpa using Y.2 j s W) (λj s W=>by simpa using hy.2 j s W)
 |_=>exact absurd rfl hc
end
section
variable {P:Program}{F:Nat->Prop}{own:Own}{w:World}
def Own.move (own:Own)(K:List Nat)(nx:Nat)(hd:Hd):Own:=λj=>if j=nx then some hd else if j∈K then(own j).map (λhd=>{ hd with bs:=[]})else own j
theorem j_ (nx:Nat)(E:Ob):∀ (K:List Nat) (h:List Ob) (j:Nat),nx ∉ K->(∀ id∈K,id<h.length)->
  aq (bf h (K.map (λid=>(id,Ob.dead))++[(nx,E)])) j=(if j=nx then E else if j∈K then .dead else aq h j)/\h.length<=(bf h (K.map (λid=>(id,Ob.dead))++[(nx,E)])).length/\nx< (bf h (K.map (λid=>(id,Ob.dead))++[(nx,E)])).length
 | [],h,j,_,_=>by
  simp only[amG,alC,bf,amf,if_false];refine⟨by simp_all [dF,eq_comm],?_,?_⟩ <;>rw[cB] <;>split <;>omega
 |id::K,h,j,U,Y=>by
  simp only[alD,not_or]at U;have O:=Y id (by simp);have V:(cF h id Ob.dead).length=h.length:=by rw[cB,if_pos O]
  obtain⟨X,q2,W⟩:=j_ nx E K (cF h id .dead) j U.2 (λi hi=>by grind);simp only[amh,alU,bf];refine⟨?_,by omega,W⟩;rw[X,dF];grind
variable {h:List Ob}
theorem kP(Y:Hp F own w h){nx:Nat}(hn:apX own h nx){w':World}(K:List Nat)(hK:∀ id∈K,∃ hd,own id=some hd)(hd':Hd)(ob:Ob)
  (hbs:∀ b∈hd'.bs,(∃ id∈K,∃ hd,own id=some hd/\b∈hd.bs)\/(w.heap.size<=b/\b<w'.heap.size))
  (hold:∀ b,b<w.heap.size->(¬ ∃ id∈K,∃ hd,own id=some hd/\b∈hd.bs)->w'.heap[b]? =w.heap[b]?) (hsz:w.heap.size<=w'.heap.size) (q2:w'.os=w.os) (q3:w'.tape=w.tape) (q4:w'.output=w.output)
  (hob:∀ bo,apx F own w bo w'->aps F bo w' hd' ob) (hnd:dI ob=false:=by rfl):Step F own w (bf h (K.map (λid=>(id,Ob.dead))++[(nx,ob)])) (own.move K nx hd') w':=by
 have hnK:nx ∉ K:=λE=>by obtain⟨hd,e⟩:=hK nx E;rw[hn.none]at e;cases e
 have W:∀ id∈K,id<h.length:=λid E=>by obtain⟨hd,e⟩:=hK id E;exact Y.dom _ _ e
 have fr:Fr { w:=w,own:=own} (own.move K nx hd') w':=by
  refine Fr.apM (λid hd h1=>?_) (λid hd b h1 h2=>?_) (λb hb hnb=>hold b hb λ⟨id,_,hd,e1,e2⟩ =>hnb ⟨id,hd,e1,e2⟩) hsz q2 q3 q4;have V:id≠nx:=λe=>by rw[e,hn.none]at h1;cases h1
  simp only[Own.move,if_neg V];by_cases E:id∈K
  exact⟨{ hd with bs:=[]},by simp[E,h1],rfl,rfl,rfl⟩;exact⟨hd,by simp[E,h1],.refl _⟩;grind [Own.move]
 refine⟨Y.upd fr.apD (λid=>id=nx\/id∈K) (j_ nx ob K h 0 hnK W).2.1 (λid O=>?_) (λid hd O h1=>?_) (λid O hd=>?_),fr,λid h1 h2=>?_⟩
 rotate_left 3
 grind [j_,Own.move]
 simp only[not_or]at O;refine⟨by grind [Own.move],by simp_all [j_],λhd b h1 h2=>hold b (Y.lt id hd b h1 h2) ?_⟩;rintro⟨X,E,U,e1,e2⟩;exact O.2 (Y.inj id X hd U b h1 e1 h2 e2▸E);simp only[Own.move]at h1;by_cases e:id=nx
 subst e;rw[if_pos rfl]at h1;cases h1;refine⟨(j_ _ ob K h 0 hnK W).2.2,λb hb=>?_⟩;rcases hbs b hb with⟨X,E,U,e1,e2⟩ |h3;refine⟨alG (Y.lt X U b e1 e2) hsz,Y.apart X U b e1 e2,λj hj V h4 h5=>?_⟩;simp only[Own.move,if_neg V]at h4;by_cases hm2:j∈K
 grind
 rw[if_neg hm2]at h4;exact hm2 (Y.inj j X hj U b h4 e1 h5 e2▸E);refine⟨h3.2,λhf=>by have:=Y.aoY b hf;omega,λj hj V h4 h5=>?_⟩;simp only[Own.move,if_neg V]at h4;by_cases hm2:j∈K
 grind
 rw[if_neg hm2]at h4;have:=Y.lt j hj b h4 h5;omega;rw[if_neg e]at h1;have E:id∈K:=O.resolve_left e;rw[if_pos E]at h1;cases ho:own id with
 |none=>grind
 |some U=>
  rw[ho]at h1;simp at h1;subst h1;exact⟨alG (W id E) (j_ nx ob K h 0 hnK W).2.1,λb hb=>by simp at hb⟩
 rw[(j_ nx ob K h id hnK W).1]at hd |-;by_cases e:id=nx
 subst e;rw[if_pos rfl]at hd |-;exact⟨hd',by simp[Own.move],hob _ fr.apD⟩;rw[if_neg e]at hd;have E:id∈K:=O.resolve_left e;rw[if_pos E]at hd;cases hd
structure Src (P:Program)(F:Nat->Prop)(own:Own)(w:World)(k:Tag)(m:List k.T)(v:Value)(news:List Value):Prop where
 len:∃ a cap,v=.slice a m.length cap
 cells:∀ (w1:World),w1.heap=w.heap->(Builtin.firstCells (aa k) m.length v).run P w1=.ok news.toArray w1
 size:news.length=m.length*aa k
 rel:∀ (i:Nat) (x:k.T),m[i]? =some x->∀ (j:Nat) (s:SV),(cellsOf k x)[j]? =some s->∃ u,news[i*aa k+j]? =some u/\Rel F own w s u
variable {n:Nat}
theorem Lr{size p:Nat}(h:p<n*size):p / size<n/\p % size<size/\p / size*size+p % size=p:=by
 have E:0<size:=by
  grind
 refine⟨(Nat.div_lt_iff_lt_mul E).2 h,anz _ E,?_⟩;grind [Nat.div_add_mod]
variable {k:Tag}{m:List k.T}{v:Value}
theorem Src.one{news:List Value}(h:Src P F own w k m v news):∀ u∈news,u.oneCell'=true:=by
 intro u W;obtain⟨p,O⟩:=ame W;have hlt:=(alz.1 O).1;rw[h.size]at hlt;obtain⟨h1,h2,U⟩:=Lr hlt;have hc:p % aa k< (cellsOf k (m.getD (p / aa k) (eC k))).length:=by grind [bE]
 obtain⟨X,E,V⟩:=h.rel _ _ (sr h1) _ _ (alE hc);rw[U,O]at E;simp only[alx]at E;subst E;exact mv (Jh (alE hc) V)
theorem NY{l:List k.T}{b o cap:Nat}(hc:∀ (i:Nat) (x:k.T),l[i]? =some x->∀ (j:Nat) (s:SV),(cellsOf k x)[j]? =some s->∃ u,w.cell? ⟨b,o+i*aa k+j,none⟩=some u/\Rel F own w s u):
  ∃ news,Src P F own w k l (.slice (some ⟨b,o,none⟩) l.length cap) news:=by
 have key:∀ p,p<l.length*aa k->w.cell? ⟨b,o+p,none⟩=some ((w.cell? ⟨b,o+p,none⟩).getD undef):=by
  intro p V;obtain⟨h1,h2,h3⟩:=Lr V;have U:p % aa k< (cellsOf k (l.getD (p / aa k) (eC k))).length:=by grind [bE]
  obtain⟨u,W,_⟩:=hc _ _ (sr h1) _ _ (alE U);grind
 refine⟨(List.range (l.length*aa k)).map λp=>(w.cell? ⟨b,o+p,none⟩).getD undef,⟨_,_,rfl⟩,λw1 hw1=>?_,by simp,λi x hi j s O=>?_⟩;refine run_firstCells_some w1 _ _ _ _ _ _ (by simp) λj v O=>?_;grind [nD,uh]
 obtain⟨u,W,Y⟩:=hc i x hi j s O;have E:=(alz.1 hi).1;have X:j<aa k:=by grind [bE]
 have hlt:i*aa k+j<l.length*aa k:=by
  have:(i+1)*aa k<=l.length*aa k:=alM _ E;grind
 refine⟨u,?_,Y⟩;rw[aml,List.getElem?_range hlt];grind
theorem zG{a:Option Addr}{cap:Nat}:Src P F own w k [] (.slice a 0 cap) []:=
 ⟨⟨_,_,rfl⟩,λw1 _=>by cases a <;>simp[Builtin.firstCells,loadCells,loadCellsFrom],by simp,λi x h=>by simp at h⟩
theorem su{k':Tag}{l:List k'.T}(h:zv k k' l=some m):∃ e:k'=k,m=e▸l:=by
 grind [zv]
theorem Jm{l:List k.T}{bs:List Nat}(h:ao8 F own w k l v bs):∃ news,Src P F own w k l v news:=by
 rcases h with⟨a,rfl,rfl,_⟩ | ⟨b,o,cap,cs,ty,rfl,h2,V,Y,U,W,E⟩;exact⟨[],zG⟩;exact NY λi x hi j s O=>by
  obtain⟨u,X,e2⟩:=E i x hi j s O;grind [eE]
theorem yp {α:Type}{l:List α}{a b i:Nat}{x:α}(h:((l.take b).drop a)[i]? =some x):l[a+i]? =some x/\a+i<b:=by
 grind
variable {l:List k.T}
theorem T7{x:Value}{bs:List Nat}(h:ao8 F own w k l x bs){sz cap:Nat}{lo hi:Int}{a:Option Addr}(h2:abL x sz lo hi a)(hz:sz=aa k):
  ∃ news,Src P F own w k ((l.take hi.toNat).drop lo.toNat) (.slice a (hi.toNat - lo.toNat) cap) news:=by
 have nil:hi.toNat<=lo.toNat->∃ news,Src P F own w k ((l.take hi.toNat).drop lo.toNat) (.slice a (hi.toNat - lo.toNat) cap) news:=λX=>by
  have e:(l.take hi.toNat).drop lo.toNat=[]:=aoi (by simp;omega);rw[e,show hi.toNat - lo.toNat=0 by omega];exact⟨[],zG⟩
 rcases h2 with h2| ⟨b,o,n,c,rfl,h3,rfl⟩;exact nil h2;rcases h with⟨a,e,rfl,_⟩ | ⟨b',o',U,cs,ty,e,q2,q3,q4,q5,q6,V⟩;grind
 cases e;have E:((l.take hi.toNat).drop lo.toNat).length=hi.toNat - lo.toNat:=by simp;omega
 rw[<-E];exact NY λi x O j s W=>by
  obtain⟨Y,_⟩:=yp O;obtain⟨u,g1,g2⟩:=V _ x Y j s W;grind [eE]
theorem Jn(X:Hp F own w h){s:SV}(hr:Rel F own w s v)(E:ug k h s=some m):∃ news,Src P F own w k m v news:=by
 cases hr with
 |rs c h0 h0' h1 h2=>
  obtain⟨e,rfl⟩:=su E;subst e;exact NY λi x hi j s hj=>⟨_,(h1 i x hi j s hj).2,h2 i x hi j s hj⟩
 |rs0=>
  obtain⟨e,rfl⟩:=su E;subst e;exact⟨[],zG⟩
 |e0=>simp[ug]at E;subst E;exact⟨[],zG⟩
 |v x=>
  unfold ug at E;split at E
  grind
  rename_i U;cases U;simp at E;subst E;exact⟨[],zG⟩;grind
  grind
  grind
  cases E
 |os h1 h2=>
  rename_i id hd;simp only[ug]at E;cases O:aq h id with
  |row k' l=>
   rw[O]at E;simp only[TG]at E;obtain⟨e,rfl⟩:=su E;subst e;obtain⟨hd',e0,V⟩:=X.at O rfl;rw[h1]at e0;cases e0;exact Jm V
  |_=>rw[O]at E;cases E
 |vw h1 h2 W=>
  rename_i sz id cap lo hi hd a;simp only[ug]at E;cases O:aq h id with
  |row k' l=>
   rw[O]at E;simp only[abB]at E;cases Y:Nat.beq sz (aa k')with
   |false=>grind
   |true=>
    rw[Y]at E;simp only[cond_true]at E;obtain⟨e,rfl⟩:=su E;subst e;obtain⟨hd',e0,V⟩:=X.at O rfl;rw[h1]at e0;cases e0;exact T7 V h2 (alu Y)
  |_=>rw[O]at E;cases E
 |_=>simp[ug]at E
theorem rf (z:Array Value)(n:Nat):(Builtin.zeroCells z n).size=n*z.size:=by simp[Builtin.zeroCells]
variable {t t2 ty e:TypeId}{z:Value}{a0:Option Addr}{m:Nat}
theorem tD{e2:TypeId}{i:TypeInfo}(ht:P.underlying t=some (.slice e))(X:P.underlying t2=some (.slice e2))(hi:P.info? e=some i)(hz:i.zero=some z){cap:Nat}{olds:List Value}
  (E:∀ w1:World,w1.heap=w.heap->(Builtin.firstCells i.size n (.slice a0 n cap)).run P w1=.ok olds.toArray w1)   {news:List Value} (hv:∃ a c,v=.slice a m c) (O:∀ w1:World,w1.heap=w.heap->(Builtin.firstCells i.size m v).run P w1=.ok news.toArray w1)
  (Y:cap<n+m) (h63:n+m<=9223372036854775807) (W:(n+m)*i.bytes<=d9):
  (Builtin.append_ #[t,t2] ty #[.slice a0 n cap,v]).run P w=.ok (.slice (some ⟨w.heap.size,0,none⟩) (n+m) (grownCap w (n+m) cap e)) (w.drew.alloc (.cells (olds.toArray++news.toArray++Builtin.zeroCells z.cells (grownCap w (n+m) cap e - (n+m))) e)):=by
 obtain⟨a,c,rfl⟩:=hv;have hn:¬ (n+m<=cap):=by omega
 have V:¬ (9223372036854775807< ((n:Int)+(m:Int))):=by omega
 have U:¬ (281474976710656<Builtin.nextslicecap (n+m) cap*i.bytes):=by have:=growslice_fits Y W;omega
 have h1:=E w.drew rfl;have h2:=O w.drew rfl;simp[Builtin.append_,run_underlying ht,run_underlying X,sizeOf,typeInfo,zeroValue,hi,hz,Builtin.lenOf,hn,V,U,Question.forced,h1,h2,newRow,grownCap];grind
theorem wC{X:TypeId}{i:TypeInfo}(V:P.underlying t=some (.slice e))(O:P.underlying t2=some (.slice X))(hi:P.info? e=some i){b o cap:Nat}{news:List Value}(Y:∃ a c,v=.slice a m c)(E:(Builtin.firstCells i.size m v).run P w=.ok news.toArray w)
  (W:n+m<=cap) {w':World} (U:(storeCells ⟨b,o+n*i.size,none⟩ news 0).run P w=.ok () w'):
  (Builtin.append_ #[t,t2] ty #[.slice (some ⟨b,o,none⟩) n cap,v]).run P w=.ok (.slice (some ⟨b,o,none⟩) (n+m) cap) w':=by
 obtain⟨a,c,rfl⟩:=Y;simp[Builtin.append_,run_underlying V,run_underlying O,sizeOf,typeInfo,hi,Builtin.lenOf,W,E,nD,U]
theorem Ch{U:TypeId}{i:TypeInfo}(W:P.underlying t=some (.slice e))(O:P.underlying t2=some (.slice U))(hi:P.info? e=some i){cap:Nat}(V:∃ a c,v=.slice a 0 c)(E:(Builtin.firstCells i.size 0 v).run P w=.ok #[] w):
  (Builtin.append_ #[t,t2] ty #[.slice a0 0 cap,v]).run P w=.ok (.slice a0 0 cap) w:=by
 obtain⟨a,c,rfl⟩:=V;cases a0 <;>simp[Builtin.append_,run_underlying W,run_underlying O,sizeOf,typeInfo,hi,Builtin.lenOf,E,storeCells]
def rH (w:World)(E O:Nat)(e:TypeId):E<=grownCap w E O e:=grownCap_ge w E O e
def X3 (P:Program)(F:Nat->Prop)(own:Own)(w:World)(k:Tag)(l m:List k.T)(v:Value)(bs:List Nat):Prop:=bs=[]/\m≠[]/\(∃ a,v=.slice a l.length l.length)/\∃ olds,Src P F own w k l v olds
theorem Sb(hp:Hp F own w h){nx:Nat}(hn:apX own h nx){Y:TypeId}{i:TypeInfo}(ht:P.underlying t=some (.slice e))(ht2:P.underlying t2=some (.slice Y))(hi:P.info? e=some i)(hz:i.zero=some z)(hzs:z.cells.size=i.size)(hk:i.size=aa k)(hby:1<=i.bytes)
  {m:List k.T} {u:Value} {bs:List Nat} (hrow:ao8 F own w k l v bs\/X3 P F own w k l m v bs) {K:List Nat} (hK:∀ id∈K,∃ hd,own id=some hd) (hKb:∀ b∈bs,∃ id∈K,∃ hd,own id=some hd/\b∈hd.bs) (hKo:∀ id∈K,∀ hd,own id=some hd->∀ b∈hd.bs,b∈bs)
  {news:List Value} (X:Src P F own w k m u news) (hfit:(l++m).length*i.bytes<=d9):
  (l++m).length<=aK/\∃ v' hd' w',(Builtin.append_ #[t,t2] ty #[v,u]).run P w=.ok v' w'/\hd'.v=v'/\pr v'=true/\Step F own w (bf h (K.map (λid=>(id,Ob.dead))++[(nx,.row k (l++m))])) (own.move K nx hd') w':=by
 have hlen:(l++m).length<=aK:=by
  have:(l++m).length<=(l++m).length*i.bytes:=amB _ hby;grind [d9,aK]
 refine⟨hlen,?_⟩;have h63:(l++m).length<=9223372036854775807:=by grind [aK]
 have O:=X.len;rw[alA]at hlen h63 hfit;have W:∀ (a0:Option Addr) (cap:Nat) (olds:List Value),v=.slice a0 l.length cap->cap<l.length+m.length->(∀ w1:World,w1.heap=w.heap->(Builtin.firstCells i.size l.length v).run P w1=.ok olds.toArray w1)->olds.length=l.length*aa k->
   (∀ (i:Nat) (x:k.T),l[i]? =some x->∀ (j:Nat) (s:SV),(cellsOf k x)[j]? =some s->∃ u,olds[i*aa k+j]? =some u/\Rel F own w s u)->
   ∃ v' hd' w',(Builtin.append_ #[t,t2] ty #[v,u]).run P w=.ok v' w'/\hd'.v=v'/\pr v'=true/\Step F own w (bf h (K.map (λid=>(id,Ob.dead))++[(nx,.row k (l++m))])) (own.move K nx hd') w':=by
  intro a0 cap olds hv hcap V hol apR;rw[hv]at V;have E:=tD (P:=P) (ty:=ty) ht ht2 hi hz V O (by rw[hk];exact X.cells) hcap h63 hfit;rw[<-hv]at E;have hge:=rH w (l.length+m.length) cap e;let cs:=olds.toArray++news.toArray++Builtin.zeroCells z.cells (grownCap w (l.length+m.length) cap e - (l.length+m.length))
  have hcs:cs.size=grownCap w (l.length+m.length) cap e*aa k:=by
   simp only[cs,Array.size_append,anl,rf,hzs,hk,hol,X.size,<-aos];grind
  refine⟨_,⟨none,_,[],[w.heap.size]⟩,_,E,rfl,rfl,kP hp hn K hK _ _ (λb hb=>?_) (λb hb _=>?_) ?_ rfl rfl rfl λbo g=>?_⟩;simp_all;exact qA w.drew _ b hb;simp_all;refine .inr ⟨w.heap.size,0,grownCap w (l.length+m.length) cap e,cs,e,by simp,rfl,kC w.drew _,by omega,by grind,by grind,λq x hq j s hj=>?_⟩;have hjl:j<aa k:=by grind [bE]
  rw[alF];rw[amn]at hq;split at hq
  rename_i hlt;obtain⟨u',e1,Y⟩:=apR q x hq j s hj;refine⟨u',?_,Y.mono g⟩;grind
  rename_i hlt;obtain⟨u',e1,Y⟩:=X.rel (q - l.length) x hq j s hj;refine⟨u',?_,Y.mono g⟩;have hb:=(alz.1 e1).1;have hqq:q*aa k+j=olds.length+((q - l.length)*aa k+j):=by
   rw[hol];have:q=l.length+(q - l.length):=by omega
   grind
  simp only[cs];simp_all [alS]
 rcases hrow with(⟨a,rfl,rfl,rfl⟩ | ⟨b,o,cap,cs,tyb,rfl,rfl,h3,h4,h5,h6,h7⟩) | ⟨rfl,hm,⟨a,hv⟩,olds,ho⟩
 rotate_left 2
 have:0<m.length:=amc.2 hm;exact W a l.length olds hv (by omega) (by rw[hk];exact ho.cells) ho.size ho.rel;by_cases hm:m=[]
 subst hm;have hnw:news=[]:=alI (by simpa using X.size);subst hnw;have E:=Ch (P:=P) (ty:=ty) ht ht2 hi (a0:=a) (cap:=0) O (by have:=X.cells w rfl;rw[hk];exact this);exact⟨_,⟨none,_,[],[]⟩,w,E,rfl,rfl,kP hp hn K hK _ _ (λb hb=>by simp at hb) (λ_ _ _=>rfl) (alw _) rfl rfl rfl λbo g=>.inl ⟨a,rfl,rfl,rfl⟩⟩;have:0<m.length:=amc.2 hm;exact W a 0 [] rfl (by simp;omega) (λw1 _=>by cases a <;>simp[Builtin.firstCells,loadCells,loadCellsFrom]) (by simp) (λi x hx=>by simp at hx);by_cases U:l.length+m.length<=cap
 have hfits:o+l.length*aa k+news.length<=cs.size:=by
  rw[X.size];have:(l.length+m.length)*aa k<=cap*aa k:=alM _ U;grind
 obtain⟨cs',w',q1,q2,q3,q4⟩:=jR (P:=P) (b:=b) (o:=o+l.length*aa k) (ty:=tyb) news 0 w cs h3 (by omega) X.one;have E:=wC (P:=P) (ty:=ty) ht ht2 hi (b:=b) (o:=o) (n:=l.length) (cap:=cap) O (by have:=X.cells w rfl;rw[hk];exact this) U (w':=w') (by grind);refine⟨_,⟨none,_,[],[b]⟩,w',E,rfl,rfl,kP hp hn K hK _ _ (λb' hb'=>by grind) (λb' hb' hn'=>q2.other b' λe=>hn' (by simp_all)) (by rw[q2.size];omega) q2.os q2.tape q2.output λbo g=>?_⟩;refine .inr ⟨b,o,cap,cs',tyb,by simp,rfl,q2.here,by omega,by grind,by grind,λq x hq j s hj=>?_⟩;have hjl:j<aa k:=by grind [bE]
 rw[amn]at hq;split at hq
 rename_i hlt;obtain⟨u',e1,Y⟩:=h7 q x hq j s hj;refine⟨u',?_,Y.mono g⟩;have:(q+1)*aa k<=l.length*aa k:=alM _ hlt;grind
 rename_i hlt;obtain⟨u',e1,Y⟩:=X.rel (q - l.length) x hq j s hj;refine⟨u',?_,Y.mono g⟩;have hb:=(alz.1 e1).1;have hqq:o+q*aa k+j=o+l.length*aa k+0+((q - l.length)*aa k+j):=by
  have:q=l.length+(q - l.length):=by omega
  grind
 simp_all;obtain⟨olds,ho⟩:=Jm (P:=P) (F:=F) (own:=own) (w:=w) (k:=k) (l:=l) (v:=.slice (some ⟨b,o,none⟩) l.length cap) (bs:=[b]) (.inr ⟨b,o,cap,cs,tyb,rfl,rfl,h3,h4,h5,h6,h7⟩);exact W (some ⟨b,o,none⟩) cap olds rfl (by omega) (by rw[hk];exact ho.cells) ho.size ho.rel
end
end Go.Sx
end
