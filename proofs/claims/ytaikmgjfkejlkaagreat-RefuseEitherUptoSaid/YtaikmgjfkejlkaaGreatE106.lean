/- Part of the proof that the law RefuseEither returns true and leaves its arguments as they were, for all arguments of bulk at most 1048576 (the Upto form). -/
import Derived.Test.YtaikmgjfkejlkaaGreatE105
import Derived.Sort.LoopGhostIn
import Derived.RangeFuncLeaves
import Derived.RangeFuncRecord
import Derived.Test.YtaikmgjfkejlkaaGreatE101
import Derived.Attr
import Derived.RangeFuncIn
import Derived.TacticsIn
set_option linter.all false
set_option maxHeartbeats 4000000
set_option maxRecDepth 100000
section
namespace Go.Sx
open Go.RowKit
section
variable {P:Program}{F:Nat->Prop}{own X2:Own}{w:World}{w0:Bs}{ro:Option Nat}{nd:Nat}{ts:Tis}{G:Cons}{L:wc}{N:Nat}
structure Un (m:Nat->Option Nat)(n:Nat)(own X2:Own):Prop where
 ids:∀ k,k<n->∀ hd,(m k).bind own=some hd->∃ hd',X2 k=some hd'/\hd.like hd'
theorem ZK {m:Nat->Option Nat}{n:Nat}(hm:Un m n own X2)(hk:∀ k,k<n->(m k).isSome=true)(ho:∀ b,¬dg F own b->¬dg F X2 b):∀ (f:Nat) (s:SV) (v:Value),mM f n s=true->Rel F own w (ren m f s) v->Rel F X2 w s v:=by
 have base:∀ (f:Nat) (s:SV) (v:Value),mM f n s=true->Rel F own w (ren m f s) v->(∀ l o,s≠ .ep l o)->(∀ z l,s≠ .ls z l)->(∀ l,s≠ .agg l)->(∀ l,s≠ .tup l)->(∀ f l l2,s≠ .fn f l l2)->Rel F X2 w s v:=by
  intro f s v hi hr n1 n2 n3 n4 n5;have hlt:∀ {id},Nat.blt id n=true->∃ j,m id=some j/\id<n:=λ{id} h=>by
   have V:id<n:=nbl h;have:=hk id V;cases hm':m id <;>grind
  cases s with
  |any=>exact .any _|v x=>cases f <;>(have E:Rel F own w (.v x) v:=hr) <;>rw[cT E] <;>exact .v _|e0=>cases f <;>(have E:Rel F own w .e0 v:=hr) <;>cases E <;>exact .e0|rs k l=>cases f <;>(have E:Rel F own w (.rs k l) v:=hr) <;>exact E.aoQ (.rs) ho|rc k l=>cases f <;>(have E:Rel F own w (.rc k l) v:=hr) <;>exact E.aoQ (.rc) ho|rm k k2 l=>cases f <;>(have E:Rel F own w (.rm k k2 l) v:=hr) <;>exact E.aoQ (.rm) ho
  |ptr id off=>
   have X:Nat.blt id n=true:=by cases f <;>exact hi
   obtain⟨j,e,V⟩:=hlt X;have E:Rel F own w (.ptr j off) v:=by grind [ren,zV]
   cases E with
   |ptr h1 h2=>
    obtain⟨hd',Y,W⟩:=hm.ids id V _ (by rw[e];exact h1);exact .ptr Y (by rw[W.1];exact h2)
  |os id=>
   have X:Nat.blt id n=true:=by cases f <;>exact hi
   obtain⟨j,e,V⟩:=hlt X;have E:Rel F own w (.os j) v:=by grind [ren,zV]
   cases E with
   |os h1 h2=>
    obtain⟨hd',Y,W⟩:=hm.ids id V _ (by rw[e];exact h1);rw[<-W.2.1];exact .os Y (by rw[W.2.1];exact h2)
  |rp sz id i off=>
   have X:Nat.blt id n=true:=by cases f <;>exact hi
   obtain⟨j,e,V⟩:=hlt X;have E:Rel F own w (.rp sz j i off) v:=by grind [ren,zV]
   cases E with
   |rp h1 h2 h3=>
    obtain⟨hd',Y,W⟩:=hm.ids id V _ (by rw[e];exact h1);exact .rp Y (by rw[W.2.1];exact h2) h3
  |vw sz id lo hh=>
   have X:Nat.blt id n=true:=by cases f <;>exact hi
   obtain⟨j,e,V⟩:=hlt X;have E:Rel F own w (.vw sz j lo hh) v:=by grind [ren,zV]
   cases E with
   |vw h1 h2 h3=>
    obtain⟨hd',Y,W⟩:=hm.ids id V _ (by rw[e];exact h1);exact .vw Y (by rw[W.2.1];exact h2) h3
  |gr id i=>
   have X:Nat.blt id n=true:=by cases f <;>exact hi
   obtain⟨j,e,V⟩:=hlt X;have E:Rel F own w (.gr j i) v:=by grind [ren,zV]
   cases E with
   |gr h1 h2 h3=>
    obtain⟨hd',Y,W⟩:=hm.ids id V _ (by rw[e];exact h1);exact .gr Y (by rw[W.2.2];exact h2) h3
  |gp sz id i i2 off=>
   have X:Nat.blt id n=true:=by cases f <;>exact hi
   obtain⟨j,e,V⟩:=hlt X;have E:Rel F own w (.gp sz j i i2 off) v:=by grind [ren,zV]
   cases E with
   |gp h1 h2 h3=>
    obtain⟨hd',Y,W⟩:=hm.ids id V _ (by rw[e];exact h1);exact .gp Y (by rw[W.2.2];exact h2) h3
  |ep l o=>grind|ls z l=>grind|agg l=>grind|tup l=>grind|fn f l l2=>grind|_=>cases f <;>simp[mM]at hi
 intro f;induction f with
 |zero=>
  intro s v hi hr;refine base 0 s v hi hr ?_ ?_ ?_ ?_ ?_ <;>intros <;>(intro e;subst e;simp[mM]at hi)
 |succ f ih=>
  intro s v hi hr;cases s with
  |ep l o=>
   simp only[mM,alA]at hi;simp only[ren]at hr;cases hr with
   |ep c h1 h2=>
    have hg:∀ (j:Nat) (s:SV),l[j]? =some s->(l.map (ren m f))[j]? =some (ren m f s):=λj s O=>by simp[O]
    exact .ep c (λj s O=>⟨ho _ (h1 j _ (hg j s O)).1,(h1 j _ (hg j s O)).2⟩) λj s O=>ih s _ (hi s (alf O)) (h2 j _ (hg j s O))
  |ls z l=>
   simp only[mM,alA]at hi;simp only[ren]at hr;generalize hq:l.map (ren m f)=l' at hr;cases hr with
   |ls c hz h0 h1 h2=>
    subst hq;have hg:∀ (j:Nat) (s:SV),l[j]? =some s->(l.map (ren m f))[j]? =some (ren m f s):=λj s O=>by simp[O]
    rw[alY]at hz;exact .ls c hz h0 (λj s O=>⟨ho _ (h1 j _ (hg j s O)).1,(h1 j _ (hg j s O)).2⟩) λj s O=>ih s _ (hi s (alf O)) (h2 j _ (hg j s O))
  |agg l=>
   simp only[mM,alA]at hi;simp only[ren]at hr;cases hr with
   |agg h0 h1=>exact .agg (by grind) λj s O=>ih s _ (hi s (alf O)) (h1 j _ (by simp[O]))
  |tup l=>
   simp only[mM,alA]at hi;simp only[ren]at hr;cases hr with
   |tup h0 h1=>exact .tup (by grind) λj s O=>ih s _ (hi s (alf O)) (h1 j _ (by simp[O]))
  |fn g l l2=>
   simp only[mM,akZ,alA]at hi;simp only[ren]at hr;cases hr with
   |fn h0 h0' h1 h2=>exact .fn (by grind) (by grind) (λj s O=>ih s _ (hi.1 s (alf O)) (h1 j _ (by simp[O]))) λj s O=>ih s _ (hi.2 s (alf O)) (h2 j _ (by simp[O]))
  |_=>refine base (f+1) _ v hi hr ?_ ?_ ?_ ?_ ?_ <;>intros <;>(intro e;cases e)
theorem QT:∀ a l:List SV,(wkL a l).length=l.length
 | [],[] =>rfl| [],_::_=>rfl|_::_,[] =>rfl
 |_::r,_::s=>by simp[wkL,QT r s]
theorem QU:∀ (a l:List SV) (j:Nat) (s:SV),(wkL a l)[j]? =some s->s=.any\/l[j]? =some s
 | [],l,j,s,h=>.inr (by cases l <;>exact h)
 |_::_,[],j,s,h=>.inr h
 |a::r,x::l,0,s,h=>by
  grind [wkL]
 |a::r,x::l,j+1,s,h=>by
  have h:(wkL r l)[j]? =some s:=by grind [wkL]
  rcases QU r l j s h with h|h <;>grind
theorem Mv:∀ l:List SV,wkL l l=l
 | [] =>rfl
 |x::l=>by
  have:(bif QD x then SV.any else x)=x:=by cases x <;>rfl
  simp[wkL,this,Mv l]
attribute [go_sem] Mv
theorem Sy (a o:Ob):dL (Eu a o)=dL o:=by
 unfold Eu;split <;>rfl
theorem UD (a:Ob){hd:Hd}{o:Ob}(h:ao5 F own w hd o):ao5 F own w hd (Eu a o):=by
 unfold Eu;split
 rename_i kk Y l p;obtain⟨b,es,O,h1,h2,W,E,X,V⟩:=h;match p,E,V with
 |none,E,V=>exact⟨b,es,O,h1,h2,W,E,X,V⟩|some (i,none),E,V=>exact⟨b,es,O,h1,h2,W,E,X,trivial⟩|some (i,some x),E,V=>exact⟨b,es,O,h1,h2,W,E,X,V⟩
 rename_i a l;obtain⟨b,cs,ty,h1,h2,W,E,X⟩:=h;exact⟨b,cs,ty,h1,h2,W,by grind [QT],λj s hj=>by
  rcases QU a l j s hj with rfl|hj;exact .any _;grind⟩
 exact h
theorem aa1 {m:Nat->Option Nat}{n:Nat}(hm:Un m n own X2)(hk:∀ k,k<n->(m k).isSome=true)(ho:∀ b,¬dg F own b->¬dg F X2 b){hd:Hd}{o:Ob}(hi:wd n o=true)(h:ao5 F own w hd (vj m o)):ao5 F X2 w hd o:=by
 cases o with
 |cells l=>
  simp only[wd,alA]at hi;obtain⟨b,cs,ty,h1,h2,O,X,W⟩:=h;exact⟨b,cs,ty,h1,h2,O,by grind,λj s hj=>ZK hm hk ho 3 s _ (hi s (alf hj)) (W j _ (by simp[hj]))⟩
 |dead=>trivial|row k l=>exact aoO.aoQ h (.inl ho)|fz k l=>exact Rel.aoQ h .rs ho
 |mp kk vk l apj=>
  have key:∀ q,ao5 F own w hd (.mp kk vk l q)->(∃ b es E,hd.v=.map (some b)/\hd.bs=[b]/\w.heap[b]? =some (.map es E)/\apw F X2 w kk vk (eI kk vk l q) es/\Stamped es E/\apT own kk vk l es E q):=λq h=>by
   obtain⟨b,es,E,h1,h2,O,X,W,h6⟩:=h;exact⟨b,es,E,h1,h2,O,⟨X.1,λi x hi=>by
    obtain⟨e,Y,e2,e3,e4⟩:=X.2 i x hi;exact⟨e,Y,e2,e3.aoQ (ua _ _) ho,e4.aoQ (ua _ _) ho⟩⟩,W,h6⟩
  match apj,hi,h with
  |none,_,h=>obtain⟨b,es,E,h1,h2,O,X,W,h6⟩:=key _ h;exact⟨b,es,E,h1,h2,O,X,W,trivial⟩
  |some (i,q),hi,h=>
   have hlt:i<n:=by grind [wd,Nat.blt_eq]
   have hs:=hk i hlt;change ao5 F own w hd (Ox kk vk l q (m i))at h;cases V:m i with
   |none=>grind
   |some j=>
    rw[V]at h;change ao5 F own w hd (Ox kk vk l q (some j))at h;have h':ao5 F own w hd (.mp kk vk l (some (j,q))):=by cases q <;>exact h
    obtain⟨b,es,E,h1,h2,O,X,W,h6⟩:=key _ h';cases q with
    |none=>
     obtain⟨hd2,t1,t2⟩:=h6;obtain⟨hd',Y,e2⟩:=hm.ids i hlt hd2 (by grind);exact⟨b,es,E,h1,h2,O,X,W,hd',Y,e2.2.2.trans t2⟩
    |some x=>
     obtain⟨hd2,e,t1,t2,t3⟩:=h6;obtain⟨hd',Y,e2⟩:=hm.ids i hlt hd2 (by grind);exact⟨b,es,E,h1,h2,O,X,W,hd',e,Y,t2,e2.2.1.trans t3⟩
 |aoV k l=>
  rcases h with h| ⟨b,o,cap,cs,ty,bs,h1,h2,O,X,W,h6,h7,h8,h9⟩;exact .inl h;exact .inr ⟨b,o,cap,cs,ty,bs,h1,h2,O,X,W,h6,h7,h8,h9.aoQ (.inl ho)⟩
 |ab r=>
  refine⟨h.1,r.loc _ _ _ w w h.2 (ak2 _) (λb hbl hn=>rfl) (λb hbl hn=>⟨alD λhc=>ho b hc hn.1,hn.2⟩)⟩
 |raw o=>exact h
 |mi mid n0 left cur=>
  obtain⟨b,h1,h2,O⟩:=h;refine⟨b,h1,h2,λi hj=>?_⟩;subst hj;simp only[wd]at hi;have hlt:i<n:=by simp_all
  have hs:=hk i hlt;cases V:m i with
  |none=>grind
  |some j=>
   obtain⟨hdm,bm,seen,c0,ss,k1,k2,k3,k4⟩:=O j (by simp[V]);obtain⟨hd',Y,e2⟩:=hm.ids i hlt hdm (by grind);exact⟨hd',bm,seen,c0,ss,Y,e2.2.1.trans k2,k3,k4⟩
 |fwd n0=>
  intro i hj;subst hj;simp only[wd]at hi;have hlt:i<n:=by simp_all
  have hs:=hk i hlt;cases V:m i with
  |none=>grind
  |some j=>
   obtain⟨hdm,k1,k2,k3⟩:=h j (by simp[V]);obtain⟨hd',Y,e2⟩:=hm.ids i hlt hdm (by grind);exact⟨hd',Y,e2.2.1.trans k2,k3⟩
theorem DV {m:Nat->Option Nat}{t:List (Nat×SV)}{n:Nat}(i:Nat):∀ t2,RY m n t t2->lk i t2=.any\/(lk i t=ren m 5 (lk i t2)/\mM 5 n (lk i t2)=true)
 | [],_=>.inl rfl
 |(j,s)::r,h=>by
  obtain⟨⟨h1,h2⟩,E⟩:=h;rw[px];by_cases O:j=i
  grind
  rw[if_neg O];exact DV i r E
theorem Mw {m:Nat->Option Nat}{n:Nat}{h:List Ob}:∀ (js:List Nat) (h2:List Ob),Hk m n h js h2->js.length=h2.length/\∀ (i j:Nat),js[i]? =some j->JM m n h j (ap h2 i)
 | [],[],_=>⟨rfl,λi j O=>by simp at O⟩
 | [],_::_,E=>E.elim|_::_,[],E=>E.elim
 |j::js,o::r,E=>by
  obtain⟨W,V⟩:=Mw js r E.2;refine⟨by simp[W],λi X O=>?_⟩;cases i with
  |zero=>simp at O;subst O;exact E.1
  |succ i=>exact V i X (by grind)
theorem w5:∀ (js:List Nat) (h:List Ob) (i j:Nat),js[i]? =some j->dL (ap h i)=false->j∈mw js h
 | [],h,i,j,hj,_=>by simp at hj
 |j0::js,[],i,j,_,hl=>by simp[ap,dL]at hl
 |j0::js,o::r,0,j,hj,hl=>by
  simp_all [ap,mw]
 |j0::js,o::r,i+1,j,hj,hl=>by
  have:=w5 js r i j (by grind) (by grind [ap]);grind [mw]
theorem IJ:∀ (js:List Nat) (h:List Ob) (i E j:Nat),uniq (mw js h)=true->js[i]? =some j->js[E]? =some j->dL (ap h i)=false->dL (ap h E)=false->i=E
 | [],h,i,E,j,_,hj,_,_,_=>by simp at hj
 |j0::js,[],i,E,j,_,_,_,hl,_=>by simp[ap,dL]at hl
 |j0::js,o::r,i,E,j,X,h1,h2,l1,W=>by
  have V:uniq (mw js r)=true:=by
   grind [mw,uniq]
  have O:dL o=false->j0 ∉ mw js r:=λhd=>by
   simp only[mw,hd,cond_false,uniq,akZ]at X;grind [wZ]
  cases i with
  |zero=>
   simp at h1;subst h1;cases E with
   |zero=>rfl
   |succ E=>exact absurd (w5 js r E j0 (by simpa using h2) (by simpa[ap]using W)) (O (by simpa[ap]using l1))
  |succ i=>
   cases E with
   |zero=>simp at h2;subst h2;exact absurd (w5 js r i j0 (by simpa using h1) (by simpa[ap]using l1)) (O (by simpa[ap]using W))
   |succ E=>rw[IJ js r i E j V (by simpa using h1) (by simpa using h2) (by simpa[ap]using l1) (by simpa[ap]using W)]
theorem E7:∀ (js:List Nat) (i n:Nat),Bk i js n=true->∀ k j,js[k]? =some j->i+k<n->j=i+k
 | [],i,n,_,k,j,E,_=>by simp at E
 |j0::js,i,n,h,k,j,E,hlt=>by
  simp only[Bk,akZ,alx]at h;cases k with
  |zero=>
   simp at E;simp_all <;>grind
  |succ k=>
   have:=E7 js (i+1) n h.2 k j (by grind) (by omega);omega
def iQ (js:List Nat)(h2:List Ob)(own:Own):Own:=λk=>if k<h2.length then((js[k]?).bind own).map (λhd=>if dL (ap h2 k)then { hd with bs:=[]}else hd)else none
theorem jr {js:List Nat}{h2:List Ob}{k:Nat}{hd:Hd}(h:iQ js h2 own k=some hd):k<h2.length/\∃ j hd0,js[k]? =some j/\own j=some hd0/\hd0.like hd/\(∀ b∈hd.bs,dL (ap h2 k)=false/\hd=hd0):=by
 unfold iQ at h;split at h
 rename_i hlt;rw[ami]at h;obtain⟨hd0,h1,E⟩:=h;rw[anI]at h1;obtain⟨j,O,V⟩:=h1;refine⟨hlt,j,hd0,O,V,?_,?_⟩;split at E <;>subst E <;>exact⟨rfl,rfl,rfl⟩
 grind
 cases h
theorem UE {js:List Nat}{h2:List Ob}{b:Nat}(O:¬dg F own b):¬dg F (iQ js h2 own) b:=by
 rintro (X| ⟨k,hd,e,E⟩);exact O (.inl X);obtain⟨_,j,hd0,_,V,_,W⟩:=jr e;obtain⟨_,rfl⟩:=W b E;exact O (.inr ⟨j,hd,V,E⟩)
variable {n0:Nat}{st E:St}
theorem Pd{js:List Nat}(hs:Sub js n0 st E)(hp:Hp F own w st.h)(hle:n0<=E.h.length):
  Hp F (iQ js E.h own) w E.h/\(∀ F b,¬dg F own b->¬dg F (iQ js E.h own) b)/\(∀ (F:Nat->Prop) (f:Nat) (s:SV) (v:Value),mM f E.h.length s=true->Rel F own w (ren (Ev js) f s) v->Rel F (iQ js E.h own) w s v)/\∀ id hd,id<n0->own id=some hd->∃ hd',iQ js E.h own id=some hd'/\hd.like hd':=by
 obtain⟨⟨hu,hk,hlt⟩,_,hh⟩:=hs;obtain⟨hlen,hob⟩:=Mw js E.h hh;have hjs:∀ k,k<E.h.length->(Ev js k).isSome=true:=λk hkl=>by
  show(nth js k).isSome=true;grind [gC]
 have hun:Un (Ev js) E.h.length own (iQ js E.h own):=⟨λk hkl hd e=>by
  have e':(js[k]?).bind own=some hd:=by rw[<-gC];exact e
  refine⟨if dL (ap E.h k)then { hd with bs:=[]}else hd,?_,?_⟩;simp_all [iQ];split <;>exact⟨rfl,rfl,rfl⟩⟩
 have O:∀ (F:Nat->Prop) b,¬dg F own b->¬dg F (iQ js E.h own) b:=λF b V=>UE V;refine⟨⟨λid hd e=>(jr e).1,hp.aoB,λid hd b e V=>?_,λi j hi hj b e1 X hb1 Y=>?_,λid hd b e V=>?_,λid W=>?_⟩,O,λF f s v=>ZK hun hjs (O F) f s v,λid hd hid e=>?_⟩;obtain⟨_,j,hd0,_,X,_,e4⟩:=jr e;obtain⟨_,rfl⟩:=e4 b V;exact hp.apart j hd b X V;obtain⟨_,j1,hd1,p1,p2,_,p4⟩:=jr e1;obtain⟨_,j2,hd2,q1,q2,_,q4⟩:=jr X;obtain⟨l1,rfl⟩:=p4 b hb1;obtain⟨l2,rfl⟩:=q4 b Y;have:=hp.inj j1 j2 hi hj b p2 q2 hb1 Y;grind [IJ]
 obtain⟨_,j,hd0,_,X,_,e4⟩:=jr e;obtain⟨_,rfl⟩:=e4 b V;exact hp.lt j hd b X V;have hidl:id<E.h.length:=by
  rcases ama id E.h.length with h|h;exact h;rw[mW h]at W;cases W
 have hj:∃ j,js[id]? =some j:=⟨js[id]'(by omega),by simp⟩;obtain⟨j,hj⟩:=hj;have ho:=hob id j hj;unfold JM at ho;rw[W]at ho;simp only[cond_false]at ho;obtain⟨ho1,ho2⟩:=ho;have hd1:dL (ap st.h j)=false:=by grind [Sy,vB]
 obtain⟨hd,e1,X⟩:=hp.obs j hd1;grind [UD,aa1,iQ]
 have hjid:js[id]? =some id:=by
  grind [E7]
 refine⟨if dL (ap E.h id)then { hd with bs:=[]}else hd,?_,?_⟩;unfold iQ;grind;split <;>exact⟨rfl,rfl,rfl⟩
theorem Kf{js:List Nat}(hs:Sub js n0 st E)(hp:Hp F own w st.h)(O:Fr w0 own w)(hn:∀ id hd,w0.own id=some hd->id<n0)(Y:n0<=E.h.length):
  Hp F (iQ js E.h own) w E.h/\Fr w0 (iQ js E.h own) w/\(∀ b,¬dg F own b->¬dg F (iQ js E.h own) b)/\∀ (f:Nat) (s:SV) (v:Value),mM f E.h.length s=true->Rel F own w (ren (Ev js) f s) v->Rel F (iQ js E.h own) w s v:=by
 obtain⟨q1,q2,q3,q4⟩:=Pd hs hp Y;refine⟨q1,⟨λid hd e=>?_,λid hd b e hb=>?_,O.os,O.tape,O.output,O.size,O.block⟩,q2 F,q3 F⟩;obtain⟨X,e1,l1⟩:=O.ids id hd e;obtain⟨V,W,l2⟩:=q4 id X (hn id hd e) e1;exact⟨V,W,l1.trans l2⟩;obtain⟨_,j,hd0,_,W,_,e4⟩:=jr e;obtain⟨_,rfl⟩:=e4 b hb;exact O.base j hd b W hb
theorem aos.sub{a:Act}{w:World}(h:aos F w0 N own st a w){js:List Nat}(V:Sub js n0 st E)(hn:∀ id hd,w0.own id=some hd->id<n0)(O:n0<=E.h.length):aos F w0 N (iQ js E.h own) E a w:=by
 obtain⟨X,W,q3,q4⟩:=Kf V h.hp h.fr hn O;refine⟨h.size,h.defers,X,W,λt=>?_⟩;rcases DV t _ V.2.1 with e| ⟨Y,e2⟩;rw[e];exact .any _;have:=h.slots t;grind
theorem IK (hm:P.follows .mixedOrders=true)(hts:ts.ok P)(hG:aot P G){id:Nat}{c:Code}(hc:c7 N c=true){σ:Type}(D:σ->St)(I:σ->Prop)(m:σ->Nat)(n0:Nat)(hn:∀ id hd,w0.own id=some hd->id<n0)(Q:Ex->St->Prop)
  (X:∀ x,I x->∃ L Qx,ak P ro N L c/\(∀ e st',Qx e st'->vo D I m n0 x id Q e st')/\exec ts G L c (D x) Qx):
  ∀ x,I x->∀ own a w,aos F w0 N own (D x) a w->(Code.block id (.loop c)).wpIn (rd ro) nd P (E5 F w0 N Q) a w:=by
 intro x hx own a w hr;refine wpIn_block (wpIn_loop_ghost (λn a w=>∃ x E own,I x/\m x=n/\(∀ b,F b->E b)/\aos E w0 N own (D x) a w) (m x) ⟨x,F,own,hx,rfl,λ_ h=>h,hr⟩ ?_);rintro n a w ⟨x,F2,own,hx,rfl,O,hr⟩;obtain⟨L,Qx,hl,hQx,hex⟩:=X x hx;refine wpIn_mono (wpIn_mono (rO hm hts hG c hc hl F2 (D x) _ hex own a w hr) (uH hQx)) ?_;intro e a' w' hq;cases e with
 |normal=>
  obtain⟨E,ee,st',Y,h1,y,js,h2,h3,h5,h4⟩:=hq;exact⟨m y,h3,y,E,_,h2,rfl,λb V=>Y b (O b V),h1.sub h4 hn h5⟩
 |exit j=>
  obtain⟨E,ee,st',Y,h1,h2⟩:=hq;have W:(bif Nat.beq j id then Q .normal st' else Q (.exit j) st'):=h2;show if j=id then _ else _;by_cases hj:j=id
  subst hj;rw[if_pos rfl];simp only[aoi,cond_true]at W;exact⟨E,ee,st',λb V=>Y b (O b V),h1,W⟩;rw[if_neg hj];have:Nat.beq j id=false:=by cases V:Nat.beq j id <;>simp_all
  rw[this]at W;exact⟨E,ee,st',λb V=>Y b (O b V),h1,W⟩
 |ret=>
  obtain⟨E,ee,st',Y,h1,h2⟩:=hq;exact⟨E,ee,st',λb V=>Y b (O b V),h1,h2⟩
 |panic ch=>
  obtain⟨x,E,ee,st',Y,h1,h2,h3⟩:=hq;exact⟨x,E,ee,st',λb V=>Y b (O b V),h1,h2,h3⟩
 |_=>exact hq.elim
end
section
variable {P:Program}{F:Nat->Prop}{w0:Bs}{ro:Option Nat}{nd:Nat}{ts:Tis}{G:Cons}{L:wc}{N:Nat}
theorem Mx:∀ (l:List SV) (n t:Nat),lk t (nY n l)=if n<=t then(l[t - n]?).getD .any else .any
 | [],n,t=>by simp[nY,lk]
 |s::r,n,t=>by
  rw[nY,px,Mx r (n+1) t];grind
def UF (tmps:Array Value):ResultVar->Sem Value
 | .tmp t=>pure (tmps.getD t undef)| .cell q t=>do loadVar t (<-asAddr (tmps.getD q undef))
theorem Pe (fn:Func)(tmps:Array Value):results fn tmps=(do let vs <-fn.results.mapM (UF tmps);pure (if h:vs.size=1 then vs[0]else .tuple vs)):=by
 rfl
structure aqS (Ds:List Nat)(w w':World):Prop where
 size:w'.heap.size=w.heap.size
 block:∀ k,k ∉ Ds->w'.heap[k]? =w.heap[k]?
 os:w'.os=w.os
 tape:w'.tape=w.tape
 output:w'.output=w.output
theorem Bx {fn:Func}{tmps:Array Value}{R:Ending->World->Prop}{u:FrameMode}(Y:u≠ .run){bs:List Deferred}:∀ (Ds:List Nat) (ds:List Deferred) (w:World),ds.map (·.target)=Ds.map .collected->Ds.Nodup->
  (∀ D∈Ds,w.heap[D]? =some (.deferred (some [])))->(∀ V,aqS Ds w V->LeavesInM (rd none) nd P fn tmps R bs u V)->LeavesInM (rd none) nd P fn tmps R (ds++bs) u w
 | [],[],w,_,_,_,h=>h w ⟨rfl,λ_ _=>rfl,rfl,rfl,rfl⟩
 | [],_::_,w,E,_,_,_=>by simp at E
 |_::_,[],w,E,_,_,_=>by simp at E
 |D::Ds,d::ds,w,E,hn,X,h=>by
  simp only[alt,amB]at E;obtain⟨hd,E⟩:=E;rw[alH]at hn;have hlt:=rL (X D (by simp));refine⟨Y,.inl ⟨D,_,hd,run_takeDeferred (X D (by simp)),?_⟩⟩;refine Bx Y Ds ds _ E hn.2 (λD' hD'=>?_) λV O=>?_;rw[World.putObj_heap_other (by grind)];grind
  refine h V ⟨?_,λk W=>?_,O.os,O.tape,O.output⟩;rw[O.size];simp_all;simp only[ala,not_or]at W;rw[O.block k W.2,World.putObj_heap_other W.1]
variable {st:St}{a:Act}{w:World}
theorem aos.shut{own:Own}{W:World}{Ds:List Nat}(h:aos F w0 N own st a w)(V:∀ D∈Ds,w0.w.heap.size<=D/\F D/\w.heap[D]? =some (.deferred (some [])))(E:aqS Ds w W):
  aos F w0 N own st { a with defers:=w0.ds} W:=by
 have g:ao_ F own w own W:=⟨λ_ hd e=>⟨hd,e,.refl _⟩,λb _ hn=>⟨hn,E.block b λO=>hn (.inl (V b O).2.1)⟩,by rw[E.size];omega⟩;refine⟨h.size,Dfr.nil,h.hp.apg g λid hd b e O=>E.block b λY=>h.hp.apart id hd b e O (V b Y).2.1,⟨h.fr.ids,h.fr.base,E.os.trans h.fr.os,E.tape.trans h.fr.tape,E.output.trans h.fr.output,by rw[E.size];exact h.fr.size,λk X=>?_⟩,λt=>(h.slots t).mono g⟩;rw[E.block k λO=>by have:=(V k O).1;have:=X.1;omega];exact h.fr.block k X
theorem aos.less{O:Nat->Prop}(V:∀ b,F b->O b){own:Own}(h:aos O w0 N own st a w)(hd:a.defers=w0.ds):aos F w0 N own st a w:=by
 have hc:aoZ O own w F own w:=⟨λ_ hd e=>⟨hd,e,.refl _⟩,λb _ hn=>⟨λY=>hn (Y.imp (V b) id),rfl⟩⟩;refine⟨h.size,by rw[hd];exact Dfr.nil,⟨h.hp.dom,λb E=>h.hp.aoB b (V b E),λid hd b e E hf=>h.hp.apart id hd b e E (V b hf),h.hp.inj,h.hp.lt,λid W=>?_⟩,h.fr,λt=>(h.slots t).carry hc⟩;obtain⟨hd,X,e2⟩:=h.hp.obs id W;exact⟨hd,X,e2.carry hc (ak2 _) λ_ _=>rfl⟩
theorem Sz(O:ts.ok P){own:Own}(hr:aos F w0 N own st a w){x:ResultVar}{s:SV}(h:RW ts st x=some s):
  ∃ v,(UF a.tmps x).run P w=.ok v w/\Rel F own w s v:=by
 cases x with
 |tmp n=>
  simp only[RW,ak3]at h;subst h;exact⟨_,rfl,hr.slots n⟩
 |cell q t=>
  simp only[RW]at h;cases V:aQ ts t λti=>qC ti st.h (lk q st.t)with
  |val s'=>
   rw[V]at h;simp only[XS,ak3]at h;subst h;obtain⟨ti,Y,X⟩:=ci O V (by simp);obtain⟨u,E,e2⟩:=L1 (P:=P) hr.hp Y (hr.slots q) X;refine⟨u,?_,e2⟩;show(do loadVar t (<-asAddr (a.tmps.getD q undef)):Sem Value).run P w=.ok u w;generalize a.tmps.getD q undef=vq at E |-;unfold Instr.loadAt at E;rw[alv]at E |-;have W:∀ x w',(Instr.sureAddr vq).run P w=.ok x w'->(asAddr vq).run P w=.ok x w':=by
    intro x w' h;unfold Instr.sureAddr at h;split at h
    exact h;simp_all
   cases hsa:(Instr.sureAddr vq).run P w <;>simp_all
  |_=>rw[V]at h;simp[XS]at h
theorem IL (E:ts.ok P){own:Own}{st:St}{a:Act}{w:World}(hr:aos F w0 N own st a w):∀ (rs:List ResultVar) (l:List SV),ri ts st rs=some l->
  ∃ vs:List Value,(rs.mapM (UF a.tmps):Sem (List Value)).run P w=.ok vs w/\vs.length=l.length/\∀ (j:Nat) (s:SV),l[j]? =some s->∃ v,vs[j]? =some v/\Rel F own w s v
 | [],l,h=>by
  simp_all [ri]
 |x::r,l,h=>by
  simp only[ri]at h;cases O:RW ts st x with
  |none=>grind [LY]
  |some s0=>
   cases V:ri ts st r with
   |none=>grind [LY]
   |some l'=>
    rw[O,V]at h;simp only[LY,ak3]at h;subst h;obtain⟨W,f1,f2⟩:=Sz (P:=P) E hr O;obtain⟨vs,Y,X,e3⟩:=IL E hr r l' V;refine⟨W::vs,?_,by simp[X],λj s hj=>?_⟩;simp_all;grind
theorem Ai(X:ts.ok P){fn:Func}{own:Own}(hr:aos F w0 N own st a w){s:SV}(h:tA (ri ts st fn.results.toList)=some s):∃ u,(results fn a.tmps).run P w=.ok u w/\Rel F own w s u:=by
 cases hl:ri ts st fn.results.toList with
 |none=>rw[hl]at h;cases h
 |some l=>
  obtain⟨vs,e1,W,O⟩:=IL (P:=P) X hr _ l hl;rw[hl]at h;have hres:(results fn a.tmps).run P w=.ok (if h:vs.toArray.size=1 then vs.toArray[0]else .tuple vs.toArray) w:=by
   grind [Pe,Array.mapM_eq_mapM_toList,Sem.run_bind,Sem.run_map,Result.andThen_ok,Sem.run_pure]
  have E:vs.toArray.size=l.length:=by omega
  match l,h,W,O,E with
  | [s0],h,W,O,E=>
   simp only[tA,ak3]at h;subst h;obtain⟨v,hv,V⟩:=O 0 s0 rfl;grind
  | [],h,W,O,E=>
   simp only[tA,ak3]at h;subst h;refine⟨.tuple vs.toArray,by grind,.tup (by omega) λj s Y=>by simp at Y⟩
  |s0::s1::r,h,W,O,E=>
   simp only[tA,ak3]at h;subst h;refine⟨.tuple vs.toArray,by grind,.tup (by omega) λj s Y=>?_⟩;obtain⟨v,hv,V⟩:=O j s Y;simp_all
theorem mZ{fn:Func}{own:Own}{R:Ending->World->Prop}(hr:aos F w0 N own st a w){u:FrameMode}(Y:u≠ .run)
  (h:∀ E,aos F w0 N own st { a with defers:=w0.ds} E->LeavesInM (rd none) nd P fn a.tmps R w0.ds u E):LeavesInM (rd none) nd P fn a.tmps R a.defers u w:=by
 obtain⟨V,Ds,h0,h1,h2,O⟩:=hr.defers;rw[h0];exact Bx Y Ds V w h1 h2 (λD X=>(O D X).2.2) λE W=>h E (hr.shut O W)
variable {w':World}
theorem qK{own:Own}(h:Fr { w:=w,own:=dF} own w'):Below w.heap.size w w':=
 ⟨h.os,h.tape,h.output,h.size,λk E=>h.block k ⟨E,λ⟨_,_,e,_⟩ =>by cases e⟩⟩
theorem qL{own:Own}{l:List SV}{vs:Array Value}(E:aoX F own w l vs)(n t:Nat):Rel F own w (lk t (nY 0 l)) ((vs++Array.replicate n undef).getD t undef):=by
 rw[Mx,if_pos (alB t),Nat.sub_zero];cases O:l[t]? with
 |none=>exact .any _
 |some s=>
  have hlt:t<vs.size:=by rw[E.1];grind
  have:=E.2 t s O;grind [tN]
theorem Aj(E:∀ b,F b->b<w.heap.size):Hp F dF w []:=
 ⟨λ_ _ h=>(by cases h),E,λ_ _ _ h=>(by cases h),λ_ _ _ _ _ h=>(by cases h),λ_ _ _ h=>(by cases h),λid h=>(by simp[ap,dL]at h)⟩
def lz (h:List Ob):Nat->SV->List Nat
 |_,.os id=>match a6 0 (wR (ap h id))with| [] =>[] |_=>[id]
 |n+1,.agg l=>l.flatMap (lz h n)|n+1,.tup l=>l.flatMap (lz h n)|_,_=>[]
theorem CP (o:Ob):(∃ (k:Tag) (l:List k.T),o=.row k l/\wR o=.nw k l)\/(∃ (k k2:Tag) (l:List (k.T×k2.T)),o=.mp k k2 l none/\wR o=.nm k k2 l)\/(∃ (k:Tag) (l:List (List k.T)),o=.aoV k l/\wR o=.ng k l)\/wR o=.any:=by
 cases o with
 |row k l=>exact .inl ⟨k,l,rfl,rfl⟩
 |mp k k2 l p=>
  cases p with
  |none=>exact .inr (.inl ⟨k,k2,l,rfl,rfl⟩)|some x=>exact .inr (.inr (.inr rfl))
 |aoV k l=>exact .inr (.inr (.inl ⟨k,l,rfl,rfl⟩))|_=>exact .inr (.inr (.inr rfl))
theorem Pf:∀ (n:Nat) (s:SV),dD n s=true->∀ m,a6 m s=[]:=by
 intro n;induction n with
 |zero=>intro s h m;cases s <;>simp[dD]at h <;>cases m <;>rfl
 |succ n O=>
  intro s h m;have E:∀ (l:List SV) m,l.all (dD n)=true->l.flatMap (a6 m)=[]:=λl m E=>by
   simp_all
  cases s with
  |agg l=>cases m with
   |zero=>rfl|succ m=>exact E l m h
  |tup l=>cases m with
   |zero=>rfl|succ m=>exact E l m h
  |_=>first|(cases m <;>rfl) |simp[dD]at h
variable {h:List Ob}
theorem IM:∀ (n:Nat) (s:SV),a6 n (yI h n s)=(lz h n s).map (ap h)/\lz h n s ⊆ vn n s/\(lz h n s).Sublist (vn n s)/\∀ id∈lz h n s,Plain (ap h id):=by
 have V:∀ (n id:Nat),a6 n (wR (ap h id))=(lz h n (.os id)).map (ap h)/\lz h n (.os id) ⊆ [id]/\(lz h n (.os id)).Sublist [id]/\∀ i∈lz h n (.os id),Plain (ap h i):=by
  intro n id;have e:lz h n (.os id)=match a6 0 (wR (ap h id))with| [] =>[] |_=>[id]:=by cases n <;>rfl
  rw[e];rcases CP (ap h id)with⟨k,l,O,e2⟩ | ⟨k,k2,l,O,e2⟩ | ⟨k,l,O,e2⟩ |e2;rw[e2];refine⟨?_,by simp[a6],by simp[a6],λi hi=>?_⟩;grind [a6]
  simp[a6]at hi;subst hi;exact .inl ⟨k,l,O⟩;rw[e2];refine⟨?_,by simp[a6],by simp[a6],λi hi=>?_⟩;grind [a6]
  simp[a6]at hi;subst hi;exact .inr (.inl ⟨k,k2,l,O⟩);rw[e2];refine⟨?_,by simp[a6],by simp[a6],λi hi=>?_⟩;grind [a6]
  simp[a6]at hi;subst hi;exact .inr (.inr ⟨k,l,O⟩);grind [a6]
 have E:∀ (n m:Nat) (s:SV),a6 n (bif dD m s then s else .any)=[]:=λn m s=>by
  cases X:dD m s with
  |true=>exact Pf m s X n|false=>cases n <;>rfl
 intro n;induction n with
 |zero=>
  intro s;cases s with
  |os id=>exact V 0 id
  |_=>first|exact⟨rfl,by simp[lz,vn],by simp[lz,vn],λi hi=>by simp[lz]at hi⟩ |exact⟨E _ _ _,by simp[lz,vn],by simp[lz,vn],λi hi=>by simp[lz]at hi⟩
 |succ n Y=>
  intro s;have W:∀ l:List SV,(l.map (yI h n)).flatMap (a6 n)=(l.flatMap (lz h n)).map (ap h)/\l.flatMap (lz h n) ⊆ l.flatMap (vn n)/\(l.flatMap (lz h n)).Sublist (l.flatMap (vn n))/\∀ id∈l.flatMap (lz h n),Plain (ap h id):=by
   intro l;induction l <;>grind
  cases s with
  |os id=>exact V (n+1) id|agg l=>exact W l|tup l=>exact W l
  |_=>first|exact⟨rfl,by simp[lz,vn],by simp[lz,vn],λi hi=>by simp[lz]at hi⟩ |exact⟨E _ _ _,by simp[lz,vn],by simp[lz,vn],λi hi=>by simp[lz]at hi⟩
theorem E8:∀ l:List Nat,uniq l=true->l.Nodup
 | [],_=>amx
 |a::r,h=>by
  simp only[uniq,akZ]at h;rw[alH];refine⟨λE=>?_,E8 r h.2⟩;grind [wZ]
theorem SA{own ee:Own}(hp:Hp F own w h)(hsh:∀ b,¬dg F own b->¬dg F ee b):∀ (n b:Nat) (s:SV) (v:Value),Rel F own w s v->(∀ i id,(lz h n s)[i]? =some id->ee (b+i)=own id)->wY F ee w n b (yI h n s) v:=by
 have V:∀ c,¬dg F own c->¬dg (dg F ee) dF c:=λc hc=>by
  rintro (hf| ⟨_,_,e,_⟩);grind
  cases e
 have W:∀ (n b id:Nat) (v:Value),Rel F own w (.os id) v->(∀ i j,(lz h n (.os id))[i]? =some j->ee (b+i)=own j)->wY F ee w n b (wR (ap h id)) v:=by
  intro n b id v hr E;have e:lz h n (.os id)=match a6 0 (wR (ap h id))with| [] =>[] |_=>[id]:=by cases n <;>rfl
  rw[e]at E;cases hr with
  |os h1 h2=>
   rcases CP (ap h id)with⟨k,l,e1,e2⟩ | ⟨k,k2,l,e1,e2⟩ | ⟨k,l,e1,e2⟩ |e2;all_goals rw[e2]at E |-
   have:=E 0 id (by simp[a6]);rw[al_]at this;cases n <;>exact⟨_,by rw[this];exact h1,rfl,h2⟩;have:=E 0 id (by simp[a6]);rw[al_]at this;cases n <;>exact⟨_,by rw[this];exact h1,rfl,h2⟩;have:=E 0 id (by simp[a6]);rw[al_]at this;cases n <;>exact⟨_,by rw[this];exact h1,rfl,h2⟩;cases n <;>exact Rel.any _
 have O:∀ (n m b:Nat) (s:SV) (v:Value),Rel F own w s v->(∀ l,s≠ .agg l)->(∀ l,s≠ .tup l)->wY F ee w n b (bif dD m s then s else .any) v:=by
  intro n m b s v hr n1 n2;cases hb:dD m s with
  |false=>cases n <;>exact Rel.any _
  |true=>
   have Y:Rel (dg F ee) dF w s v:=hr.aoQ (gO m s hb) V;simp only[cond_true];cases s with
   |agg l=>grind|tup l=>grind|nw k l=>cases hr|nm k k2 l=>cases hr|ng k l=>cases hr|_=>cases n <;>exact Y
 intro n;induction n with
 |zero=>
  intro b s v hr E;cases s with
  |os id=>exact W 0 b id v hr E|v x=>exact hr.aoQ (.v x) V|rs k l=>exact hr.aoQ .rs V|rm k k2 l=>exact hr.aoQ .rm V|e0=>exact hr.aoQ .e0 V|agg l=>exact Rel.any _|tup l=>exact Rel.any _
  |_=>exact O 0 0 b _ v hr (λ_ e=>by cases e) (λ_ e=>by cases e)
 |succ n ih=>
  intro b s v hr E;have hl:∀ (l:List SV) (vs:Array Value) (b:Nat),(∀ (j:Nat) (s:SV),l[j]? =some s->Rel F own w s (vs.getD j undef))->(∀ i id,(l.flatMap (lz h n))[i]? =some id->ee (b+i)=own id)->
    ∀ (j:Nat) (s:SV),(l.map (yI h n))[j]? =some s->wY F ee w n (b+cnt n ((l.map (yI h n)).take j)) s (vs.getD j undef):=by
   intro l vs b h1 h2 j s hj;obtain⟨x,hx2,rfl⟩:=ox hj;refine ih _ x _ (h1 j x hx2) λi id hi=>?_;have hc:cnt n ((l.map (yI h n)).take j)=((l.take j).flatMap (lz h n)).length:=by
    rw[<-List.map_take];generalize l.take j=m;induction m with
    |nil=>rfl|cons y r ihm=>grind [cnt,IM]
   rw[hc,amt];refine h2 _ id ?_;have X:l=l.take j++(x::l.drop (j+1)):=by
    grind [List.getElem_cons_drop,List.take_append_drop]
   grind
  cases s with
  |os id=>exact W (n+1) b id v hr E|v x=>exact hr.aoQ (.v x) V|rs k l=>exact hr.aoQ .rs V|rm k k2 l=>exact hr.aoQ .rm V|e0=>exact hr.aoQ .e0 V
  |agg l=>cases hr with|agg h0 h1=>exact⟨_,rfl,by grind,hl l _ b h1 E⟩
  |tup l=>cases hr with|tup h0 h1=>exact⟨_,rfl,by grind,hl l _ b h1 E⟩
  |_=>exact O (n+1) (n+1) b _ v hr (λ_ e=>by cases e) (λ_ e=>by cases e)
theorem QV{own:Own}(E:aos F { w:=w,own:=dF} N own st a w'){s s2:SV}{u:Value}(hr:Rel F own w' s u)(hg:CH st.h s=some s2):∃ ee,Handed F w ee w' s2 u:=by
 unfold CH at hg;cases X:uniq (vn 3 s)&&(vn 3 s).all (λi=>Nat.blt i st.h.length)with
 |false=>grind
 |true=>
  rw[X]at hg;simp only[cond_true,ak3]at hg;subst hg;rw[akZ]at X;obtain⟨g1,g2,g3,g4⟩:=IM (h:=st.h) 3 s;have hnd:(lz st.h 3 s).Nodup:=(E8 _ X.1).sublist g3;let ee:Own:=λi=>((lz st.h 3 s)[i]?).bind own
  have Y:∀ i hd,ee i=some hd->∃ id,(lz st.h 3 s)[i]? =some id/\own id=some hd:=λi hd e=>by
   grind
  have hsh:∀ b,¬dg F own b->¬dg F ee b:=λb X=>by
   rintro (hf| ⟨i,hd,e,W⟩);exact X (.inl hf);obtain⟨id,_,V⟩:=Y i hd e;exact X (.inr ⟨id,hd,V,W⟩)
  refine⟨ee,⟨λi hd e=>?_,E.hp.aoB,λi hd b e W=>?_,λi j hi hj b e1 V hb1 hb2=>?_,λi hd b e W=>?_,λi O=>?_⟩,?_,λi hd b e W=>?_⟩;grind
  obtain⟨id,_,V⟩:=Y i hd e;exact E.hp.apart id hd b V W;obtain⟨k1,p1,p2⟩:=Y i hi e1;obtain⟨k2,q1,q2⟩:=Y j hj V;have:=E.hp.inj k1 k2 hi hj b p2 q2 hb1 hb2;subst this;exact sa hnd p1 q1;obtain⟨id,_,V⟩:=Y i hd e;exact E.hp.lt id hd b V W;rw[g1]at O |-;rw[vp]at O |-;rw[al1]at O |-;cases hi:(lz st.h 3 s)[i]? with
  |none=>grind [dL]
  |some id=>
   rw[hi]at O;simp only[amn,anf]at O |-;obtain⟨hd,e1,V⟩:=E.hp.obs id O;refine⟨hd,by grind,V.aoQ (g4 id (alf hi)) (.inl hsh)⟩
  exact SA E.hp hsh 3 0 s u hr λi id hi=>by grind
  obtain⟨id,_,V⟩:=Y i hd e;have:=E.fr.base id hd b V W;rcases ama b w.heap.size with hlt|hge;exact absurd ⟨hlt,λ⟨_,_,e,_⟩ =>by cases e⟩ this;exact hge
end
section
variable {P:Program}{F:Nat->Prop}{w0:Bs}{ro:Option Nat}{nd:Nat}{ts:Tis}{G:Cons}{L:wc}{N:Nat}
variable {w:World}
theorem w6{w':World}{s:SV}{u:Value}(E:∀ b,F b->b<w'.heap.size)(h:Rel F dF w' s u):Handed F w dF w' s u:=by
 refine⟨?_,Ur 3 0 h,λ_ _ _ e=>(by cases e)⟩;rw[ER 3 h];exact Aj E
variable {f:FuncId}{fn:Func}{c:Code}
theorem UG(m:Bool) (hm:P.follows .mixedOrders=true) (hts:ts.ok P) (hG:aot P G)    (hf:P.funcs[f]? =some fn) (hb:fn.body=some c) (hname:(fn.name== "runtime.NumGoroutine")=false)
  (hc:c7 fn.ntmps c=true) {C:List SV->Option Con}
  (h:∀ l O,C l=some O->an O->l.length<=fn.ntmps/\∃ L,ak P none fn.ntmps L c/\exec ts G L c ⟨nY 0 l,[]⟩ (Ew m fn.results.toList ts (dZ O) (kZ O))):P1 P f C:=by
 refine⟨λl O _ args w=>?_,λl O ap3 hpre F w vs hF Y=>?_⟩;simp_all [callFunc];obtain⟨hlen,L,hl,hx⟩:=h l O ap3 hpre;refine sE (n:=0) (callsIn_of_wp_marks hf hb trivial ?_);have hr:aos F { w:=w,own:=dF} fn.ntmps dF ⟨nY 0 l,[]⟩ { tmps:=vs++Array.replicate (fn.ntmps - vs.size) undef,defers:=[]} w:=
  ⟨by have:=Y.1;simp;omega,Dfr.nil,Aj hF,Fr.refl _,λt=>qL Y _ t⟩
 refine wpIn_mono (rO hm hts hG c hc hl F _ _ hx dF _ w hr) ?_;intro e a' w' hq;have key:∀ X own st,(∀ b,F b->X b)->aos X { w:=w,own:=dF} fn.ntmps own st a' w'->iP (dZ O) (Et m fn.results.toList ts st)->LeavesInM (rd none) 0 P fn a'.tmps
   (λe w'=>(∃ s u ee,dZ O s/\e=.returned u/\Handed F w ee w' s u/\Below w.heap.size w w')\/(∃ x,kZ O x/\e=.panicked [{ v:=x,recovered:=false}]/\Below w.heap.size w w')) a'.defers .returning w':=by
  intro X own st hF1 hst E;refine mZ hst (by simp) λw2 W=>?_;have V:=W.less hF1 rfl;unfold Et at E;cases hs:tA (ri ts st fn.results.toList)with
  |none=>
   cases m <;>simp only[cond_true,cond_false,Es,RX]at E <;>rw[hs]at E <;>exact E.elim
  |some s=>
   obtain⟨u,e1,e2⟩:=Ai (P:=P) hts V hs;refine⟨u,e1,.inl ?_⟩;cases m with
   |false=>
    simp only[cond_false,Es]at E;rw[hs]at E;exact⟨_,u,dF,E,rfl,w6 V.hp.aoB (Af V.hp 4 s u e2),qK V.fr⟩
   |true=>
    simp only[cond_true,RX]at E;rw[hs]at E;change iP (dZ O) (CH st.h s)at E;cases hg:CH st.h s with
    |none=>rw[hg]at E;exact E.elim
    |some s2=>
     rw[hg]at E;obtain⟨ee,hh⟩:=QV V e2 hg;exact⟨_,u,ee,E,rfl,hh,qK V.fr⟩
 cases e with
 |normal=>obtain⟨X,own,st,h0,h1,h2⟩:=hq;exact key X own st h0 h1 h2
 |ret=>obtain⟨X,own,st,h0,h1,h2⟩:=hq;exact key X own st h0 h1 h2
 |exit id=>obtain⟨X,own,st,h0,h1,h2⟩:=hq;exact h2.elim
 |panic ch=>
  obtain⟨x,X,own,st,h0,h1,h2,rfl⟩:=hq;exact mZ h1 (by simp) λw2 W=>.inr ⟨x,h2,rfl,qK W.fr⟩
 |_=>exact hq.elim
theorem Yd{js:List Nat}{n0:Nat}{own:Own}{h h':List Ob}{s s':SV}(V:Sub js n0 ⟨[(0,s)],h⟩ ⟨[(0,s')],h'⟩)(W:Hp F own w h)(E:Fr w0 own w)(hn:∀ id hd,w0.own id=some hd->id<n0)(O:n0<=h'.length){u:Value}(hr:Rel F own w s u):
  Rel F (iQ js h' own) w s' u:=by
 obtain⟨_,_,_,Y⟩:=Kf V W E hn O;obtain⟨_,⟨⟨X,k2⟩,_⟩,_⟩:=V;have e:s=ren (Ev js) 5 s':=by simpa[lk]using X
 grind
variable {C:List SV->List Ob->Option aoJ}
theorem E9(hm:P.follows .mixedOrders=true) (hts:ts.ok P) (hG:aot P G)    (hf:P.funcs[f]? =some fn) (hb:fn.body=some c) (hname:(fn.name== "runtime.NumGoroutine")=false)
  (hc:c7 fn.ntmps c=true) 
  (h:∀ l o V,C l o=some V->V.pre->l.length<=fn.ntmps/\∃ L Qx,ak P none fn.ntmps L c/\(∀ e st,Qx e st->LZ o.length fn.results.toList ts V e st)/\exec ts G L c ⟨nY 0 l,o⟩ Qx):aoH P f C:=by
 refine⟨λl o V _ args w=>?_,λl o V ap3 hpre F own w vs hp hvs=>?_⟩;simp_all [callFunc];obtain⟨hlen,L,Qx,hl,hQ,hx⟩:=h l o V ap3 hpre;have Y:∀ id hd,own id=some hd->id<o.length:=λid hd e=>hp.dom id hd e;refine sE (n:=0) (callsIn_of_wp_marks hf hb trivial ?_);have hr:aos F { w:=w,own:=own} fn.ntmps own ⟨nY 0 l,o⟩ { tmps:=vs++Array.replicate (fn.ntmps - vs.size) undef,defers:=[]} w:=
  ⟨by have:=hvs.1;simp;omega,Dfr.nil,hp,Fr.refl { w:=w,own:=own},λt=>qL hvs _ t⟩
 refine wpIn_mono (rO hm hts hG c hc hl F _ _ hx own _ w hr) ?_;intro e a' w' hq
 replace hq:=uH hQ _ _ _ hq
 have key:∀ X ee st,(∀ b,F b->X b)->aos X { w:=w,own:=own} fn.ntmps ee st a' w'->Ey o.length V (tA (ri ts st fn.results.toList)) st.h->LeavesInM (rd none) 0 P fn a'.tmps (λe w'=>∃ r ee,V.post r/\J4 F w own o.length e ee w' (V.res r)) a'.defers .returning w':=by
  intro X ee st hF1 hst O;refine mZ hst (by simp) λw2 W=>?_;have E:=W.less hF1 rfl;cases hs:tA (ri ts st fn.results.toList)with
  |none=>rw[hs]at O;exact O.elim
  |some s=>
   rw[hs]at O;obtain⟨r,s',h',js,q1,q2,q3,q4⟩:=O;obtain⟨u,e1,e2⟩:=Ai (P:=P) hts E hs;obtain⟨k1,k2,_,_⟩:=Kf q4 E.hp E.fr Y q3;refine⟨u,e1,r,iQ js h' ee,q1,?_⟩;rw[q2];exact⟨⟨u,rfl,Yd q4 E.hp E.fr Y q3 e2⟩,k1,k2,q3⟩
 cases e with
 |normal=>obtain⟨X,ee,st,h0,h1,h2⟩:=hq;exact key X ee st h0 h1 h2
 |ret=>obtain⟨X,ee,st,h0,h1,h2⟩:=hq;exact key X ee st h0 h1 h2
 |exit id=>obtain⟨X,ee,st,h0,h1,h2⟩:=hq;exact h2.elim
 |panic ch=>
  obtain⟨x,X,ee,st,h0,h1,⟨r,h',js,q1,q2,q3,q4⟩,rfl⟩:=hq;refine mZ h1 (by simp) λw2 W=>?_;have E:=W.less h0 rfl;obtain⟨k1,k2,_,_⟩:=Kf q4 E.hp E.fr Y q3;refine⟨r,iQ js h' ee,q1,?_⟩;rw[q2];exact⟨rfl,k1,k2,q3⟩
 |_=>exact hq.elim
theorem oz(W:P.follows .mixedOrders=true) (V:ts.ok P) (hG:aot P G)    (Y:P.funcs[f]? =some fn) (X:fn.body=some c) (O:(fn.name== "runtime.NumGoroutine")=false)
  (hc:c7 fn.ntmps c=true) 
  (h:∀ l o E,C l o=some E->E.pre->l.length<=fn.ntmps/\∃ L,ak P none fn.ntmps L c/\exec ts G L c ⟨nY 0 l,o⟩ (LZ o.length fn.results.toList ts E)):aoH P f C:=
 E9 W V hG Y X O hc λl o E h1 h2=>by
  grind
theorem aos.apG{own:Own}{st:St}{a:Act}(h:aos F w0 N own st a w):∀ id hd,w0.own id=some hd->id<st.h.length:=λid hd e=>by
 obtain⟨hd',e',_⟩:=h.fr.ids id hd e;exact h.hp.dom id hd' e'
theorem w7{ts:Tis}{G:Cons}{ro:Option Nat}{N:Nat}(hm:P.follows .mixedOrders=true)(hts:ts.ok P)(hG:aot P G){id:Nat}(hc:c7 N c=true){C:St->Option apc}
  (h:∀ st O,C st=some O->O.pre->∃ (σ:Type) (D:σ->St) (I:σ->Prop) (m:σ->Nat) (x0:σ) (js:List Nat),I x0/\st.h.length<=(D x0).h.length/\Sub js st.h.length st (D x0)/\
   ∀ x,I x->∃ L Qx,ak P ro N L c/\(∀ e st',Qx e st'->vo D I m st.h.length x id (λe st'=>∃ r js,O.post r/\O.ex r=e/\st.h.length<=(O.out r).h.length/\Sub js st.h.length st' (O.out r)) e st')/\exec ts G L c (D x) Qx):k9 P ro N id (.loop c) C:=by
 intro nd F w0 st O hC hpre own a w hr;obtain⟨σ,D,I,m,x0,js,h1,h2,h3,h4⟩:=h st O hC hpre;refine wpIn_mono (IK hm hts hG hc D I m st.h.length hr.apG _ h4 x0 h1 _ a w (hr.sub h3 hr.apG h2)) ?_;intro e a' w' hq;have key:∀ ex V ee st',aos V w0 N ee st' a' w'->(∃ r js,O.post r/\O.ex r=ex/\st.h.length<=(O.out r).h.length/\Sub js st.h.length st' (O.out r))->∃ X2 E,aos V w0 N X2 E a' w'/\∃ r,O.post r/\ex=O.ex r/\E=O.out r:=by
  rintro ex V ee st' hst ⟨r,js,W,X,q3,q4⟩;exact⟨_,_,hst.sub q4 hr.apG q3,r,W,X.symm,rfl⟩
 cases e with
 |normal=>obtain⟨V,ee,st',h0,Y,k2⟩:=hq;obtain⟨X2,E,W,X⟩:=key _ V ee st' Y k2;exact⟨V,X2,E,h0,W,X⟩
 |exit j=>obtain⟨V,ee,st',h0,Y,k2⟩:=hq;obtain⟨X2,E,W,X⟩:=key _ V ee st' Y k2;exact⟨V,X2,E,h0,W,X⟩
 |ret=>obtain⟨V,ee,st',h0,Y,k2⟩:=hq;obtain⟨X2,E,W,X⟩:=key _ V ee st' Y k2;exact⟨V,X2,E,h0,W,X⟩
 |panic ch=>
  obtain⟨x,V,ee,st',h0,Y,k2,k3⟩:=hq;obtain⟨X2,E,W,X⟩:=key _ V ee st' Y k2;exact⟨x,V,X2,E,h0,W,X,k3⟩
 |_=>exact hq.elim
end
end Go.Sx
end
section
namespace Go.Sx
def Pg (k:TI->OR):Option TI->OR
 |some i=>k i|none=>.bad
section
variable {ts:Tis}{G:Cons}{L:wc}{t:List (Nat×SV)}{h:List Ob}{Q:Ex->St->Prop}{K:St->Prop}{Z:Value->St->Prop}{ops rest:List Oper}{nx:Nat}
variable {st st':St}
@[congr] theorem aa2 {c:Code}(e:st=st'):exec ts G L c st Q=exec ts G L c st' Q:=by rw[e]
@[congr] theorem Xo (e:st=st'):jq ts G ops rest st K Z=jq ts G ops rest st' K Z:=by rw[e]
variable {fps:List Fp}
@[congr] theorem ZL{i b:Nat}{aqV:List Fp}(e0:fps=aqV)(e:st=st'):jV ts G ops K Z rest i b fps st=jV ts G ops K Z rest i b aqV st':=by rw[e,e0]
variable {d:Option Nat}{r r':OR}
@[congr] theorem ZM(e:r=r'):lI G d st K Z r=lI G d st K Z r':=by rw[e]
variable {g:Nat×Bool}
@[congr] theorem ZN(e:r=r'):stepG G ops g d st K Z r=stepG G ops g d st K Z r':=by rw[e]
variable {p:Prop}{r r':Option Dr}
@[congr] theorem Ye{next:List Nat->List Up->St->Prop}(e:r=r'):y9 d st next p r=y9 d st next p r':=by rw[e]
@[congr] theorem Yf{next:List Nat->List Up->St->Prop}(e:r=r'):wP ops g d st next p r=wP ops g d st next p r':=by rw[e]
variable {x:(Ex->St->Prop)->Prop}{c c':Option apc}
@[congr] theorem ZO{y:(Ex->St->Prop)->Prop}{Q:Ex->St->Prop}{s s':SV}(e:s=s')(e2:c=c'):Ep x y Q s c=Ep x y Q s' c':=by rw[e,e2]
@[congr] theorem ZP{Q:Ex->St->Prop}(e:c=c'):Er x Q c=Er x Q c':=by rw[e]
@[congr] theorem ZQ(e:c=c'):rI Q c=rI Q c':=by rw[e]
def adq:exec ts G L .skip ⟨t,h⟩ Q=Q .normal ⟨t,h⟩:=(rfl)
def ZR {id:Nat}{a:Array Oper}{d:Bool}:exec ts G L (.region id a d) ⟨t,h⟩ Q=Er (CG ts G a d ⟨t,h⟩) Q (L (id+2000000) ⟨t,h⟩):=(rfl)
def ZS:CG ts G ops.toArray false ⟨t,h⟩ Q=jq ts G ops ops ⟨t,h⟩ (λst'=>Q .normal (wQ ops st')) (λx st'=>Q (.pan x) st'):=(rfl)
attribute[go_sem]adq ZR ZS
@[go_sem] def aa3:= @Er.eq_1
variable {d:St}
def aa4:inC d Q .normal ⟨t,h⟩=(h=d.h/\apV t d.t):=(rfl)
def aia{st:St}{x:Value}:inC d Q (.pan x) st=Q (.pan x) st:=(rfl)
attribute[go_sem]aa4 aia
variable {a:Code}
def afI{b:Code}:exec ts G L (.seq a b) ⟨t,h⟩ Q=exec ts G L a ⟨t,h⟩ (Ex.then (λst'=>exec ts G L b st' Q) Q):=(rfl)
def adr {c:Operand}{x y:Code}:exec ts G L (.cond c x y) ⟨t,h⟩ Q=Ep (exec ts G L x ⟨t,h⟩) (exec ts G L y ⟨t,h⟩) Q (raw t c) (L (T6 c) ⟨t,h⟩):=(rfl)
attribute[go_sem]afI adr
@[go_sem] def aa5:= @Ep.eq_1
@[go_sem] theorem afJ{y:(Ex->St->Prop)->Prop}{s:SV}:Ep x y Q s (some (JC d))=(zW (x (inJ d)) (y (inJ d)) s/\Q .normal d):=by
 have e:(λe st=>∃ r,(JC d).post r/\inJ ((JC d).out r) e st)=inJ d:=by
  funext e st
  exact propext ⟨λ⟨_,_,h⟩ =>h,λh=>⟨(),trivial,h⟩⟩
 show T7 x y Q s (JC d)=_;unfold T7;rw[e];exact propext ⟨λh=>⟨h.1,h.2 () trivial⟩,λh=>⟨h.1,λ_ _=>h.2⟩⟩
@[go_sem] def afK:= @T6.eq_1
@[go_sem]def aa6:inJ d .normal ⟨t,h⟩=(h=d.h/\apV t d.t):=(rfl)
@[go_sem] def afL:= @apV.eq_1
@[go_sem] def ads:= @apV.eq_2
def UH {id:Nat}{c:Code}:exec ts G L (.block id (.loop c)) ⟨t,h⟩ Q=rI Q (L id ⟨t,h⟩):=(rfl)
def TA{id:Nat}{f:Operand}{ps:Array Tmp}{b:Code}:exec ts G L (.block id (.rangeFunc f ps a b)) ⟨t,h⟩ Q=rI Q (L id ⟨t,h⟩):=(rfl)
def UJ{id:Nat}{b:Code}:exec ts G L (.block id (.seq a b)) ⟨t,h⟩ Q=exec ts G L (.seq a b) ⟨t,h⟩ (Ex.block id Q):=(rfl)
def TB{id:Nat}{c:Operand}{b:Code}:exec ts G L (.block id (.cond c a b)) ⟨t,h⟩ Q=exec ts G L (.cond c a b) ⟨t,h⟩ (Ex.block id Q):=(rfl)
def QW {id j:Nat}{a:Array Oper}{d:Bool}:exec ts G L (.block id (.region j a d)) ⟨t,h⟩ Q=exec ts G L (.region j a d) ⟨t,h⟩ (Ex.block id Q):=(rfl)
def TC {id:Nat}:exec ts G L (.block id .skip) ⟨t,h⟩ Q=exec ts G L .skip ⟨t,h⟩ (Ex.block id Q):=(rfl)
def adt {id:Nat}:exec ts G L (.exit id) ⟨t,h⟩ Q=Q (.exit id) ⟨t,h⟩:=(rfl)
def afM:exec ts G L .ret ⟨t,h⟩ Q=Q .ret ⟨t,h⟩:=(rfl)
def SB {id:Nat}{c:Code}:exec ts G L (.block id (.scope c)) ⟨t,h⟩ Q=exec ts G L (.scope c) ⟨t,h⟩ (Ex.block id Q):=(rfl)
def SC {id l:Nat}:exec ts G L (.block id (.label l)) ⟨t,h⟩ Q=exec ts G L (.label l) ⟨t,h⟩ (Ex.block id Q):=(rfl)
def aa7 {c:Code}:exec ts G L (.scope c) ⟨t,h⟩ Q=exec ts G L c ⟨t,h⟩ Q:=(rfl)
def aa8 {l:Nat}:exec ts G L (.label l) ⟨t,h⟩ Q=Q .normal ⟨t,h⟩:=(rfl)
attribute[go_sem]UH TA UJ TB QW TC adt afM SB SC aa7 aa8
@[go_sem] def ZT:= @Ex.then.eq_1
def afN {st:St}:Ex.then K Q .ret st=Q .ret st:=(rfl)
def adu {st:St}{j:Nat}:Ex.then K Q (.exit j) st=Q (.exit j) st:=(rfl)
def Yg {st:St}{id:Nat}:Ex.block id Q .normal st=Q .normal st:=(rfl)
def adv {st:St}{id:Nat}:Ex.block id Q .ret st=Q .ret st:=(rfl)
def afO {st:St}{v:Value}:Ex.then K Q (.pan v) st=Q (.pan v) st:=(rfl)
def adw {st:St}{id:Nat}{v:Value}:Ex.block id Q (.pan v) st=Q (.pan v) st:=(rfl)
attribute[go_sem]afN adu Yg adv afO adw
@[go_sem] def aa9:= @Ex.block.eq_1
@[go_sem] def aib:= @zW.eq_1
variable {α:Type}{pre:Prop}{post:α->Prop}
def aa_{ex:α->Ex}{out:α->St}:rI Q (some ⟨α,pre,post,ex,out⟩)=(pre/\∀ r,post r->Q (ex r) (out r)):=(rfl)
def aba:CG ts G ops.toArray true ⟨t,h⟩ Q=jV ts G ops (λst'=>Q .normal (wQ ops st')) (λx st'=>Q (.pan x) st') ops 0 0 [] ⟨t,h⟩:=(rfl)
def ZU:jq ts G ops [] ⟨t,h⟩ K Z=K ⟨t,h⟩:=(rfl)
attribute[go_sem]aa_ aba ZU
variable {d:Option Nat}{ty:TypeId}{pos:String}{af:Array Edge}
def Yh{op:Op}:jq ts G ops (⟨d,op,ty,pos,af,none⟩::rest) ⟨t,h⟩ K Z=lI G d ⟨t,h⟩ (λst'=>jq ts G ops rest st' K Z) Z (opS ⟨ts,ops,none,⟨t,h⟩,h.length⟩ op):=(rfl)
def abb{i b:Nat}{op:Op}:jV ts G ops K Z (⟨d,op,ty,pos,af,none⟩::rest) i b fps ⟨t,h⟩=y9 d ⟨t,h⟩ (λall ups st'=>jV ts G ops K Z rest (i+1) b (fps++[fpU op (fpO ⟨ts,ops,none,⟨t,h⟩,h.length⟩ op) all ups]) st') (sw ops b fps/\En ops i=true/\lI G d ⟨t,h⟩ (λst'=>jV ts G ops K Z rest (i+1) (i+1) [] st') Z (opS ⟨ts,ops,none,⟨t,h⟩,h.length⟩ op)) (jR G h h.length (opS ⟨ts,ops,none,⟨t,h⟩,h.length⟩ op)):=(rfl)
def Yi{op:Op}:jq ts G ops (⟨d,op,ty,pos,af,some g⟩::rest) ⟨t,h⟩ K Z=stepG G ops g d ⟨t,h⟩ (λst'=>jq ts G ops rest st' K Z) Z (opS ⟨ts,ops,some g,⟨t,h⟩,h.length⟩ op):=(rfl)
def abc{i b:Nat}{op:Op}:jV ts G ops K Z (⟨d,op,ty,pos,af,some g⟩::rest) i b fps ⟨t,h⟩=wP ops g d ⟨t,h⟩ (λall ups st'=>jV ts G ops K Z rest (i+1) b (fps++[fpU op (fpO ⟨ts,ops,some g,⟨t,h⟩,h.length⟩ op) all ups]) st') (sw ops b fps/\En ops i=true/\stepG G ops g d ⟨t,h⟩ (λst'=>jV ts G ops K Z rest (i+1) (i+1) [] st') Z (opS ⟨ts,ops,some g,⟨t,h⟩,h.length⟩ op)) (jR G h h.length (opS ⟨ts,ops,some g,⟨t,h⟩,h.length⟩ op)):=(rfl)
def adx{i b:Nat}:jV ts G ops K Z [] i b fps ⟨t,h⟩=(sw ops b fps/\K ⟨t,h⟩):=(rfl)
attribute[go_sem]Yh abb Yi abc adx
variable {d:Nat}
@[go_sem]def ady{s:SV}:lI G (some d) ⟨t,h⟩ K Z (.val s)=K ⟨(d,s)::t,h⟩:=(rfl)
variable {c:Prop}
def adz{s:SV}:lI G (some d) ⟨t,h⟩ K Z (.chk c s)=(c/\K ⟨(d,s)::t,h⟩):=(rfl)
def adA{s:SV}:lI G (some d) ⟨t,h⟩ K Z (.asm c s)=(c->K ⟨(d,s)::t,h⟩):=(rfl)
def abd{s:SV}:lI G (some d) ⟨t,h⟩ K Z (.apm s)=K ⟨(d,s)::t,h⟩:=(rfl)
attribute[go_sem]adz adA abd
variable {a:Prop}
def adB{s:SV}{ups:List Up}:lI G (some d) ⟨t,h⟩ K Z (.eff c a ups s)=(c/\(a->K ⟨(d,s)::t,bf h ups⟩)):=(rfl)
def adC:stepG G ops g (some d) ⟨t,h⟩ K Z .bad=(wN ops t ops.length g/\K ⟨(d,.gd g.1 g.2 .any)::t,h⟩):=(rfl)
def abe:stepG G ops g none ⟨t,h⟩ K Z .bad=(wN ops t ops.length g/\K ⟨t,h⟩):=(rfl)
def adD{s:SV}:stepG G ops g (some d) ⟨t,h⟩ K Z (.val s)=K ⟨(d,.gd g.1 g.2 s)::t,h⟩:=(rfl)
def adE{s:SV}:stepG G ops g (some d) ⟨t,h⟩ K Z (.chk c s)=((dU ops t ops.length g->c)/\K ⟨(d,.gd g.1 g.2 s)::t,h⟩):=(rfl)
def adF{s:SV}:stepG G ops g (some d) ⟨t,h⟩ K Z (.asm c s)=K ⟨(d,.gd g.1 g.2 s)::t,h⟩:=(rfl)
def abf{s:SV}:stepG G ops g (some d) ⟨t,h⟩ K Z (.apm s)=K ⟨(d,.gd g.1 g.2 s)::t,h⟩:=(rfl)
def adG{s:SV}{ups:List Up}:stepG G ops g (some d) ⟨t,h⟩ K Z (.eff c a ups s)=((dU ops t ops.length g->c/\(a->K ⟨(d,.gd g.1 g.2 s)::t,bf h ups⟩))/\(gq ops t ops.length g->K ⟨(d,.gd g.1 g.2 .any)::t,h⟩)):=(rfl)
attribute[go_sem]adB adC abe adD adE adF abf adG
variable {c:Option aoJ}{np:Bool}
def adH{ids:List Nat}{s:SV}:wO np ids (some d) ⟨t,h⟩ K Z c (some (.det p s))=bif np||jo 3 s then(p/\K ⟨(d,jp 3 h.length s)::t,h++a6 3 s⟩)else yG ids (some d) ⟨t,h⟩ K Z c:=(rfl)
def adI{ids:List Nat}{out:α->SV}:wO np ids (some d) ⟨t,h⟩ K Z c (some (.rel α pre post out))=(pre/\(bif np then ∀ r,post r->K ⟨(d,jp 3 h.length (out r))::t,h++a6 3 (out r)⟩else False)):=(rfl)
attribute[go_sem]adH adI
variable {x:Value}
@[go_sem]def adJ{ids:List Nat}{s:SV}{ok:Bool}:wO np ids (some d) ⟨t,h⟩ K Z c (some (.may ok s x))=(bif np||jo 3 s then(ok=true->K ⟨(d,jp 3 h.length s)::t,h++a6 3 s⟩)/\(ok=false->Z x ⟨apl t,h⟩)else False):=(rfl)
variable {h':List Ob}
def afP{ids:List Nat}{s:SV}:JJ ids (some d) ⟨t,h⟩ K Z (.ret s h')=K ⟨(d,ren (rH ids h.length) 3 s)::t,mL ids h.length h 0 h'⟩:=(rfl)
def afQ{ids:List Nat}{s:SV}:RV ids g (some d) ⟨t,h⟩ K Z (.ret s h')=K ⟨(d,.gd g.1 g.2 (ren (rH ids h.length) 3 s))::t,mL ids h.length h 0 h'⟩:=(rfl)
attribute[go_sem]afP afQ
@[go_sem] def ZV:= @y8.eq_2
variable {o:aoJ}
def ZW{ids:List Nat}:y8 ids ops g (some d) ⟨t,h⟩ K Z (some o)=((dU ops t ops.length g->o.pre/\∀ r,o.post r->RV ids g (some d) ⟨t,h⟩ K Z (o.res r))/\(gq ops t ops.length g->K ⟨(d,.gd g.1 g.2 .any)::t,h⟩)):=(rfl)
def adK{ids:List Nat}{s:SV}:Eo np ids ops g (some d) ⟨t,h⟩ K Z c (some (.det p s))=((dU ops t ops.length g->p)/\(bif(np||jo 3 s)&&(a6 3 s).isEmpty then K ⟨(d,.gd g.1 g.2 s)::t,h⟩else False)):=(rfl)
attribute[go_sem]ZW adK
variable {res:α->Bool×Res}
def adL{id:Nat}:Oy id (some d) ⟨t,h⟩ K (some ⟨α,pre,post,res⟩)=(pre/\∀ r,post r->K ⟨(d,.b (res r).1)::t,cL h id (.ab (res r).2)⟩):=(rfl)
def adM{id:Nat}:LX id ops g (some d) ⟨t,h⟩ K (some ⟨α,pre,post,res⟩)=((dU ops t ops.length g->pre/\∀ r,post r->K ⟨(d,.gd g.1 g.2 (.b (res r).1))::t,cL h id (.ab (res r).2)⟩)/\(gq ops t ops.length g->K ⟨(d,.gd g.1 g.2 .any)::t,h⟩)):=(rfl)
attribute[go_sem]adL adM
variable {K0 c:Prop}
def ajM{next:List Nat->List Up->St->Prop}{s:SV}{ups:List Up}{all:List Nat}:y9 (some d) ⟨t,h⟩ next K0 (some ⟨c,a,s,ups,all⟩)=(c/\(a->next all ups ⟨(d,s)::t,bf h ups⟩)):=(rfl)
def ajN{next:List Nat->List Up->St->Prop}{s:SV}{ups:List Up}{all:List Nat}:wP ops g (some d) ⟨t,h⟩ next K0 (some ⟨c,a,s,ups,all⟩)=bif ups.isEmpty then(dU ops t ops.length g->c)/\next all [] ⟨(d,.gd g.1 g.2 s)::t,h⟩else ¬ (dU ops t ops.length g/\gq ops t ops.length g)/\(dU ops t ops.length g->c/\(a->next all ups ⟨(d,.gd g.1 g.2 s)::t,bf h ups⟩))/\(gq ops t ops.length g->next all [] ⟨(d,.gd g.1 g.2 s)::t,h⟩):=(rfl)
def abg {s:SV}:lI G none ⟨t,h⟩ K Z (.val s)=K ⟨t,h⟩:=(rfl)
def abh{s:SV}:lI G none ⟨t,h⟩ K Z (.chk c s)=(c/\K ⟨t,h⟩):=(rfl)
def abi{s:SV}:lI G none ⟨t,h⟩ K Z (.asm c s)=(c->K ⟨t,h⟩):=(rfl)
def ZX {s:SV}:lI G none ⟨t,h⟩ K Z (.apm s)=K ⟨t,h⟩:=(rfl)
def abj{s:SV}{ups:List Up}:lI G none ⟨t,h⟩ K Z (.eff c a ups s)=(c/\(a->K ⟨t,bf h ups⟩)):=(rfl)
def abk{s:SV}:stepG G ops g none ⟨t,h⟩ K Z (.val s)=K ⟨t,h⟩:=(rfl)
def abl{s:SV}:stepG G ops g none ⟨t,h⟩ K Z (.chk c s)=((dU ops t ops.length g->c)/\K ⟨t,h⟩):=(rfl)
def abm{s:SV}:stepG G ops g none ⟨t,h⟩ K Z (.asm c s)=K ⟨t,h⟩:=(rfl)
def ZY{s:SV}:stepG G ops g none ⟨t,h⟩ K Z (.apm s)=K ⟨t,h⟩:=(rfl)
def abn{s:SV}{ups:List Up}:stepG G ops g none ⟨t,h⟩ K Z (.eff c a ups s)=((dU ops t ops.length g->c/\(a->K ⟨t,bf h ups⟩))/\(gq ops t ops.length g->K ⟨t,h⟩)):=(rfl)
attribute[go_sem]ajM ajN abg abh abi ZX abj abk abl abm ZY abn
variable {c:Option aoJ}
def abo{ids:List Nat}{s:SV}:wO np ids none ⟨t,h⟩ K Z c (some (.det p s))=bif np||jo 3 s then(p/\K ⟨t,h++a6 3 s⟩)else yG ids none ⟨t,h⟩ K Z c:=(rfl)
def abp{ids:List Nat}{out:α->SV}:wO np ids none ⟨t,h⟩ K Z c (some (.rel α pre post out))=(pre/\(bif np then ∀ r,post r->K ⟨t,h++a6 3 (out r)⟩else False)):=(rfl)
def abq{ids:List Nat}{s:SV}{ok:Bool}:wO np ids none ⟨t,h⟩ K Z c (some (.may ok s x))=(bif np||jo 3 s then(ok=true->K ⟨t,h++a6 3 s⟩)/\(ok=false->Z x ⟨apl t,h⟩)else False):=(rfl)
def adN{ids:List Nat}{s:SV}:JJ ids none ⟨t,h⟩ K Z (.ret s h')=K ⟨t,mL ids h.length h 0 h'⟩:=(rfl)
def adO{ids:List Nat}{s:SV}:RV ids g none ⟨t,h⟩ K Z (.ret s h')=K ⟨t,mL ids h.length h 0 h'⟩:=(rfl)
def Yj{ids:List Nat}:y8 ids ops g none ⟨t,h⟩ K Z (some o)=((dU ops t ops.length g->o.pre/\∀ r,o.post r->RV ids g none ⟨t,h⟩ K Z (o.res r))/\(gq ops t ops.length g->K ⟨t,h⟩)):=(rfl)
def abr{ids:List Nat}{s:SV}:Eo np ids ops g none ⟨t,h⟩ K Z c (some (.det p s))=((dU ops t ops.length g->p)/\(bif(np||jo 3 s)&&(a6 3 s).isEmpty then K ⟨t,h⟩else False)):=(rfl)
def abt{id:Nat}:Oy id none ⟨t,h⟩ K (some ⟨α,pre,post,res⟩)=(pre/\∀ r,post r->K ⟨t,cL h id (.ab (res r).2)⟩):=(rfl)
def abu{id:Nat}:LX id ops g none ⟨t,h⟩ K (some ⟨α,pre,post,res⟩)=((dU ops t ops.length g->pre/\∀ r,post r->K ⟨t,cL h id (.ab (res r).2)⟩)/\(gq ops t ops.length g->K ⟨t,h⟩)):=(rfl)
def aic{next:List Nat->List Up->St->Prop}{c:Prop}{s:SV}{ups:List Up}{all:List Nat}:y9 none ⟨t,h⟩ next K0 (some ⟨c,a,s,ups,all⟩)=(c/\(a->next all ups ⟨t,bf h ups⟩)):=(rfl)
def aid{next:List Nat->List Up->St->Prop}{c:Prop}{s:SV}{ups:List Up}{all:List Nat}:wP ops g none ⟨t,h⟩ next K0 (some ⟨c,a,s,ups,all⟩)=bif ups.isEmpty then(dU ops t ops.length g->c)/\next all [] ⟨t,h⟩else ¬ (dU ops t ops.length g/\gq ops t ops.length g)/\(dU ops t ops.length g->c/\(a->next all ups ⟨t,bf h ups⟩))/\(gq ops t ops.length g->next all [] ⟨t,h⟩):=(rfl)
attribute[go_sem]abo abp abq adN adO Yj abr abt abu aic aid
@[go_sem] def ZZ:= @y9.eq_2
@[go_sem] def Z0:= @wP.eq_2
variable {d:Option Nat}{f:FuncId}{args:List SV}
def abv:lI G d ⟨t,h⟩ K Z (.call f args)=wO (args.all (dD 3)) (reach h 64 (args.flatMap (fG 3)) []) d ⟨t,h⟩ K Z (G.o f (args.map (ren (inN (reach h 64 (args.flatMap (fG 3)) [])) 6)) (rK h (reach h 64 (args.flatMap (fG 3)) []))) (G.p f (args.map (gi h 6))):=(rfl)
def abw:stepG G ops g d ⟨t,h⟩ K Z (.call f args)=Eo (args.all (dD 3)) (reach h 64 (args.flatMap (fG 3)) []) ops g d ⟨t,h⟩ K Z (G.o f (args.map (ren (inN (reach h 64 (args.flatMap (fG 3)) [])) 6)) (rK h (reach h 64 (args.flatMap (fG 3)) []))) (G.p f (args.map (gi h 6))):=(rfl)
def adP{id:Nat}:lI G d ⟨t,h⟩ K Z (.yld id args)=bif args.all (dD 3)then Oy id d ⟨t,h⟩ K (JK G args (ap h id))else False:=(rfl)
def adQ{id:Nat}:stepG G ops g d ⟨t,h⟩ K Z (.yld id args)=bif args.all (dD 3)then LX id ops g d ⟨t,h⟩ K (JK G args (ap h id))else False:=(rfl)
attribute[go_sem]abv abw adP adQ
@[go_sem] def aie:= @JK.eq_1
@[go_sem]def adR{id:Nat}:lI G d ⟨t,h⟩ K Z (.nxt id)=XR id d ⟨t,h⟩ K (ap h id):=(rfl)
variable {left:List Nat}
def aif{id mid n:Nat}{cur:Option Nat}:XR id d ⟨t,h⟩ K (.mi (some mid) n left cur)=T4 id mid n left d ⟨t,h⟩ K (ap h mid):=(rfl)
def aig{d id mid n it:Nat}{kk vk:Tag}{l:List (kk.T×vk.T)}:T4 id mid n left (some d) ⟨t,h⟩ K (.mp kk vk l (some (it,none)))=((it=id/\n=l.length)/\(left=[]->K ⟨(d,.tup [.v (.bool false)])::t,h⟩)/\∀ j,j∈left->K ⟨(d,.tup [.v (.bool true),svT kk (l.getD j (eG kk,eG vk)).1,svT vk (l.getD j (eG kk,eG vk)).2])::t,cL h id (.mi (some mid) n (left.erase j) (some j))⟩):=(rfl)
def afR {id:Nat}:jR G h nx (.nxt id)=none:=(rfl)
attribute[go_sem]aif aig afR
variable {p:Bool->Prop}
def afS:jR G h nx (.amb p)=none:=(rfl)
def adS{d:Nat}:lI G (some d) ⟨t,h⟩ K Z (.amb p)= ∀ b,p b->K ⟨(d,.v (.bool b))::t,h⟩:=(rfl)
def adT:lI G d ⟨t,h⟩ K Z (.pan x)=Z x ⟨apl t,h⟩:=(rfl)
def adU{ids:List Nat}:wO np ids d ⟨t,h⟩ K Z c none=yG ids d ⟨t,h⟩ K Z c:=(rfl)
def abx{ids:List Nat}:yG ids d ⟨t,h⟩ K Z (some o)=(o.pre/\∀ r,o.post r->JJ ids d ⟨t,h⟩ K Z (o.res r)):=(rfl)
def afT{ids:List Nat}:JJ ids d ⟨t,h⟩ K Z (.pan x h')=Z x ⟨apl t,mL ids h.length h 0 h'⟩:=(rfl)
def afU{ids:List Nat}:RV ids g d ⟨t,h⟩ K Z (.pan x h')=Z x ⟨apl t,mL ids h.length h 0 h'⟩:=(rfl)
def adV{ids:List Nat}:Eo np ids ops g d ⟨t,h⟩ K Z c none=y8 ids ops g d ⟨t,h⟩ K Z c:=(rfl)
attribute[go_sem]afS adS adT adU abx afT afU adV
@[go_sem] def afV:= @jR.eq_7
@[go_sem] def afW:= @jR.eq_1
@[go_sem] def afX:= @jR.eq_2
@[go_sem] def afY:= @jR.eq_3
@[go_sem] def adW:= @jR.eq_4
@[go_sem] def afZ:= @jR.eq_5
@[go_sem] def adX:= @jR.eq_6
def af0{id:Nat}:jR G h nx (.yld id args)=none:=(rfl)
def af1:jR G h nx (.pan x)=none:=(rfl)
attribute[go_sem]af0 af1
@[go_sem] def aih:= @drC.eq_1
@[go_sem] def aii:= @drR.eq_1
@[go_sem] def aij:= @drR.eq_2
def aik{rd:List Nat}{s:SV}{p:Prop}{o1 o2:Ob}{l:List Ob}:drR np rd nx p s (o1::o2::l)=none:=(rfl)
def ail{rd:List Nat}{out:α->SV}:drC np rd nx (some (.rel α pre post out))=none:=(rfl)
def aim{rd:List Nat}{s:SV}{ok:Bool}:drC np rd nx (some (.may ok s x))=none:=(rfl)
def af2{rd:List Nat}:drC np rd nx none=none:=(rfl)
attribute[go_sem]aik ail aim af2
@[go_sem] def adY:= @sw.eq_1
variable {g:Option (Nat×Bool)}
@[go_sem]def ajO {x:Operand}:val ⟨ts,ops,g,⟨t,h⟩,nx⟩ x=bL ops g (raw t x):=(rfl)
variable {cx:Cx}{x y a b:Operand}{ty n f:Nat}
@[go_sem] def af3:= @opS.eq_1
@[go_sem] def aby:= @opS.eq_2
variable {c:Operand}
def af4:opS ⟨ts,ops,g,⟨t,h⟩,nx⟩ (.pick c a b)=Ef a b (bL ops g (raw t c)) (kA ops g c true (raw t a)) (kA ops g c false (raw t b)):=(rfl)
def adZ:opS ⟨ts,ops,g,⟨t,h⟩,nx⟩ (.alloc ty)=aQ ts ty λti=>JB nx (some ti.zero):=(rfl)
def ain:opS ⟨ts,ops,g,⟨t,h⟩,nx⟩ (.box ty x)=JB nx (ph (bL ops g (raw t x))):=(rfl)
attribute[go_sem]af4 adZ ain
variable {parts:List (Nat×Operand)}
def ad0:opS ⟨ts,ops,g,⟨t,h⟩,nx⟩ (.build ty parts.toArray)=aQ ts ty λti=>bif ti.apo then aQ ts ti.elem λte=>Ou (lH (λi=>some (i*te.size,te.size)) ti.zero (iI ⟨ts,ops,g,⟨t,h⟩,nx⟩ parts))else bif ti.agg then Ou (lH (λi=>(nth ti.fields i).map λf=>(f.1,f.2.1)) ti.zero (iI ⟨ts,ops,g,⟨t,h⟩,nx⟩ parts))else .bad:=(rfl)
def UK:opS ⟨ts,ops,g,⟨t,h⟩,nx⟩ (.buildSlice ty n parts.toArray)=aQ ts ty λti=>aQ ts ti.elem λte=>Hi (JD ty ops g) nx te (bsS ti te n (iI ⟨ts,ops,g,⟨t,h⟩,nx⟩ parts)):=(rfl)
def af5:opS ⟨ts,ops,g,⟨t,h⟩,nx⟩ (.load ty a)=aQ ts ty λti=>qC ti h (bL ops g (raw t a)):=(rfl)
def ad1:opS ⟨ts,ops,g,⟨t,h⟩,nx⟩ (.store ty a x)=aQ ts ty λti=>rg ti.size nx h (bL ops g (raw t a)) (bL ops g (raw t x)):=(rfl)
def Yk:opS ⟨ts,ops,g,⟨t,h⟩,nx⟩ (.nilCheck x)=TH (bL ops g (raw t x)):=(rfl)
def ad2 {op:BinOp}:opS ⟨ts,ops,g,⟨t,h⟩,nx⟩ (.binOp op ty x y n)=Jx ts op ty (bL ops g (raw t x)) (bL ops g (raw t y)):=(rfl)
def af6 {op:UnOp}:opS ⟨ts,ops,g,⟨t,h⟩,nx⟩ (.unOp op ty x)=unS op (bL ops g (raw t x)):=(rfl)
def Z1:opS ⟨ts,ops,g,⟨t,h⟩,nx⟩ (.convert n ty x)=aQ ts n λ_=>aQ ts ty λti=>LQ ti.int (bL ops g (raw t x)):=(rfl)
def Yl {fn:Fn}{first caps:List Operand}:opS cx (.makeFunc fn first.toArray caps.toArray)=LU fn (dA cx first) (dA cx caps):=(rfl)
attribute[go_sem]ad0 UK af5 ad1 Yk ad2 af6 Z1 Yl
def Z2 (k:SV):Option (Nat×Nat×Bool)->OR
 |some (o,n,_) =>bif Nat.ble 1 n then Bi o k else .bad|none=>.bad
@[go_sem] def abz:= @Z2.eq_1
def Xp:opS ⟨ts,ops,g,⟨t,h⟩,nx⟩ (.fieldAddr ty x f)=aQ ts ty λti=>Z2 (bL ops g (raw t x)) (nth ti.fields f):=(rfl)
def ad3:opS ⟨ts,ops,g,⟨t,h⟩,nx⟩ (.field ty x f)=aQ ts ty λti=>sr (nth ti.fields f) (zP (bL ops g (raw t x))):=(rfl)
def Xq:opS ⟨ts,ops,g,⟨t,h⟩,nx⟩ (.indexAddr ty x y)=aQ ts ty λti=>aQ ts ti.elem λte=>ip ti te.size h (bL ops g (raw t x)) (bL ops g (raw t y)):=(rfl)
def ad4:opS ⟨ts,ops,g,⟨t,h⟩,nx⟩ (.panic x)=TP (bL ops g (raw t x)):=(rfl)
def QX:opS ⟨ts,ops,g,⟨t,h⟩,nx⟩ (.makeInterface ty x)=aQ ts ty λti=>bif ti.iface then .bad else Ei ty (bL ops g (raw t x)):=(rfl)
def UL {ok:Bool}:opS ⟨ts,ops,g,⟨t,h⟩,nx⟩ (.typeAssert x n ty ok)=aQ ts ty λti=>taS ty ok ti (bL ops g (raw t x)):=(rfl)
def Z3:opS ⟨ts,ops,g,⟨t,h⟩,nx⟩ (.extract x n)=TO n (bL ops g (raw t x)):=(rfl)
def Xr:opS ⟨ts,ops,g,⟨t,h⟩,nx⟩ (.makeSlice ty x y)=aQ ts ty λti=>aQ ts ti.elem λte=>bif ti.isSlice then(bif te.isSlice then aQ ts te.elem λtr=>Hj nx te tr (bL ops g (raw t x)) (bL ops g (raw t y))else mkS nx te (bL ops g (raw t x)) (bL ops g (raw t y)))else .bad:=(rfl)
attribute[go_sem]Xp ad3 Xq ad4 QX UL Z3 Xr
variable {lo hi:Option Operand}
def ad5:opS ⟨ts,ops,g,⟨t,h⟩,nx⟩ (.slice ty x lo hi none)=aQ ts ty λti=>aQ ts ti.elem λte=>mN ti te.size nx h (ot ⟨ts,ops,g,⟨t,h⟩,nx⟩ lo) (ot ⟨ts,ops,g,⟨t,h⟩,nx⟩ hi) (In hi&&LS ops) (bL ops g (raw t x)):=(rfl)
def af7{m:Operand}:opS ⟨ts,ops,g,⟨t,h⟩,nx⟩ (.slice ty x lo hi (some m))=aQ ts ty λti=>aQ ts ti.elem λ_=>El ti (ot ⟨ts,ops,g,⟨t,h⟩,nx⟩ lo) (ot ⟨ts,ops,g,⟨t,h⟩,nx⟩ hi) (bL ops g (raw t m)) (bL ops g (raw t x)):=(rfl)
def Z4:opS ⟨ts,ops,g,⟨t,h⟩,nx⟩ (.makeMap ty none)=aQ ts ty λti=>mmR nx ti.mkt ti.mvt:=(rfl)
def abA {ok:Bool}:opS ⟨ts,ops,g,⟨t,h⟩,nx⟩ (.lookup ty x y ok)=aQ ts ty λti=>tI ti h ok (bL ops g (raw t y)) (bL ops g (raw t x)):=(rfl)
def Xs:opS ⟨ts,ops,g,⟨t,h⟩,nx⟩ (.mapUpdate ty x y a)=aQ ts ty λti=>Dd ti h (bL ops g (raw t y)) (bL ops g (raw t a)) (bL ops g (raw t x)):=(rfl)
def abB:opS ⟨ts,ops,g,⟨t,h⟩,nx⟩ (.insert ty x y a)=aQ ts ty λti=>Dd ti h (bL ops g (raw t y)) (bL ops g (raw t a)) (bL ops g (raw t x)):=(rfl)
def Ym:opS ⟨ts,ops,g,⟨t,h⟩,nx⟩ (.mapEntry ty x y)=aQ ts ty λti=>yi ti nx h (bL ops g (raw t y)) (bL ops g (raw t x)):=(rfl)
def UN:opS ⟨ts,ops,g,⟨t,h⟩,nx⟩ (.entryStore ty x y a)=aQ ts ty λti=>JG ti h (bL ops g (raw t a)) (bL ops g (raw t x)) (bL ops g (raw t y)):=(rfl)
attribute[go_sem]ad5 af7 Z4 abA Xs abB Ym UN
variable {args:List Operand}
def af8{tys:Array TypeId}:opS ⟨ts,ops,g,⟨t,h⟩,nx⟩ (.call ⟨.value x,args.toArray,tys⟩)=zS (dA ⟨ts,ops,g,⟨t,h⟩,nx⟩ args) (bL ops g (raw t x)):=(rfl)
def aio:opS ⟨ts,ops,g,⟨t,h⟩,nx⟩ (.call ⟨.builtin .len,args.toArray,[ty].toArray⟩)=aQ ts ty λti=>t_ ti h (dA ⟨ts,ops,g,⟨t,h⟩,nx⟩ args):=(rfl)
def abC:opS ⟨ts,ops,g,⟨t,h⟩,nx⟩ (.call ⟨.builtin .append,args.toArray,[ty,n].toArray⟩)=aQ ts ty λti=>aQ ts n λti2=>aQ ts ti.elem λte=>bif ti.isSlice&&ti2.isSlice then mv te nx h (dA ⟨ts,ops,g,⟨t,h⟩,nx⟩ args)else .bad:=(rfl)
def abD{tys:List TypeId}:opS ⟨ts,ops,g,⟨t,h⟩,nx⟩ (.call ⟨.builtin .delete,args.toArray,(ty::tys).toArray⟩)=aQ ts ty λti=>y6 ti h (dA ⟨ts,ops,g,⟨t,h⟩,nx⟩ args):=(rfl)
def ad6:opS ⟨ts,ops,g,⟨t,h⟩,nx⟩ (.call ⟨.builtin .clear,args.toArray,[ty].toArray⟩)=aQ ts ty λti=>aQ ts ti.elem λte=>y5 ti te h (dA ⟨ts,ops,g,⟨t,h⟩,nx⟩ args):=(rfl)
attribute[go_sem]af8 aio abC abD ad6
variable {tys:Array TypeId}
def aip:opS cx (.call ⟨.builtin .min,args.toArray,tys⟩)=JE (dA cx args):=(rfl)
def aiq:opS cx (.call ⟨.builtin .max,args.toArray,tys⟩)=JF (dA cx args):=(rfl)
def ad7:opS ⟨ts,ops,g,⟨t,h⟩,nx⟩ (.range ty x)=aQ ts ty λti=>Em ti nx h (bL ops g (raw t x)):=(rfl)
def af9:opS ⟨ts,ops,g,⟨t,h⟩,nx⟩ (.next x false)=TW (bL ops g (raw t x)):=(rfl)
def ad8:opS ⟨ts,ops,g,⟨t,h⟩,nx⟩ (.entry x)=CF h (bL ops g (raw t x)):=(rfl)
def ad9:fpO ⟨ts,ops,g,⟨t,h⟩,nx⟩ (.range ty x)=(fT (bL ops g (raw t x)),[]):=(rfl)
def af_ {s:Bool}:fpO cx (.next x s)=([],[]):=(rfl)
def ad_:fpO ⟨ts,ops,g,⟨t,h⟩,nx⟩ (.entry x)=(fT (bL ops g (raw t x))++TZ h (bL ops g (raw t x)),[]):=(rfl)
def aga:fpO ⟨ts,ops,g,⟨t,h⟩,nx⟩ (.load ty a)=(fT (bL ops g (raw t a)),[]):=(rfl)
def aea:fpO ⟨ts,ops,g,⟨t,h⟩,nx⟩ (.store ty a x)=(fT (bL ops g (raw t a))++fT (bL ops g (raw t x)),[]):=(rfl)
def Xt:fpO ⟨ts,ops,g,⟨t,h⟩,nx⟩ (.indexAddr ty x y)=(fT (bL ops g (raw t x)),[]):=(rfl)
def aeb{mx:Option Operand}:fpO ⟨ts,ops,g,⟨t,h⟩,nx⟩ (.slice ty x lo hi mx)=(fT (bL ops g (raw t x)),[]):=(rfl)
def abE {ok:Bool}:fpO ⟨ts,ops,g,⟨t,h⟩,nx⟩ (.lookup ty x y ok)=bif ok then(fT (bL ops g (raw t x)),[])else([],fT (bL ops g (raw t x))):=(rfl)
def Xu:fpO ⟨ts,ops,g,⟨t,h⟩,nx⟩ (.mapUpdate ty x y a)=(fT (bL ops g (raw t x)),[]):=(rfl)
def abF:fpO ⟨ts,ops,g,⟨t,h⟩,nx⟩ (.insert ty x y a)=(fT (bL ops g (raw t x)),[]):=(rfl)
def Yn:fpO ⟨ts,ops,g,⟨t,h⟩,nx⟩ (.mapEntry ty x y)=(fT (bL ops g (raw t x)),[]):=(rfl)
def UO:fpO ⟨ts,ops,g,⟨t,h⟩,nx⟩ (.entryStore ty x y a)=(fT (bL ops g (raw t x)),[]):=(rfl)
def air:fpO ⟨ts,ops,g,⟨t,h⟩,nx⟩ (.call ⟨.builtin .len,args.toArray,tys⟩)=(pi (dA ⟨ts,ops,g,⟨t,h⟩,nx⟩ args),[]):=(rfl)
def abG:fpO ⟨ts,ops,g,⟨t,h⟩,nx⟩ (.call ⟨.builtin .append,args.toArray,tys⟩)=(pi (dA ⟨ts,ops,g,⟨t,h⟩,nx⟩ args),[]):=(rfl)
def abH:fpO ⟨ts,ops,g,⟨t,h⟩,nx⟩ (.call ⟨.builtin .delete,args.toArray,tys⟩)=(pi (dA ⟨ts,ops,g,⟨t,h⟩,nx⟩ args),[]):=(rfl)
def aec:fpO ⟨ts,ops,g,⟨t,h⟩,nx⟩ (.call ⟨.builtin .clear,args.toArray,tys⟩)=(pi (dA ⟨ts,ops,g,⟨t,h⟩,nx⟩ args),[]):=(rfl)
def agb:fpO cx (.move x)=([],[]):=(rfl)
def abI:fpO cx (.assign x)=([],[]):=(rfl)
def agc:fpO cx (.pick x a b)=([],[]):=(rfl)
def aed:fpO cx (.alloc ty)=([],[]):=(rfl)
def ais:fpO cx (.box ty x)=([],[]):=(rfl)
attribute[go_sem]aip aiq ad7 af9 ad8 ad9 af_ ad_ aga aea Xt aeb abE Xu abF Yn UO air abG abH aec agb abI agc aed ais
variable {parts:Array (Nat×Operand)}
def aee:fpO cx (.build ty parts)=([],[]):=(rfl)
def UQ:fpO cx (.buildSlice ty n parts)=([],[]):=(rfl)
def Yo:fpO cx (.nilCheck x)=([],[]):=(rfl)
def aef {op:BinOp}:fpO cx (.binOp op ty x y n)=([],[]):=(rfl)
def agd {op:UnOp}:fpO cx (.unOp op ty x)=([],[]):=(rfl)
def Z5:fpO cx (.convert n ty x)=([],[]):=(rfl)
def Yp {fn:Fn}{first caps:Array Operand}:fpO cx (.makeFunc fn first caps)=([],[]):=(rfl)
def Xv:fpO cx (.fieldAddr ty x f)=([],[]):=(rfl)
def aeg:fpO cx (.field ty x f)=([],[]):=(rfl)
def aeh:fpO cx (.panic x)=([],[]):=(rfl)
def QY:fpO cx (.makeInterface ty x)=([],[]):=(rfl)
def UR {ok:Bool}:fpO cx (.typeAssert x n ty ok)=([],[]):=(rfl)
def Z6:fpO cx (.extract x n)=([],[]):=(rfl)
def Xw:fpO cx (.makeSlice ty x y)=([],[]):=(rfl)
def Z7 {o:Option Operand}:fpO cx (.makeMap ty o)=([],[]):=(rfl)
attribute[go_sem]aee UQ Yo aef agd Z5 Yp Xv aeg aeh QY UR Z6 Xw Z7
variable {args:Array Operand}
def age:fpO cx (.call ⟨.value x,args,tys⟩)=([],[]):=(rfl)
def ait:fpO cx (.call ⟨.builtin .min,args,tys⟩)=([],[]):=(rfl)
def aiu:fpO cx (.call ⟨.builtin .max,args,tys⟩)=([],[]):=(rfl)
attribute[go_sem]age ait aiu
@[go_sem] theorem aei {k:TI->OR}:aQ ts ty k=Pg k (ts ty):=by unfold aQ Pg;cases ts ty <;>rfl
@[go_sem] def abJ:= @Pg.eq_1
@[go_sem] def Z8:= @kA.eq_1
variable {want:Bool}
def Yq:kA ops g c want .any=.any:=(rfl)
def abK{v:Value}:kA ops g c want (.v v)=.v v:=(rfl)
attribute[go_sem]Yq abK
@[go_sem] def aiv:= @Ef.eq_1
@[go_sem] def aiw:= @Ef.eq_2
@[go_sem] def aix:= @Ef.eq_3
@[go_sem] def aej:= @wQ.eq_1
@[go_sem]def aek {t:List (Nat×SV)}{h:List Ob}:apS ⟨t,h⟩=bif ou h then ⟨Oz h t,yH h⟩else ⟨t,h⟩:=(rfl)
@[go_sem] def aiy:= @raw.eq_1
@[go_sem] def ael:= @raw.eq_2
@[go_sem] def agf:= @raw.eq_3
@[go_sem] theorem ajP {n:Nat}{s:SV}{r:List (Nat×SV)}:lk n ((n,s)::r)=s:=by simp[lk]
@[go_sem] def aiz:= @lk.eq_2
@[go_sem] def ajQ:= @lk.eq_1
@[go_sem] def aiA:= @bL.eq_3
@[go_sem] def aem:= @bL.eq_2
@[go_sem] def aen:= @bL.eq_4
@[go_sem] def agh:= @bL.eq_5
@[go_sem] def agi:= @bL.eq_21
@[go_sem] def agj:= @bL.eq_6
@[go_sem] def agk:= @bL.eq_7
@[go_sem] def agl:= @bL.eq_8
@[go_sem] def agm:= @bL.eq_9
@[go_sem] def agn:= @bL.eq_10
@[go_sem] def ago:= @bL.eq_11
@[go_sem] def agp:= @bL.eq_12
@[go_sem] def agq:= @bL.eq_13
@[go_sem] def agr:= @bL.eq_14
@[go_sem] def aeo:= @bL.eq_15
@[go_sem] def aep:= @bL.eq_16
@[go_sem] def ags:= @bL.eq_17
@[go_sem] def agt:= @bL.eq_1
end
section
variable {ti te:TI}{esz nx id id2 off:Nat}{h:List Ob}{k k2:Tag}{i j n c:Int}{kk kj:IntKind}{lo hi:Option SV}{key s:SV}{ok:Bool}{ts:Tis}{op:BinOp}{ty:Nat}
@[go_sem] def arV:= @one.eq_1
@[go_sem]def arY {α:Type}{x y:α}{l:List α}:one (x::y::l)=false:=(rfl)
@[go_sem] def aiB:= @Hi.eq_1
variable {g:Option (Nat×Bool)}
def aiC{s:Nat}{l:List SV}:Hi g nx te (.apm (.ls s l))=.apm (.ls s l):=(rfl)
def aiD:Hi g nx te (.apm .e0)=.apm .e0:=(rfl)
def agu {a b:Int}:Jx ts op ty (.v (.int kk a)) (.v (.int kj b))=bif CE op kk kj then uo op kk a b else .bad:=(rfl)
attribute[go_sem]aiC aiD agu
variable {l:List k.T}
def aiE:Jx ts op ty (.rs k l) (.v (.slice none 0 0))=aQ ts ty λti=>bif ti.isSlice then XD op (l=[])else .bad:=(rfl)
def agv {a b:ByteArray}:Jx ts op ty (.v (.string a)) (.v (.string b))=aQ ts ty λti=>bif Nat.beq ti.sc 2 then Qs op a b else .bad:=(rfl)
def aeq {a b:Bool}:Jx ts op ty (.v (.bool a)) (.v (.bool b))=aQ ts ty λti=>bif Nat.beq ti.sc 3 then Jw op a b else .bad:=(rfl)
def agw {a b:List SV}:Jx ts op ty (.agg a) (.agg b)=aQ ts ty λti=>eqT op a b ti:=(rfl)
attribute[go_sem]aiE agv aeq agw
@[go_sem] def aer:= @ip.eq_1
@[go_sem] def aes:= @ip.eq_2
@[go_sem] def aet:= @ip.eq_3
@[go_sem] def aeu:= @ip.eq_4
@[go_sem] def abL:= @ip.eq_5
@[go_sem] def aev:= @ip.eq_6
@[go_sem] def aew:= @ip.eq_7
@[go_sem] def aiF:= @t_.eq_1
@[go_sem] def agx:= @t_.eq_2
@[go_sem] def aiG:= @t_.eq_4
@[go_sem] def aiH:= @t_.eq_3
@[go_sem] def aiI:= @t_.eq_5
@[go_sem] def aiJ:= @t_.eq_6
@[go_sem] def aiK:= @t_.eq_7
def agy{a b:Int}:El ti none (some (.v (.int .i64 a))) (.v (.int .i64 b)) (.rs k l)=bif ti.isSlice then .chk (a=(l.length:Int)/\b=(l.length:Int)) (.rc k l)else .bad:=(rfl)
def aex:El ti none (some (.v (.int .i64 0))) (.v (.int .i64 0)) (.v (.slice none 0 0))=bif ti.isSlice then .val (.v (.slice none 0 0))else .bad:=(rfl)
attribute[go_sem]agy aex
@[go_sem] def aey:= @mN.eq_1
@[go_sem] def aez:= @mN.eq_2
@[go_sem] def abM:= @TT.eq_1
@[go_sem] def agz:= @bnd.eq_1
@[go_sem] def agA:= @bnd.eq_2
@[go_sem] def aeA:= @XL.eq_1
@[go_sem] def aeB:= @XM.eq_1
@[go_sem] def aiL:= @mkS.eq_1
@[go_sem] def aiM:= @mv.eq_1
@[go_sem] def aiN:= @mv.eq_2
def aeC:mv te nx h [.os id,(.rs k l)]=wq te nx [(id,.dead)] h (.rs k l) (ap h id):=(rfl)
def aeD:mv te nx h [.v (.slice none 0 0),(.rs k l)]=vh te nx h (.rs k l) te.tag:=(rfl)
attribute[go_sem]aeC aeD
@[go_sem] def aiO:= @mv.eq_7
@[go_sem] def aiP:= @XI.eq_1
def aeE:mv te nx h [.e0,(.rs k l)]=vh te nx h (.rs k l) te.tag:=(rfl)
def abN:mv te nx h [.os id,(.v (.slice none 0 0))]=wq te nx [(id,.dead)] h (.v (.slice none 0 0)) (ap h id):=(rfl)
def abO:mv te nx h [.v (.slice none 0 0),(.v (.slice none 0 0))]=vh te nx h (.v (.slice none 0 0)) te.tag:=(rfl)
def abP:mv te nx h [.e0,(.v (.slice none 0 0))]=vh te nx h (.v (.slice none 0 0)) te.tag:=(rfl)
def aeF:mv te nx h [.os id,.e0]=wq te nx [(id,.dead)] h .e0 (ap h id):=(rfl)
def aeG:mv te nx h [.v (.slice none 0 0),.e0]=vh te nx h .e0 te.tag:=(rfl)
def aeH:mv te nx h [.e0,.e0]=vh te nx h .e0 te.tag:=(rfl)
def aeI {s:Nat}{lo hi:Int}:mv te nx h [.os id,(.vw s id2 lo hi)]=wq te nx [(id,.dead)] h (.vw s id2 lo hi) (ap h id):=(rfl)
def aeJ {s:Nat}{lo hi:Int}:mv te nx h [.v (.slice none 0 0),(.vw s id2 lo hi)]=vh te nx h (.vw s id2 lo hi) te.tag:=(rfl)
def aeK {s:Nat}{lo hi:Int}:mv te nx h [.e0,(.vw s id2 lo hi)]=vh te nx h (.vw s id2 lo hi) te.tag:=(rfl)
attribute[go_sem]aeE abN abO abP aeF aeG aeH aeI aeJ aeK
@[go_sem] def aeL:= @mv.eq_3
@[go_sem] def agB:= @XH.eq_1
def aeM:mv te nx h [.v (.slice none 0 0),(.os id2)]=vh te nx h (.os id2) te.tag:=(rfl)
def aeN:mv te nx h [.e0,(.os id2)]=vh te nx h (.os id2) te.tag:=(rfl)
attribute[go_sem]aeM aeN
@[go_sem] theorem abQ:zT k k l=some l:=by simp[zT]
@[go_sem] def aiQ:= @ur.eq_1
@[go_sem] def agC:= @ur.eq_2
@[go_sem] def aiR:= @ur.eq_3
@[go_sem] def aiS:= @ur.eq_4
@[go_sem] def aiT:= @ur.eq_5
@[go_sem] def agD:= @tI.eq_1
@[go_sem] def agE:= @tI.eq_2
@[go_sem] def aeO:= @tI.eq_3
@[go_sem] def aiU:= @JG.eq_1
def agF:Bg (.v (.int kk n))=some [(.v (.int kk n))]:=(rfl)
def agG {b:ByteArray}:Bg (.v (.string b))=some [.v (.string b)]:=(rfl)
def aeP {b:Bool}:Bg (.v (.bool b))=some [.v (.bool b)]:=(rfl)
def aiV:Bg (.rs k l)=some [.rs k l]:=(rfl)
def aiW {l:List (k.T×k2.T)}:Bg (.rm k k2 l)=some [.rm k k2 l]:=(rfl)
def aiX:Bg .e0=some [.e0]:=(rfl)
def agH:Bg (.v (.slice none 0 0))=some [.v (.slice none 0 0)]:=(rfl)
def aeQ:Bg (.v (.map none))=some [.v (.map none)]:=(rfl)
attribute[go_sem]agF agG aeP aiV aiW aiX agH aeQ
@[go_sem] def aeR:= @taS.eq_1
end
@[go_sem]def ar2 (a b:Nat):Nat.beq a b=(a==b):=by
 rw[alZ];simp
@[go_sem]def ar5 (a b:Nat):Nat.ble a b=decide (a<=b):=by
 rw[alZ];simp
@[go_sem]def ar6 (a b:Nat):Nat.blt a b=decide (a<b):=by
 rw[alZ];simp[Nat.blt];omega
section
variable {σ:Type}{D:σ->St}{I:σ->Prop}{m:σ->Nat}{x:σ}{id n0:Nat}{Q:Ex->St->Prop}{st:St}{rs:List ResultVar}{post:SV->Prop}{ts:Tis}{pp:Value->Prop}{C:aoJ}{md:Bool}
@[go_sem] def Xx:= @vo.eq_1
@[go_sem] def Z9:= @vo.eq_2
@[go_sem] def abR:= @vo.eq_3
@[go_sem] def abS:= @vo.eq_4
@[go_sem] def Xy:= @iP.eq_1
@[go_sem] def aeS:= @Ew.eq_3
@[go_sem] def Yr:= @Ew.eq_2
@[go_sem] def aeT:= @Ew.eq_4
@[go_sem] def Ys:= @LZ.eq_2
@[go_sem] def aeU:= @LZ.eq_3
@[go_sem] def aeV:= @LZ.eq_4
@[go_sem] def abT:= @Ey.eq_1
@[go_sem]def ajR {js:List Nat}{t t2:List (Nat×SV)}{h h2:List Ob}:Sub js n0 ⟨t,h⟩ ⟨t2,h2⟩=((uniq (mw js h2)=true/\Bk 0 js n0=true/\js.all (λj=>Nat.blt j h.length)=true)/\RY (Ev js) h2.length t t2/\Hk (Ev js) h2.length h js h2):=(rfl)
end
attribute [go_sem] TS Ow
attribute [go_sem] decide_true decide_false cond_true cond_false List.any_cons List.any_nil Option.isSome_none Option.isSome_some Bool.or_false Bool.false_or Bool.or_true Bool.true_or Bool.and_true Bool.true_and Bool.and_false Bool.false_and Bool.not_true Bool.not_false List.length_cons List.length_nil List.map_cons List.map_nil List.flatMap_cons List.flatMap_nil List.append_nil List.isEmpty_nil List.isEmpty_cons Option.map_some Option.map_none Option.bind_some Option.getD_some Option.getD_none Option.toList_some Option.toList_none List.cons_append List.nil_append Nat.zero_add Nat.add_zero Nat.zero_mul Nat.mul_one Nat.one_mul
 rJ Db nth LP uo CE XD Qs Jw eqV y4 eqL eqO eqT aaz kN zP unS uq qC zR Eg Bh Bi Jy Oj Ok lH rG Dc sr Om Jz On Oo Oq rf rg Eh TG JA Hj XK XJ ou QC yH aaR Oz T5 aaQ TH LQ JB Ou TJ lsS bsT bsU afB osL osV XE aaF ZC bsG bsS noG TO zS XF aaH aaG JE JF TP Ei LU TQ aaI TU TR wq Ej Ek XG vh mkT XN Im lw In noE Qy TV aaK aaL Dd RQ RR yi aaM aaN aaO aaP y6 aaJ y5 Qw mmR zsO svT CD unT oo afs
 dU gq wN XP QB T0 frz XQ RS gi apl dD jo a6 rh jp fG T3 reach De y7 zV ren vj Ox inN rK rH kc mL ap cL bf ft fT JH pi kB RU zU afw afx TK Qt TL afy aaB Ov Qu LR TM aaC LS afz aaD TN aaE afA Qv ZB JD fpU Io ph cut LO sz re Ed gN cellsOf oq wb et fit ul toI toB toS toF fnV uh wG wH ui wI zL wJ D9 LH yZ Bc Bd LI v_ Ij LJ zM yD uj Qo CB tG tH LK zN CC Ik Il D_ wa yE uk Qp lG kh wK
 at0 mkE LL yh Be y3 zK eG aa Ee zQ dA iI ot XS RW LY ri tA afE Es wR yI CH ZF vn uniq RX Et XO Em TW TX Qz CF TZ TY amG Ol vg List.all_cons List.all_nil aoA LG RY Hk JM QD wkL Eu unp dL wd mM mw Bk Ev
end Go.Sx
end
section
namespace Go.Sx
open IntKind (i64)
open Go.RowKit
universe u
variable {P:Program}
def ae (f:Func):Code:=match f.body with|some c=>c|none=>.skip
def L0:wc:=λ_ _=>none
@[go_sem] def aiY:= @L0.eq_1
def mkP:List (Nat×(List SV->Option Con))->FuncId->List SV->Option Con
 | [],_,_=>none|(n,C)::r,f,l=>bif Nat.beq n f then C l else mkP r f l
def mkO:List (Nat×(List SV->List Ob->Option aoJ))->FuncId->List SV->List Ob->Option aoJ
 | [],_,_,_=>none|(n,C)::r,f,l,h=>bif Nat.beq n f then C l h else mkO r f l h
theorem Ph:∀ (E:List (Nat×(List SV->Option Con))),(∀ x∈E,P1 P x.1 x.2)->∀ f,P1 P f (mkP E f)
 | [],_,f=>⟨λl c h=>(by cases h),λl c h=>(by cases h)⟩
 |(n,C)::r,h,f=>by
  have W:=Ph r (λx O=>h x (by simp[O])) f;cases V:Nat.beq n f with
  |false=>
   simp_all [mkP]
  |true=>
   simp_all [mkP]
theorem Pi:∀ (E:List (Nat×(List SV->List Ob->Option aoJ))),(∀ x∈E,aoH P x.1 x.2)->∀ f,aoH P f (mkO E f)
 | [],_,f=>⟨λl h c hc=>(by cases hc),λl h c hc=>(by cases hc)⟩
 |(n,C)::r,h,f=>by
  have W:=Pi r (λx O=>h x (by simp[O])) f;cases V:Nat.beq n f with
  |false=>
   simp_all [mkO]
  |true=>
   simp_all [mkO]
def noY:List SV->Res->Option apR:=λ_ _=>none
theorem abU:YOk P noY:=λl r c h=>(by cases h)
def mkG (ps:List (Nat×(List SV->Option Con)))(os:List (Nat×(List SV->List Ob->Option aoJ))):Cons:=⟨mkP ps,mkO os,noY⟩
def oA {E:List (Nat×(List SV->Option Con))}{O:List (Nat×(List SV->List Ob->Option aoJ))}(h1:∀ x∈E,P1 P x.1 x.2)(h2:∀ x∈O,aoH P x.1 x.2):aot P (mkG E O):=⟨Ph E h1,Pi O h2,abU⟩
variable {ps:List (Nat×(List SV->Option Con))}{os:List (Nat×(List SV->List Ob->Option aoJ))}
def arc:(mkG ps os).p=mkP ps:=(rfl)
def aqP:(mkG ps os).o=mkO os:=(rfl)
attribute[go_sem]arc aqP
@[go_sem] def aiZ:= @mkP.eq_1
@[go_sem] def agI:= @mkP.eq_2
@[go_sem] def ai0:= @mkO.eq_1
@[go_sem] def agJ:= @mkO.eq_2
section
variable {α:Type u}
def pI (k:Int->List SV->Option α):List SV->Option α
 | .v (.int .i64 n)::r=>k n r|_=>none
def pU (k:Int->List SV->Option α):List SV->Option α
 | .v (.int .u64 n)::r=>k n r|_=>none
def pB (k:Bool->List SV->Option α):List SV->Option α
 | .v (.bool b)::r=>k b r|_=>none
def pS (k:ByteArray->List SV->Option α):List SV->Option α
 | .v (.string b)::r=>k b r|_=>none
def IN (t:Tag)(k:List t.T->List SV->Option α)(r:List SV)(k':Tag)(l:List k'.T):Option α:=if h:k'=t then k (h▸l) r else none
def pR (t:Tag)(k:List t.T->List SV->Option α):List SV->Option α
 | .rs k' l::r=>IN t k r k' l|_=>none
def pDo {T:Type}(k:T->List SV->Option α)(r:List SV):Option T->Option α
 |some x=>k x r|none=>none
def pD (t:Tag)(k:t.T->List SV->Option α):List SV->Option α
 | .agg l::r=>pDo k r (wb t l)|_=>none
def pX (t:Tag)(k:t.T->List SV->Option α):List SV->Option α
 | .ep l 0::r=>pDo k r (wb t l)|_=>none
def US (t t2:Tag)(k:List (t.T×t2.T)->List SV->Option α)(r:List SV)(k' k2:Tag)(l:List (k'.T×k2.T)):Option α:=if h:k'=t/\k2=t2 then k (h.1▸h.2▸l) r else none
def pM (t t2:Tag)(k:List (t.T×t2.T)->List SV->Option α):List SV->Option α
 | .rm k' k2 l::r=>US t t2 k r k' k2 l|_=>none
def pE (c:α):List SV->Option α
 | [] =>some c|_=>none
variable {k:Int->List SV->Option α}{kb:Bool->List SV->Option α}{ks:ByteArray->List SV->Option α}{r:List SV}{c:α}{t:Tag}
@[go_sem] def ai1:= @pI.eq_1
@[go_sem] def ai2:= @pU.eq_1
@[go_sem] def ai3:= @pB.eq_1
@[go_sem] def ai4:= @pS.eq_1
@[go_sem] theorem ai5 {kr:List t.T->List SV->Option α}{l:List t.T}:pR t kr (.rs t l::r)=kr l r:=by simp[pR,IN]
@[go_sem] def ai6:= @pD.eq_1
@[go_sem] def ai7:= @pX.eq_1
@[go_sem] theorem ai8 {t2:Tag}{kr:List (t.T×t2.T)->List SV->Option α}{l:List (t.T×t2.T)}:pM t t2 kr (.rm t t2 l::r)=kr l r:=by simp[pM,US]
@[go_sem] def agK:= @pDo.eq_1
@[go_sem] def ajS:= @pE.eq_1
variable {l:List SV}
theorem UT{c:α}(h:pI k l=some c):∃ n r,l=.v (.int .i64 n)::r/\k n r=some c:=by
 unfold pI at h;grind
theorem Kg{c:α}(h:pU k l=some c):∃ n r,l=.v (.int .u64 n)::r/\k n r=some c:=by
 unfold pU at h;grind
theorem abV{c:α}(h:pB kb l=some c):∃ n r,l=.v (.bool n)::r/\kb n r=some c:=by
 unfold pB at h;grind
theorem w8{c E:α}(h:pE E l=some c):l=[]/\c=E:=by
 grind [pE]
theorem abW{kr:List t.T->List SV->Option α}{c:α}(h:pR t kr l=some c):∃ x r,l=.rs t x::r/\kr x r=some c:=by
 unfold pR at h;grind [IN]
variable {kd:t.T->List SV->Option α}
theorem UU{c:α}(h:pX t kd l=some c):∃ x r,l=.ep (cellsOf t x) 0::r/\kd x r=some c:=by
 unfold pX at h;split at h;rename_i l' r;cases E:wb t l' with
 |none=>rw[E]at h;cases h
 |some x=>rw[E]at h;exact⟨x,r,by rw[qH E],h⟩
 cases h
theorem UV{t2:Tag}{kr:List (t.T×t2.T)->List SV->Option α}{c:α}(h:pM t t2 kr l=some c):∃ x r,l=.rm t t2 x::r/\kr x r=some c:=by
 unfold pM at h;split at h;rename_i k' k2 l' r;unfold US at h;grind
 cases h
theorem Kh{c:α}(h:pD t kd l=some c):∃ x r,l=.agg (cellsOf t x)::r/\kd x r=some c:=by
 unfold pD at h;split at h;rename_i l' r;cases E:wb t l' with
 |none=>rw[E]at h;cases h
 |some x=>rw[E]at h;exact⟨x,r,by rw[qH E],h⟩
 cases h
end
section
variable {F:Nat->Prop}{own:Own}{w:World}
theorem E_ {p:Pk}{s:SV}{v:Value}(h:Rel F own w s v):Rel F own w (Be p s) v:=by
 unfold Be;split;cases h with
 |agg W h1=>
  refine .agg (by grind [zZ]) λj s V=>?_;obtain⟨s0,O,E| ⟨k,E⟩⟩:=uw _ _ _ _ V;grind
  subst E;exact ow (h1 j _ O)
 exact ow h;exact ow h;exact h
theorem Fa:∀ (E:List Pk) (l:List SV),(y3 E l).length=l.length
 | [],l=>by simp[y3]
 |k::ks,[] =>by simp[y3]
 |k::ks,s::r=>by simp[y3,Fa ks r]
theorem Fb:∀ (E:List Pk) (l:List SV) (j:Nat) (s:SV),(y3 E l)[j]? =some s->∃ s0,l[j]? =some s0/\(s=s0\/∃ p,s=Be p s0)
 | [],l,j,s,h=>⟨s,by grind [y3],.inl rfl⟩
 |k::ks,[],j,s,h=>by simp[y3]at h
 |k::ks,x::r,0,s,h=>by grind [y3]
 |k::ks,x::r,j+1,s,h=>by simp[y3]at h;simpa using Fb ks r j s h
theorem P1.norm {f:FuncId}{C:List SV->Option Con}(X:List Pk)(h:P1 P f C):P1 P f (λl=>C (y3 X l)):=
 ⟨λl c hc=>h.enter _ c hc,λl c hc O F w vs Y E=>h.calls _ c hc O F w vs Y ⟨by rw[Fa];exact E.1,λj s hj=>by
  obtain⟨s0,W,V| ⟨p,V⟩⟩:=Fb _ _ _ _ hj;subst V;exact E.2 j _ W;subst V;exact E_ (E.2 j _ W)⟩⟩
end
attribute [go_sem] dZ kZ nY
attribute [go_sem] wb
def noH {α:Type 1}:List Ob->Option α->Option α
 | [],x=>x|_,_=>none
@[go_sem] def ai9:= @noH.eq_1
theorem QZ {α:Type 1}{h:List Ob}{x:Option α}{c:α}(E:noH h x=some c):h=[]/\x=some c:=by
 cases h with
 |nil=>exact⟨rfl,E⟩|cons=>cases E
theorem aA {n:Int}(h1: -9223372036854775808<=n)(h2:n<9223372036854775808):i64.wrap n=n:=by
 simp[IntKind.wrap,IntKind.bits,IntKind.signed];omega
end Go.Sx
end
section
namespace Go.Sx
open Go.RowKit
def aj {ρ σ:Type}(step:Nat->σ->ρ⊕σ):Nat->Nat->σ->ρ⊕σ
 |0,_,s=>.inr s
 |n+1,i,s=>match step i s with
  | .inl r=>.inl r| .inr s'=>aj step n (i+1) s'
def cB {ρ σ τ:Type}(step:τ->σ->ρ⊕σ):List τ->σ->ρ⊕σ
 | [],s=>.inr s
 |x::l,s=>match step x s with
  | .inl r=>.inl r| .inr s'=>cB step l s'
theorem IP {ρ σ τ:Type}(f:τ->σ->ρ⊕σ)(d:τ):∀ (l pre:List τ) (s:σ),aj (λi s=>f ((pre++l).getD i d) s) l.length pre.length s=cB f l s
 | [],_,_=>rfl
 |x::l,pre,s=>by
  simp only[ak5,aj,cB];have e:(pre++x::l).getD pre.length d=x:=by simp
  rw[e];cases f x s with
  |inl r=>rfl
  |inr s'=>
   have:=IP f d l (pre++[x]) s';grind
def rP {ρ σ τ:Type}(f:τ->σ->ρ⊕σ)(d:τ)(l:List τ)(s:σ):aj (λi s=>f (l.getD i d) s) l.length 0 s=cB f l s:=IP f d l [] s
def LC {ρ σ:Type}(pre:Prop)(run:ρ⊕σ)(exE:ρ->Ex)(aoh:ρ->St)(aoD:σ->St):apc:=
 {α:=ρ⊕σ,pre:=pre,post:=λr=>r=run,ex:=λr=>match r with| .inl x=>exE x| .inr _=>.normal,out:=λr=>match r with| .inl x=>aoh x| .inr s=>aoD s}
@[go_sem] theorem My {ρ σ:Type}{pre:Prop}{run:ρ⊕σ}{exE:ρ->Ex}{aoh:ρ->St}{aoD:σ->St}{Q:Ex->St->Prop}:
  rI Q (some (LC pre run exE aoh aoD))=(pre/\(∀ x,run=.inl x->Q (exE x) (aoh x))/\∀ s,run=.inr s->Q .normal (aoD s)):=by
 apply propext;constructor
 rintro⟨h1,h2⟩;exact⟨h1,λx hx=>h2 (.inl x) hx.symm,λs hs=>h2 (.inr s) hs.symm⟩;rintro⟨h1,h2,h3⟩;refine⟨h1,λr hr=>?_⟩;cases r with
 |inl x=>exact h2 x hr.symm|inr s=>exact h3 s hr.symm
section
variable {P:Program}{ρ σ:Type}
def Yt (step:Nat->σ->ρ⊕σ)(n:Nat)(exE:ρ->Ex)(aoh:ρ->St)(aoD:σ->St)(n0 k:Nat)(s:σ)(e:Ex)(st:St):Prop:=
 (∃ js,n<=k/\e=.normal/\n0<=(aoD s).h.length/\Sub js n0 st (aoD s))\/∃ x js,k<n/\step k s=.inl x/\exE x=e/\n0<=(aoh x).h.length/\Sub js n0 st (aoh x)
def Ki (step:Nat->σ->ρ⊕σ)(n:Nat)(exE:ρ->Ex)(aoh:ρ->St)(aoD:σ->St)(D:Nat->σ->St)(J:Nat->σ->Prop)(n0 id k:Nat)(s:σ):Ex->St->Prop
 | .normal,st=>k<n/\∃ s' js,step k s=.inr s'/\J (k+1) s'/\n0<=(D (k+1) s').h.length/\Sub js n0 st (D (k+1) s')| .exit j,st=>bif Nat.beq j id then Yt step n exE aoh aoD n0 k s .normal st else Yt step n exE aoh aoD n0 k s (.exit j) st| .ret,st=>Yt step n exE aoh aoD n0 k s .ret st| .pan x,st=>Yt step n exE aoh aoD n0 k s (.pan x) st
variable {step:Nat->σ->ρ⊕σ}{n n0 id k j:Nat}{exE:ρ->Ex}{aoh:ρ->St}{aoD:σ->St}{D:Nat->σ->St}{J:Nat->σ->Prop}{s:σ}{st:St}{x:Value}
@[go_sem] def Xz:= @Ki.eq_1
@[go_sem] def Z_:= @Ki.eq_2
@[go_sem] def abX:= @Ki.eq_3
@[go_sem] def abY:= @Ki.eq_4
end
def itY (items:List (List SV))(r:Nat->Res):List SV->Res->Option apR:=λargs x=>
 some { α:=Bool,pre:=x=r x.n/\1<=x.n/\items[x.n - 1]? =some args,post:=λ_=>True,res:=λb=>(b,r (if b then x.n+1 else 0))}
def Ak (P:Program)(f:FuncId)(mk:SV->List SV)(hs:List Ob)(items:List (List SV)):Prop:=
 (∀ (args:Array Value) (w:World),(callFunc f args).run P w=.ok (.enter f args) w)/\
 ∀ r:Nat->Res,(∀ k,(r k).n=k)->YOk P (itY items r)->∀ (F:Nat->Prop) (own:Own) (w:World) (vs:Array Value),Hp F own w (.ab (r 1)::hs)->aoX F own w (mk (.os 0)) vs->
  Calls P f vs w (λe w'=>∃ u ee j h',e=.returned u/\(j=0\/j=items.length+1)/\Hp F ee w' (.ab (r j)::h')/\Fr { w:=w,own:=own} ee w')
variable {items:List (List SV)}
theorem Q0{P:Program}{f:FuncId}{W:SV->List SV}{O:List Ob}
  (h:∀ r:Nat->Res,(∀ k,(r k).n=k)->YOk P (itY items r)->∃ C,aoH P f C/\∃ c,C (W (.os 0)) (.ab (r 1)::O)=some c/\c.pre/\∀ x,c.post x->∃ s j h',c.res x=.ret s (.ab (r j)::h')/\(j=0\/j=items.length+1))
  (X:∀ (args:Array Value) (w:World),(callFunc f args).run P w=.ok (.enter f args) w):Ak P f W O items:=by
 refine⟨X,λr hr hy F own w vs hp E=>?_⟩;obtain⟨C,hC,c,h1,h2,h3⟩:=h r hr hy;refine(hC.calls _ _ c h1 h2 F own w vs hp E).mono ?_;rintro e w' ⟨x,ee,q1,V⟩;obtain⟨s,j,h',Y,k2⟩:=h3 x q1;rw[Y]at V;obtain⟨⟨u,rfl,_⟩,q3,q4,_⟩:=V;grind
def Mz (pre:Prop)(r:Nat->Res)(m:Nat):apR:= { α:=Bool,pre:=pre,post:=λ_=>True,res:=λb=>(b,r (if b then m else 0))}
theorem Fc{r:Nat->Res}(hr:∀ k,(r k).n=k)(k:Nat)(args:List SV):itY items r args (r (k+1))=some (Mz (items[k]? =some args) r (k+2)):=by
 grind [itY,Mz]
section
variable {id m:Nat}{t:List (Nat×SV)}{h:List Ob}{K:St->Prop}{pre:Prop}{r:Nat->Res}{ops:List Oper}{g:Nat×Bool}
theorem two {p:Bool->Prop}:(∀ b,p b)=(p true/\p false):=propext ⟨λh=>⟨h true,h false⟩,λh b=>by
 cases b <;>grind⟩
@[go_sem] theorem ai_ {d:Nat}:Oy id (some d) ⟨t,h⟩ K (some (Mz pre r m))=(pre/\K ⟨(d,.b true)::t,cL h id (.ab (r m))⟩/\K ⟨(d,.b false)::t,cL h id (.ab (r 0))⟩):=by
 show(pre/\∀ b:Bool,True->K ⟨(d,.b b)::t,cL h id (.ab (r (if b then m else 0)))⟩)=_;grind
@[go_sem] theorem aja {d:Nat}:LX id ops g (some d) ⟨t,h⟩ K (some (Mz pre r m))=((dU ops t ops.length g->pre/\K ⟨(d,.gd g.1 g.2 (.b true))::t,cL h id (.ab (r m))⟩/\K ⟨(d,.gd g.1 g.2 (.b false))::t,cL h id (.ab (r 0))⟩)/\(gq ops t ops.length g->K ⟨(d,.gd g.1 g.2 .any)::t,h⟩)):=by
 show((dU ops t ops.length g->pre/\∀ b:Bool,True->K ⟨(d,.gd g.1 g.2 (.b b))::t,cL h id (.ab (r (if b then m else 0)))⟩)/\(gq ops t ops.length g->K ⟨(d,.gd g.1 g.2 .any)::t,h⟩))=_;grind
end
def Yu (own:Own)(n:Nat):List Nat:=(List.range n).flatMap λid=>match own id with|some hd=>hd.bs|none=>[]
theorem Fd {own:Own}{n:Nat}(hd:∀ id hd,own id=some hd->id<n)(b:Nat):b∈Yu own n↔∃ id hd,own id=some hd/\b∈hd.bs:=by
 grind [Yu]
section
variable {P:Program}{w0:Bs}{ts:Tis}{G:Cons}{L:wc}{N:Nat}
def Fw (F:Nat->Prop)(l:Nat)(w:World)(b:Nat):Prop:=(F b/\b<w.heap.size)\/b=l
structure aqa where
 l:Nat
 fn:FuncId
 tmps:Array Value
 ps:Array Tmp
 assign:Code
 body:Code
 D:Nat
def aqa.obj (x:aqa)(s:LoopState)(p:Option Code):Obj:=.loop { state:=s,pending:=p,fn:=x.fn,tmps:=x.tmps,params:=x.ps,assign:=x.assign,body:=x.body,defers:=x.D}
structure Pack (x:aqa)(T:List (Nat×SV))(dF:Own)(n0:Nat)(H:List Ob)(o:Obj)(ee:Own)(F:Nat->Prop)(bs:List Nat)(w:World):Prop where
 hp:Hp (Fw F x.l w) ee w H
 slots:∀ t,Rel (Fw F x.l w) ee w (lk t T) (x.tmps.getD t undef)
 bs:∀ b,b∈bs↔b=x.l\/∃ id hd,ee id=some hd/\b∈hd.bs
 ids:∀ id hd,dF id=some hd->∃ hd',ee id=some hd'/\hd.like hd'
 nl:¬F x.l
 rcd:w.heap[x.l]? =some o
 le:n0<=H.length
variable {x:aqa}{n0:Nat}
theorem Pack.loc{T:List (Nat×SV)}{dF:Own}{H:List Ob}{o:Obj}{ee:Own}{F F':Nat->Prop}{bs:List Nat}{w w':World}(h:Pack x T dF n0 H o ee F bs w)(W:w.heap.size<=w'.heap.size)
  (Y:∀ b,b<w.heap.size->¬F b->w'.heap[b]? =w.heap[b]?) (hF:∀ b,b<w.heap.size->F' b->F b):Pack x T dF n0 H o ee F' bs w':=by
 have hl:=rL h.rcd;have hc:aoZ (Fw F x.l w) ee w (Fw F' x.l w') ee w':=⟨λ_ hd e=>⟨hd,e,.refl _⟩,λb O hn=>⟨λho=>hn (ho.imp (λq=>q.imp (λ⟨q1,_⟩ =>⟨hF b O q1,O⟩) (λe=>e)) (λe=>e)),Y b O λX=>hn (.inl (.inl ⟨X,O⟩))⟩⟩;have hob:∀ id hd b,ee id=some hd->b∈hd.bs->w'.heap[b]? =w.heap[b]?:=λid hd b e E=>Y b (h.hp.lt id hd b e E) λX=>h.hp.apart id hd b e E (.inl ⟨X,h.hp.lt id hd b e E⟩);refine⟨⟨h.hp.dom,λb V=>?_,λid hd b e E V=>?_,h.hp.inj,λid hd b e E=>ale (h.hp.lt id hd b e E) W,λid hdd=>?_⟩,λt=>(h.slots t).carry hc,h.bs,h.ids,λX=>h.nl (hF _ hl X),by rw[Y _ hl h.nl];exact h.rcd,h.le⟩;rcases V with⟨_,q⟩ |rfl <;>grind;have hlt:=h.hp.lt id hd b e E;rcases V with⟨q,_⟩ |q;exact h.hp.apart id hd b e E (.inl ⟨hF b hlt q,hlt⟩);exact h.hp.apart id hd b e E (.inr q);obtain⟨hd,e1,e2⟩:=h.hp.obs id hdd;exact⟨hd,e1,e2.carry hc W λb E=>hob id hd b e1 E⟩
def psT:List Nat->List SV->List (Nat×SV)
 |p::ps,s::r=>(p,s)::psT ps r|_,_=>[]
def itQ {σ:Type}(T:List (Nat×SV))(Hx:σ->List Ob)(I:Nat->σ->Prop)(S:Ex->σ->Prop)(n0 k:Nat):Ex->St->Prop
 | .normal,st=>∃ y js,I (k+1) y/\n0<=(Hx y).length/\Sub js n0 ⟨T,st.h⟩ ⟨T,Hx y⟩| .exit j,st=>∃ y js,S (.exit j) y/\n0<=(Hx y).length/\Sub js n0 ⟨T,st.h⟩ ⟨T,Hx y⟩| .ret,st=>∃ y js,S .ret y/\n0<=(Hx y).length/\Sub js n0 ⟨T,st.h⟩ ⟨T,Hx y⟩| .pan _,_=>False
def Pj:Ex->Option Code
 | .exit j=>some (.exit j)| .ret=>some .ret|_=>none
def itR {σ:Type}(x:aqa)(T:List (Nat×SV))(dF:Own)(n0:Nat)(Hx:σ->List Ob)(I:Nat->σ->Prop)(S:Ex->σ->Prop):Nat->Res
 |0=>{ yv:=.func (.yield x.l) #[] #[],n:=0,R:=λF bs w=>∃ e y ee,S e y/\(Pj e).isSome=true/\Pack x T dF n0 (Hx y) (x.obj .done (Pj e)) ee F bs w,loc:=λF F' bs w w' ⟨e,y,ee,h0,h1,h2⟩ hsz hb hF=>⟨e,y,ee,h0,h1,h2.loc hsz hb hF⟩}
 |k+1=>{ yv:=.func (.yield x.l) #[] #[],n:=k+1,R:=λF bs w=>∃ y ee,I k y/\Pack x T dF n0 (Hx y) (x.obj .ready none) ee F bs w,loc:=λF F' bs w w' ⟨y,ee,h0,h2⟩ hsz hb hF=>⟨y,ee,h0,h2.loc hsz hb hF⟩}
def aaa{σ:Type}{T:List (Nat×SV)}{dF:Own}{E:σ->List Ob}{I:Nat->σ->Prop}{S:Ex->σ->Prop}:∀ k,(itR x T dF n0 E I S k).n=k/\(itR x T dF n0 E I S k).yv=.func (.yield x.l) #[] #[]
 |0=>⟨rfl,rfl⟩|_+1=>⟨rfl,rfl⟩
theorem UW:∀ (O:List Nat) (args:List SV) (T:List (Nat×SV)) (tmps:Array Value) (vs:List Value) (t:Nat) {F:Nat->Prop} {own:Own} {w:World},O.Nodup->(∀ p∈O,p<tmps.size)->args.length=O.length->vs.length=O.length->
  (∀ (j:Nat) (s:SV) (v:Value),args[j]? =some s->vs[j]? =some v->Rel F own w s v)->Rel F own w (lk t T) (tmps.getD t undef)->Rel F own w (lk t (psT O args++T)) (((O.zip vs).foldl (λtmps (t,a) =>tmps.setIfInBounds t a) tmps).getD t undef)
 | [],args,T,tmps,vs,t,_,_,_,_,_,X,_,_,hT=>by
  cases args with
  |nil=>exact hT|cons=>simp at X
 |p::O,[],T,tmps,vs,t,_,_,_,_,_,X,_,_,_=>by simp at X
 |p::O,s::args,T,tmps,[],t,_,_,_,_,_,_,hv,_,_=>by simp at hv
 |p::O,s::args,T,tmps,v::vs,t,F,own,w,hn,hp,X,hv,hr,hT=>by
  rw[alH]at hn;have W:∀ (l:List (Nat×Value)) (tm:Array Value),(∀ x∈l,x.1≠p)->(l.foldl (λtmps (t,a) =>tmps.setIfInBounds t a) tm).getD p undef=tm.getD p undef:=by
   intro l;induction l with
   |nil=>grind
   |cons y r ih=>
    simp_all <;>grind
  have hlkp:∀ (V:List Nat) (E:List SV),p ∉ V->lk p (psT V E++T)=lk p T:=by
   intro V;induction V with
   |nil=>intro E _;rfl
   |cons q r ih=>
    intro E Y;cases E with
    |nil=>rfl
    |cons a E=>
     simp only[ala,not_or]at Y;simp only[psT,alr];rw[px,if_neg (λe=>Y.1 e.symm)];grind
  simp only[List.zip_cons_cons,anW,psT,alr];rw[px];by_cases ht:p=t
  subst ht;rw[if_pos rfl,W _ _ λx hx=>by
   have:=List.of_mem_zip hx;grind]
  simp only[alw,anj];simp only[if_true];rw[if_pos (hp p (by simp))];exact hr 0 s v rfl rfl;rw[if_neg ht];refine UW O args T (tmps.setIfInBounds p v) vs t hn.2 (λq Y=>by grind) (by grind) (by grind) (λj s v h1 h2=>hr (j+1) s v (by grind) (by grind)) ?_;simp_all
theorem SD (l:List (Nat×Value)):∀ (E:Array Value),(l.foldl (λtmps (t,a) =>tmps.setIfInBounds t a) E).size=E.size:=by
 induction l <;>grind
theorem abZ(X:P.follows .mixedOrders=true)(hts:ts.ok P)(hG:aot P G){σ:Type}{T:List (Nat×SV)}{dF:Own}{Hx:σ->List Ob}{I:Nat->σ->Prop}{S:Ex->σ->Prop}{items:List (List SV)}
  (hsz:x.tmps.size=N) (hn0:∀ id hd,dF id=some hd->id<n0) (hpn:x.ps.toList.Nodup) (hpN:∀ p∈x.ps.toList,p<N) (hca:c7 N x.assign=true) (hcb:c7 N x.body=true)
  (aqi:∀ k y args,items[k]? =some args->I k y->args.length=x.ps.size/\∃ L Qx,(∀ l,ak P (some l) N L x.assign)/\(∀ l,ak P (some l) N L x.body)/\(∀ e st,Qx e st->itQ T Hx I S n0 k e st)/\exec ts G L x.assign ⟨psT x.ps.toList args++T,Hx y⟩ (λe st1=>e=.normal/\exec ts G L x.body st1 Qx)):
  YOk P (itY items (itR x T dF n0 Hx I S)):=by
 intro args rr c hc hpre F bs w vs hR hF hbs hvs;simp only[itY,ak3]at hc;subst hc;obtain⟨h1,h2,h3⟩:=hpre;generalize hk:rr.n=kk at h1 h2 h3;obtain⟨k,rfl⟩:∃ k,kk=k+1:=⟨kk - 1,by omega⟩;simp only[ans]at h3;subst h1;obtain⟨y,ee,hI,pk⟩:=hR;obtain⟨hal,L,Qx,hla,hlb,hQx,hex⟩:=aqi k y args h3 hI;have hvl:vs.size=x.ps.size:=by rw[hvs.1];exact hal
 have hl:=rL pk.rcd;right;have hpfs:∀ b,Fw F x.l w b->b<w.heap.size:=λb hb=>pk.hp.aoB b hb;refine⟨x.l,x.fn,(x.ps.zip vs).foldl (λtmps (t,a) =>tmps.setIfInBounds t a) x.tmps,x.assign,x.body,?_,roundIn_of_wpIn trivial ?_⟩;show(So (.func (.yield x.l) #[] #[]) vs).run P w=_;have hy:=run_yield (P:=P) (w:=w) (l:=x.l) (args:=vs) pk.rcd hvl;grind [So,Deferred.ofValue,invoke]
 ·
  generalize htm:(x.ps.zip vs).foldl (λtmps (t,a) =>tmps.setIfInBounds t a) x.tmps=tmps';have hFw:∀ b,F b->Fw F x.l w b:=λb hb=>.inl ⟨hb,hF b hb⟩;have hargs:aoX (Fw F x.l w) ee w args vs:=⟨hvs.1,λj s hj=>(hvs.2 j s hj).aoQ (py (hvs.2 j s hj)) λb hb ho=>hb (by
   left;rcases ho with(⟨q,_⟩ |q) | ⟨id,hd,e,X⟩;exact .inl q;exact .inr ((pk.bs b).2 (.inl q));exact .inr ((pk.bs b).2 (.inr ⟨id,hd,e,X⟩)))⟩
  have hstart:aos (Fw F x.l w) { w:=w,own:=ee} N ee ⟨psT x.ps.toList args++T,Hx y⟩ { tmps:=tmps',defers:=[]} w:=by
   refine⟨?_,Dfr.nil,pk.hp,Fr.refl { w:=w,own:=ee},λt=>?_⟩;rw[<-htm,<-aoa,SD];exact hsz;rw[<-htm,<-aoa,Array.toList_zip];refine UW x.ps.toList args T x.tmps vs.toList t hpn (λp hp=>by grind) (by omega) (by omega) (λj s v h1 h2=>?_) (pk.slots t);have:=hargs.2 j s h1;simp_all
  refine wpIn_mono (rO (ro:=some x.l) (nd:=0) X hts hG x.assign hca (hla x.l) _ _ _ hex ee _ w hstart) ?_;intro e a1 w1 hq;cases e with
  |normal=>
   obtain⟨F1,own1,st1,hF1,O,_,hex1⟩:=hq;have hl1:F1 x.l:=hF1 _ (.inr rfl);have hno1:∀ id hd,ee id=some hd->x.l ∉ hd.bs:=λid hd e X=>pk.hp.apart id hd _ e X (.inr rfl);have hrec1:w1.heap[x.l]? =some (x.obj .ready none):=by
    rw[O.fr.block x.l ⟨hl,λ⟨id,hd,e,X⟩ =>hno1 id hd e X⟩];exact pk.rcd
   refine⟨w1.putObj x.l (x.obj .busy none),run_beginRound hrec1 rfl,?_⟩;have g1:ao_ F1 own1 w1 own1 (w1.putObj x.l (x.obj .busy none)):=⟨λ_ hd e=>⟨hd,e,.refl _⟩,λb _ hn=>⟨hn,World.putObj_heap_other λe=>hn (.inl (e▸hl1))⟩,by simp⟩;have hst2:aos F1 { w:=w.putObj x.l (x.obj .busy none),own:=ee} N own1 st1 a1 (w1.putObj x.l (x.obj .busy none)):=by
    refine⟨O.size,?_,O.hp.apg g1 λid hd b e X=>World.putObj_heap_other λe'=>O.hp.apart id hd b e X (e'▸hl1),⟨O.fr.ids,λid hd b e X ho=>O.fr.base id hd b e X ⟨by have:=ho.1;simp_all,ho.2⟩,O.fr.os,O.fr.tape,O.fr.output,by simpa using O.fr.size,λb hb=>?_⟩,λt=>(O.slots t).mono g1⟩;obtain⟨ms,Ds,q0,q1,q2,q3⟩:=O.defers;refine⟨ms,Ds,q0,q1,q2,λD hD=>⟨by simp_all,(q3 D hD).2.1,?_⟩⟩;grind [World.putObj_heap_other]
    by_cases e:b=x.l
    grind [World.putObj_heap_same]
    rw[World.putObj_heap_other e,World.putObj_heap_other e];exact O.fr.block b ⟨by have:=hb.1;simp_all,hb.2⟩
   refine wpIn_mono (rO (ro:=some x.l) (nd:=0) X hts hG x.body hcb (hlb x.l) _ _ _ hex1 own1 _ _ hst2) ?_;intro e a2 w2 hq
   replace hq:=uH hQx _ _ _ hq
   have key:∀ (F2:Nat->Prop) (X2:Own) (st2:St) (y2:σ) (js:List Nat) (b:Bool) (V:Option Code),(∀ c,F1 c->F2 c)->aos F2 { w:=w.putObj x.l (x.obj .busy none),own:=ee} N X2 st2 a2 w2->n0<=(Hx y2).length->Sub js n0 ⟨T,st2.h⟩ ⟨T,Hx y2⟩->b=V.isNone->
     (∀ E bs' w3,Pack x T dF n0 (Hx y2) (x.obj (if V.isNone then .ready else .done) V) E F bs' w3->(itR x T dF n0 Hx I S (if b then k+1+1 else 0)).R F bs' w3)->
     ∃ v w3,(Instr.endRound x.l V).run P w2=.ok v w3/\∃ a bs',True/\(Ending.returned v)=.returned (.bool ((a,itR x T dF n0 Hx I S (if a then k+1+1 else 0)):Bool×Res).1)/\(itR x T dF n0 Hx I S (if a then k+1+1 else 0)).R F bs' w3/\(itR x T dF n0 Hx I S (if a then k+1+1 else 0)).yv=.func (.yield x.l) #[] #[]/\YFr bs bs' w w3:=by
    intro F2 X2 st2 y2 js b V hF2 W hle Y hb hR3;subst hb;have hl2:F2 x.l:=hF2 _ hl1;have hrec2:w2.heap[x.l]? =some (x.obj .busy none):=by
     rw[W.fr.block x.l ⟨by simpa using hl,λ⟨id,hd,e,X⟩ =>hno1 id hd e X⟩];exact World.putObj_heap_same hl
    have hsz2:w.heap.size<=w2.heap.size:=by have:=W.fr.size;simp_all
    have hl2s:=ale hl hsz2;obtain⟨q1,q2,q3,q4⟩:=Pd Y W.hp hle;let E:=iQ js (Hx y2) X2
    let w3:=w2.putObj x.l (x.obj (if V.isNone then .ready else .done) V)
    have hF2w:∀ c,Fw F x.l w3 c->F2 c:=λc hc=>by
     rcases hc with⟨hc,_⟩ |rfl <;>grind
    have hoth:∀ c,c≠x.l->w3.heap[c]? =w2.heap[c]?:=λc hc=>World.putObj_heap_other hc;have hcar:aoZ F2 E w2 (Fw F x.l w3) E w3:=⟨λ_ hd e=>⟨hd,e,.refl _⟩,λc hcl hn=>⟨λho=>hn (ho.imp (hF2w c) (λe=>e)),hoth c λe=>hn (.inl (e▸hl2))⟩⟩;have hblk:∀ c,c<w.heap.size->c≠x.l->(¬ ∃ id hd,ee id=some hd/\c∈hd.bs)->w2.heap[c]? =w.heap[c]?:=λc h1 h2 h3=>by
     rw[W.fr.block c ⟨by simpa using h1,h3⟩];exact World.putObj_heap_other h2
    have hown2:∀ id hd c,X2 id=some hd->c∈hd.bs->(∃ id hd,ee id=some hd/\c∈hd.bs)\/w.heap.size<=c:=λid hd c e X=>by
     have:=W.fr.base id hd c e X;by_cases hc:c<w.heap.size
     exact .inl (alD λhn=>this ⟨by simpa using hc,hn⟩);omega
    have gall:ao_ (Fw F x.l w) ee w X2 w2:=⟨W.fr.ids,λc hcl hn=>by
     have h2:c≠x.l:=λe=>hn (.inl (.inr e));have h3:¬ ∃ id hd,ee id=some hd/\c∈hd.bs:=λh=>hn (.inr h);refine⟨?_,hblk c hcl h2 h3⟩;rintro (hf| ⟨id,hd,e,X⟩);exact hn (.inl hf);grind,hsz2⟩
    have hcar2:aoZ (Fw F x.l w) E w2 (Fw F x.l w3) E w3:=⟨λ_ hd e=>⟨hd,e,.refl _⟩,λc hcl hn=>⟨λho=>hn (ho.imp (λhc=>by
     rcases hc with⟨hc,_⟩ |rfl;grind
     exact .inr rfl) (λe=>e)),hoth c λe=>hn (.inl (.inr e))⟩⟩
    have hpk:Pack x T dF n0 (Hx y2) (x.obj (if V.isNone then .ready else .done) V) E F (x.l::Yu E (Hx y2).length) w3:=by
     refine⟨⟨q1.dom,λc hc=>?_,λid hd c e X hc=>q1.apart id hd c e X (hF2w c hc),q1.inj,λid hd c e X=>by have:=q1.lt id hd c e X;simpa[w3]using this,λid hdd=>?_⟩,λt=>?_,λc=>?_,λid hd e=>?_,pk.nl,World.putObj_heap_same hl2s,hle⟩;rcases hc with⟨_,hc⟩ |rfl;exact hc;simpa[w3]using hl2s;obtain⟨hd,e1,e2⟩:=q1.obs id hdd;exact⟨hd,e1,e2.carry hcar (by simp[w3]) λc X=>hoth c λe=>q1.apart id hd c e1 X (e▸hl2)⟩;rcases DV t _ Y.2.1 with e| ⟨e1,e2⟩;rw[e];exact .any _;have h1:=(pk.slots t).mono gall;have h1':Rel (Fw F x.l w) X2 w2 (ren (Ev js) 5 (lk t T)) (x.tmps.getD t undef):=e1▸h1;exact(q3 (Fw F x.l w) 5 _ _ e2 h1').carry hcar2;rw[ala,Fd q1.dom];obtain⟨hd1,e1,l1⟩:=pk.ids id hd e;obtain⟨hd2,e2,l2⟩:=W.fr.ids id hd1 e1;obtain⟨hd3,e3,l3⟩:=q4 id hd2 (hn0 id hd e) e2;exact⟨hd3,e3,(l1.trans l2).trans l3⟩
    refine⟨_,w3,run_endRound V hrec2,V.isNone,_,trivial,rfl,hR3 _ _ _ hpk,(aaa _).2,W.fr.os,W.fr.tape,W.fr.output,by simpa[w3]using hsz2,λc hc hn=>?_,λc hc=>?_⟩;have h2:c≠x.l:=λe=>hn ((pk.bs c).2 (.inl e));rw[hoth c h2];exact hblk c hc h2 λh=>hn ((pk.bs c).2 (.inr h));rcases ala.1 hc with rfl|hc;exact⟨by simpa[w3]using hl2s,.inl ((pk.bs _).2 (.inl rfl))⟩;obtain⟨id,hd,e,X⟩:=(Fd q1.dom c).1 hc;refine⟨by have:=q1.lt id hd c e X;simpa[w3]using this,?_⟩;obtain⟨_,j,hd0,_,e2,_,e4⟩:=jr e;obtain⟨_,rfl⟩:=e4 c X;rcases hown2 j hd c e2 X with h|h;exact .inl ((pk.bs c).2 (.inr h));omega
   cases e with
   |normal=>
    obtain⟨F2,X2,st2,h0,W,y2,js,hI2,hle,Y⟩:=hq;exact key F2 X2 st2 y2 js true none h0 W hle Y rfl λE bs' w3 hp=>⟨y2,E,hI2,hp⟩
   |ret=>
    obtain⟨F2,X2,st2,h0,W,y2,js,hS2,hle,Y⟩:=hq;exact key F2 X2 st2 y2 js false (some .ret) h0 W hle Y rfl λE bs' w3 hp=>⟨.ret,y2,E,hS2,rfl,hp⟩
   |exit j=>
    obtain⟨F2,X2,st2,h0,W,y2,js,hS2,hle,Y⟩:=hq;exact key F2 X2 st2 y2 js false (some (.exit j)) h0 W hle Y rfl λE bs' w3 hp=>⟨.exit j,y2,E,hS2,rfl,hp⟩
   |panic ch=>obtain⟨x',F2,X2,st2,_,_,h,_⟩:=hq;exact h.elim
   |_=>exact hq.elim
  |exit j=>obtain⟨F1,own1,st1,_,_,h,_⟩:=hq;cases h
  |ret=>obtain⟨F1,own1,st1,_,_,h,_⟩:=hq;cases h
  |panic ch=>obtain⟨x',F1,own1,st1,_,_,⟨h,_⟩,_⟩:=hq;cases h
  |_=>exact hq.elim
end
end Go.Sx
end
