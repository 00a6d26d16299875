/- Part of the proof that the law RefuseLeast returns true and leaves its arguments as they were, for all arguments of bulk at most 1048576 (the Upto form). -/
import Derived.Test.YtaikmgjfkejlkaaGreatS105
import Derived.Sort.LoopGhostIn
import Derived.RangeFuncLeaves
import Derived.RangeFuncRecord
import Derived.Test.YtaikmgjfkejlkaaGreatS101
import Derived.Attr
import Derived.RangeFuncIn
import Derived.TacticsIn
set_option linter.all false
set_option maxHeartbeats 4000000
set_option maxRecDepth 100000
section
namespace Go.Sx
open Go.RowKit
section
variable {P:Program}{F:Nat->Prop}{own A1:Own}{w:World}{w0:Bs}{ro:Option Nat}{nd:Nat}{ts:Tis}{G:Cons}{L:vZ}{N:Nat}
structure Un (m:Nat->Option Nat)(n:Nat)(own A1:Own):Prop where
 ids:∀ k,k<n->∀ hd,(m k).bind own=some hd->∃ hd',A1 k=some hd'/\hd.like hd'
theorem ZV {m:Nat->Option Nat}{n:Nat}(hm:Un m n own A1)(hk:∀ k,k<n->(m k).isSome=true)(ho:∀ b,¬cH F own b->¬cH F A1 b):∀ (f:Nat) (s:SV) (v:Value),mF f n s=true->Rel F own w (ren m f s) v->Rel F A1 w s v:=by
 have base:∀ (f:Nat) (s:SV) (v:Value),mF f n s=true->Rel F own w (ren m f s) v->(∀ l o,s≠ .ep l o)->(∀ z l,s≠ .ls z l)->(∀ l,s≠ .agg l)->(∀ l,s≠ .tup l)->(∀ f l l2,s≠ .fn f l l2)->Rel F A1 w s v:=by
  intro f s v hi U n1 n2 n3 n4 n5;have hlt:∀ {id},Nat.blt id n=true->∃ j,m id=some j/\id<n:=λ{id} h=>by
   have V:id<n:=Y2 h;have:=hk id V;cases hm':m id <;>grind
  cases s with
  |any=>exact .any _|v x=>cases f <;>(have E:Rel F own w (.v x) v:=U) <;>rw[cG E] <;>exact .v _|e0=>cases f <;>(have E:Rel F own w .e0 v:=U) <;>cases E <;>exact .e0|rs k l=>cases f <;>(have E:Rel F own w (.rs k l) v:=U) <;>exact E.aph (.rs) ho|rc k l=>cases f <;>(have E:Rel F own w (.rc k l) v:=U) <;>exact E.aph (.rc) ho|rm k k2 l=>cases f <;>(have E:Rel F own w (.rm k k2 l) v:=U) <;>exact E.aph (.rm) ho
  |ptr id off=>
   have X:Nat.blt id n=true:=by cases f <;>exact hi
   obtain⟨j,e,V⟩:=hlt X;have E:Rel F own w (.ptr j off) v:=by grind [ren,zR]
   cases E with
   |ptr h1 h2=>
    obtain⟨hd',Y,W⟩:=hm.ids id V _ (by rw[e];exact h1);exact .ptr Y (by rw[W.1];exact h2)
  |os id=>
   have X:Nat.blt id n=true:=by cases f <;>exact hi
   obtain⟨j,e,V⟩:=hlt X;have E:Rel F own w (.os j) v:=by grind [ren,zR]
   cases E with
   |os h1 h2=>
    obtain⟨hd',Y,W⟩:=hm.ids id V _ (by rw[e];exact h1);rw[<-W.2.1];exact .os Y (by rw[W.2.1];exact h2)
  |rp sz id i off=>
   have X:Nat.blt id n=true:=by cases f <;>exact hi
   obtain⟨j,e,V⟩:=hlt X;have E:Rel F own w (.rp sz j i off) v:=by grind [ren,zR]
   cases E with
   |rp h1 h2 h3=>
    obtain⟨hd',Y,W⟩:=hm.ids id V _ (by rw[e];exact h1);exact .rp Y (by rw[W.2.1];exact h2) h3
  |vw sz id lo hh=>
   have X:Nat.blt id n=true:=by cases f <;>exact hi
   obtain⟨j,e,V⟩:=hlt X;have E:Rel F own w (.vw sz j lo hh) v:=by grind [ren,zR]
   cases E with
   |vw h1 h2 h3=>
    obtain⟨hd',Y,W⟩:=hm.ids id V _ (by rw[e];exact h1);exact .vw Y (by rw[W.2.1];exact h2) h3
  |gr id i=>
   have X:Nat.blt id n=true:=by cases f <;>exact hi
   obtain⟨j,e,V⟩:=hlt X;have E:Rel F own w (.gr j i) v:=by grind [ren,zR]
   cases E with
   |gr h1 h2 h3=>
    obtain⟨hd',Y,W⟩:=hm.ids id V _ (by rw[e];exact h1);exact .gr Y (by rw[W.2.2];exact h2) h3
  |gp sz id i i2 off=>
   have X:Nat.blt id n=true:=by cases f <;>exact hi
   obtain⟨j,e,V⟩:=hlt X;have E:Rel F own w (.gp sz j i i2 off) v:=by grind [ren,zR]
   cases E with
   |gp h1 h2 h3=>
    obtain⟨hd',Y,W⟩:=hm.ids id V _ (by rw[e];exact h1);exact .gp Y (by rw[W.2.2];exact h2) h3
  |ep l o=>grind|ls z l=>grind|agg l=>grind|tup l=>grind|fn f l l2=>grind|_=>cases f <;>simp[mF]at hi
 intro f;induction f with
 |zero=>
  intro s v hi U;refine base 0 s v hi U ?_ ?_ ?_ ?_ ?_ <;>intros <;>(intro e;subst e;simp[mF]at hi)
 |succ f ih=>
  intro s v hi U;cases s with
  |ep l o=>
   simp only[mF,amc]at hi;simp only[ren]at U;cases U with
   |ep c h1 h2=>
    have hg:∀ (j:Nat) (s:SV),l[j]? =some s->(l.map (ren m f))[j]? =some (ren m f s):=λj s O=>by simp[O]
    exact .ep c (λj s O=>⟨ho _ (h1 j _ (hg j s O)).1,(h1 j _ (hg j s O)).2⟩) λj s O=>ih s _ (hi s (alU O)) (h2 j _ (hg j s O))
  |ls z l=>
   simp only[mF,amc]at hi;simp only[ren]at U;generalize hq:l.map (ren m f)=l' at U;cases U with
   |ls c hz h0 h1 h2=>
    subst hq;have hg:∀ (j:Nat) (s:SV),l[j]? =some s->(l.map (ren m f))[j]? =some (ren m f s):=λj s O=>by simp[O]
    rw[amM]at hz;exact .ls c hz h0 (λj s O=>⟨ho _ (h1 j _ (hg j s O)).1,(h1 j _ (hg j s O)).2⟩) λj s O=>ih s _ (hi s (alU O)) (h2 j _ (hg j s O))
  |agg l=>
   simp only[mF,amc]at hi;simp only[ren]at U;cases U with
   |agg h0 h1=>exact .agg (by grind) λj s O=>ih s _ (hi s (alU O)) (h1 j _ (by simp[O]))
  |tup l=>
   simp only[mF,amc]at hi;simp only[ren]at U;cases U with
   |tup h0 h1=>exact .tup (by grind) λj s O=>ih s _ (hi s (alU O)) (h1 j _ (by simp[O]))
  |fn g l l2=>
   simp only[mF,alG,amc]at hi;simp only[ren]at U;cases U with
   |fn h0 h0' h1 h2=>exact .fn (by grind) (by grind) (λj s O=>ih s _ (hi.1 s (alU O)) (h1 j _ (by simp[O]))) λj s O=>ih s _ (hi.2 s (alU O)) (h2 j _ (by simp[O]))
  |_=>refine base (f+1) _ v hi U ?_ ?_ ?_ ?_ ?_ <;>intros <;>(intro e;cases e)
theorem QP:∀ a l:List SV,(wkL a l).length=l.length
 | [],[] =>rfl| [],_::_=>rfl|_::_,[] =>rfl
 |_::r,_::s=>by simp[wkL,QP r s]
theorem QQ:∀ (a l:List SV) (j:Nat) (s:SV),(wkL a l)[j]? =some s->s=.any\/l[j]? =some s
 | [],l,j,s,h=>.inr (by cases l <;>exact h)
 |_::_,[],j,s,h=>.inr h
 |a::r,x::l,0,s,h=>by
  grind [wkL]
 |a::r,x::l,j+1,s,h=>by
  have h:(wkL r l)[j]? =some s:=by grind [wkL]
  rcases QQ r l j s h with h|h <;>grind
theorem Ms:∀ l:List SV,wkL l l=l
 | [] =>rfl
 |x::l=>by
  have:(bif Qw x then SV.any else x)=x:=by cases x <;>rfl
  simp[wkL,this,Ms l]
attribute [go_sem] Ms
theorem SA (a o:Ob):dx (En a o)=dx o:=by
 unfold En;split <;>rfl
theorem UG (a:Ob){hd:Hd}{o:Ob}(h:apF F own w hd o):apF F own w hd (En a o):=by
 unfold En;split
 rename_i kk X l p;obtain⟨b,es,O,h1,h2,V,E,W,U⟩:=h;match p,E,U with
 |none,E,U=>exact⟨b,es,O,h1,h2,V,E,W,U⟩|some (i,none),E,U=>exact⟨b,es,O,h1,h2,V,E,W,trivial⟩|some (i,some x),E,U=>exact⟨b,es,O,h1,h2,V,E,W,U⟩
 rename_i a l;obtain⟨b,cs,ty,h1,h2,V,E,W⟩:=h;exact⟨b,cs,ty,h1,h2,V,by grind [QP],λj s hj=>by
  rcases QQ a l j s hj with rfl|hj;exact .any _;grind⟩
 exact h
theorem abe {m:Nat->Option Nat}{n:Nat}(hm:Un m n own A1)(hk:∀ k,k<n->(m k).isSome=true)(ho:∀ b,¬cH F own b->¬cH F A1 b){hd:Hd}{o:Ob}(hi:v7 n o=true)(h:apF F own w hd (va m o)):apF F A1 w hd o:=by
 cases o with
 |cells l=>
  simp only[v7,amc]at hi;obtain⟨b,cs,ty,h1,h2,O,W,V⟩:=h;exact⟨b,cs,ty,h1,h2,O,by grind,λj s hj=>ZV hm hk ho 3 s _ (hi s (alU hj)) (V j _ (by simp[hj]))⟩
 |dead=>trivial|row k l=>exact apm.aph h (.inl ho)|fz k l=>exact Rel.aph h .rs ho
 |mp kk vk l ap1=>
  have key:∀ q,apF F own w hd (.mp kk vk l q)->(∃ b es E,hd.v=.map (some b)/\hd.bs=[b]/\w.heap[b]? =some (.map es E)/\ap3 F A1 w kk vk (eu kk vk l q) es/\Stamped es E/\aqn own kk vk l es E q):=λq h=>by
   obtain⟨b,es,E,h1,h2,O,W,V,h6⟩:=h;exact⟨b,es,E,h1,h2,O,⟨W.1,λi x hi=>by
    obtain⟨e,Y,X,e3,e4⟩:=W.2 i x hi;exact⟨e,Y,X,e3.aph (ub _ _) ho,e4.aph (ub _ _) ho⟩⟩,V,h6⟩
  match ap1,hi,h with
  |none,_,h=>obtain⟨b,es,E,h1,h2,O,W,V,h6⟩:=key _ h;exact⟨b,es,E,h1,h2,O,W,V,trivial⟩
  |some (i,q),hi,h=>
   have hlt:i<n:=by grind [v7,Nat.blt_eq]
   have hs:=hk i hlt;change apF F own w hd (Oo kk vk l q (m i))at h;cases U:m i with
   |none=>grind
   |some j=>
    rw[U]at h;change apF F own w hd (Oo kk vk l q (some j))at h;have h':apF F own w hd (.mp kk vk l (some (j,q))):=by cases q <;>exact h
    obtain⟨b,es,E,h1,h2,O,W,V,h6⟩:=key _ h';cases q with
    |none=>
     obtain⟨hd2,t1,t2⟩:=h6;obtain⟨hd',Y,X⟩:=hm.ids i hlt hd2 (by grind);exact⟨b,es,E,h1,h2,O,W,V,hd',Y,X.2.2.trans t2⟩
    |some x=>
     obtain⟨hd2,e,t1,t2,t3⟩:=h6;obtain⟨hd',Y,X⟩:=hm.ids i hlt hd2 (by grind);exact⟨b,es,E,h1,h2,O,W,V,hd',e,Y,t2,X.2.1.trans t3⟩
 |apw k l=>
  rcases h with h| ⟨b,o,cap,cs,ty,bs,h1,h2,O,W,V,h6,h7,h8,h9⟩;exact .inl h;exact .inr ⟨b,o,cap,cs,ty,bs,h1,h2,O,W,V,h6,h7,h8,h9.aph (.inl ho)⟩
 |ab r=>
  refine⟨h.1,r.loc _ _ _ w w h.2 (alJ _) (λb hbl hn=>rfl) (λb hbl hn=>⟨amg λhc=>ho b hc hn.1,hn.2⟩)⟩
 |raw o=>exact h
 |mi mid n0 left cur=>
  obtain⟨b,h1,h2,O⟩:=h;refine⟨b,h1,h2,λi hj=>?_⟩;subst hj;simp only[v7]at hi;have hlt:i<n:=by simp_all
  have hs:=hk i hlt;cases U:m i with
  |none=>grind
  |some j=>
   obtain⟨hdm,bm,seen,c0,ss,k1,k2,k3,k4⟩:=O j (by simp[U]);obtain⟨hd',Y,X⟩:=hm.ids i hlt hdm (by grind);exact⟨hd',bm,seen,c0,ss,Y,X.2.1.trans k2,k3,k4⟩
 |fwd n0=>
  intro i hj;subst hj;simp only[v7]at hi;have hlt:i<n:=by simp_all
  have hs:=hk i hlt;cases U:m i with
  |none=>grind
  |some j=>
   obtain⟨hdm,k1,k2,k3⟩:=h j (by simp[U]);obtain⟨hd',Y,X⟩:=hm.ids i hlt hdm (by grind);exact⟨hd',Y,X.2.1.trans k2,k3⟩
theorem DP {m:Nat->Option Nat}{t:List (Nat×SV)}{n:Nat}(i:Nat):∀ t2,RY m n t t2->lk i t2=.any\/(lk i t=ren m 5 (lk i t2)/\mF 5 n (lk i t2)=true)
 | [],_=>.inl rfl
 |(j,s)::r,h=>by
  obtain⟨⟨h1,h2⟩,E⟩:=h;rw[px];by_cases O:j=i
  grind
  rw[if_neg O];exact DP i r E
theorem Mt {m:Nat->Option Nat}{n:Nat}{h:List Ob}:∀ (js:List Nat) (h2:List Ob),Hi m n h js h2->js.length=h2.length/\∀ (i j:Nat),js[i]? =some j->JN m n h j (ap h2 i)
 | [],[],_=>⟨rfl,λi j O=>by simp at O⟩
 | [],_::_,E=>E.elim|_::_,[],E=>E.elim
 |j::js,o::r,E=>by
  obtain⟨V,W⟩:=Mt js r E.2;refine⟨by simp[V],λi U O=>?_⟩;cases i with
  |zero=>simp at O;subst O;exact E.1
  |succ i=>exact W i U (by grind)
theorem wT:∀ (js:List Nat) (h:List Ob) (i j:Nat),js[i]? =some j->dx (ap h i)=false->j∈mm js h
 | [],h,i,j,hj,_=>by simp at hj
 |j0::js,[],i,j,_,hl=>by simp[ap,dx]at hl
 |j0::js,o::r,0,j,hj,hl=>by
  simp_all [ap,mm]
 |j0::js,o::r,i+1,j,hj,hl=>by
  have:=wT js r i j (by grind) (by grind [ap]);grind [mm]
theorem IH:∀ (js:List Nat) (h:List Ob) (i E j:Nat),uniq (mm js h)=true->js[i]? =some j->js[E]? =some j->dx (ap h i)=false->dx (ap h E)=false->i=E
 | [],h,i,E,j,_,hj,_,_,_=>by simp at hj
 |j0::js,[],i,E,j,_,_,_,hl,_=>by simp[ap,dx]at hl
 |j0::js,o::r,i,E,j,W,h1,h2,l1,V=>by
  have U:uniq (mm js r)=true:=by
   grind [mm,uniq]
  have O:dx o=false->j0 ∉ mm js r:=λhd=>by
   simp only[mm,hd,cond_false,uniq,alG]at W;grind [wS]
  cases i with
  |zero=>
   simp at h1;subst h1;cases E with
   |zero=>rfl
   |succ E=>exact absurd (wT js r E j0 (by simpa using h2) (by simpa[ap]using V)) (O (by simpa[ap]using l1))
  |succ i=>
   cases E with
   |zero=>simp at h2;subst h2;exact absurd (wT js r i j0 (by simpa using h1) (by simpa[ap]using l1)) (O (by simpa[ap]using V))
   |succ E=>rw[IH js r i E j U (by simpa using h1) (by simpa using h2) (by simpa[ap]using l1) (by simpa[ap]using V)]
theorem E1:∀ (js:List Nat) (i n:Nat),Bc i js n=true->∀ k j,js[k]? =some j->i+k<n->j=i+k
 | [],i,n,_,k,j,E,_=>by simp at E
 |j0::js,i,n,h,k,j,E,hlt=>by
  simp only[Bc,alG,ama]at h;cases k with
  |zero=>
   simp at E;simp_all <;>grind
  |succ k=>
   have:=E1 js (i+1) n h.2 k j (by grind) (by omega);omega
def iL (js:List Nat)(h2:List Ob)(own:Own):Own:=λk=>if k<h2.length then((js[k]?).bind own).map (λhd=>if dx (ap h2 k)then { hd with bs:=[]}else hd)else none
theorem ji {js:List Nat}{h2:List Ob}{k:Nat}{hd:Hd}(h:iL js h2 own k=some hd):k<h2.length/\∃ j hd0,js[k]? =some j/\own j=some hd0/\hd0.like hd/\(∀ b∈hd.bs,dx (ap h2 k)=false/\hd=hd0):=by
 unfold iL at h;split at h
 rename_i hlt;rw[amX]at h;obtain⟨hd0,h1,E⟩:=h;rw[aoo]at h1;obtain⟨j,U,O⟩:=h1;refine⟨hlt,j,hd0,U,O,?_,?_⟩;split at E <;>subst E <;>exact⟨rfl,rfl,rfl⟩
 grind
 cases h
theorem UH {js:List Nat}{h2:List Ob}{b:Nat}(E:¬cH F own b):¬cH F (iL js h2 own) b:=by
 rintro (V| ⟨k,hd,e,O⟩);exact E (.inl V);obtain⟨_,j,hd0,_,W,_,U⟩:=ji e;obtain⟨_,rfl⟩:=U b O;exact E (.inr ⟨j,hd,W,O⟩)
variable {n0:Nat}{st E:St}
theorem O8{js:List Nat}(hs:Sub js n0 st E)(hp:Hp F own w st.h)(hle:n0<=E.h.length):
  Hp F (iL js E.h own) w E.h/\(∀ F b,¬cH F own b->¬cH F (iL js E.h own) b)/\(∀ (F:Nat->Prop) (f:Nat) (s:SV) (v:Value),mF f E.h.length s=true->Rel F own w (ren (Eo js) f s) v->Rel F (iL js E.h own) w s v)/\∀ id hd,id<n0->own id=some hd->∃ hd',iL js E.h own id=some hd'/\hd.like hd':=by
 obtain⟨⟨hu,hk,hlt⟩,_,hh⟩:=hs;obtain⟨hlen,hob⟩:=Mt js E.h hh;have hjs:∀ k,k<E.h.length->(Eo js k).isSome=true:=λk hkl=>by
  show(nth js k).isSome=true;grind [gu]
 have hun:Un (Eo js) E.h.length own (iL js E.h own):=⟨λk hkl hd e=>by
  have e':(js[k]?).bind own=some hd:=by rw[<-gu];exact e
  refine⟨if dx (ap E.h k)then { hd with bs:=[]}else hd,?_,?_⟩;simp_all [iL];split <;>exact⟨rfl,rfl,rfl⟩⟩
 have O:∀ (F:Nat->Prop) b,¬cH F own b->¬cH F (iL js E.h own) b:=λF b V=>UH V;refine⟨⟨λid hd e=>(ji e).1,hp.ao1,λid hd b e V=>?_,λi j hi hj b e1 W hb1 X=>?_,λid hd b e V=>?_,λid U=>?_⟩,O,λF f s v=>ZV hun hjs (O F) f s v,λid hd hid e=>?_⟩;obtain⟨_,j,hd0,_,W,_,e4⟩:=ji e;obtain⟨_,rfl⟩:=e4 b V;exact hp.apart j hd b W V;obtain⟨_,j1,Y,p1,p2,_,p4⟩:=ji e1;obtain⟨_,j2,hd2,q1,q2,_,q4⟩:=ji W;obtain⟨l1,rfl⟩:=p4 b hb1;obtain⟨l2,rfl⟩:=q4 b X;have:=hp.inj j1 j2 hi hj b p2 q2 hb1 X;grind [IH]
 obtain⟨_,j,hd0,_,W,_,e4⟩:=ji e;obtain⟨_,rfl⟩:=e4 b V;exact hp.lt j hd b W V;have hidl:id<E.h.length:=by
  rcases amN id E.h.length with h|h;exact h;rw[mQ h]at U;cases U
 have hj:∃ j,js[id]? =some j:=⟨js[id]'(by omega),by simp⟩;obtain⟨j,hj⟩:=hj;have ho:=hob id j hj;unfold JN at ho;rw[U]at ho;simp only[cond_false]at ho;obtain⟨ho1,ho2⟩:=ho;have Y:dx (ap st.h j)=false:=by grind [SA,vo]
 obtain⟨hd,e1,W⟩:=hp.obs j Y;grind [UG,abe,iL]
 have hjid:js[id]? =some id:=by
  grind [E1]
 refine⟨if dx (ap E.h id)then { hd with bs:=[]}else hd,?_,?_⟩;unfold iL;grind;split <;>exact⟨rfl,rfl,rfl⟩
theorem Kf{js:List Nat}(hs:Sub js n0 st E)(hp:Hp F own w st.h)(O:Fr w0 own w)(hn:∀ id hd,w0.own id=some hd->id<n0)(W:n0<=E.h.length):
  Hp F (iL js E.h own) w E.h/\Fr w0 (iL js E.h own) w/\(∀ b,¬cH F own b->¬cH F (iL js E.h own) b)/\∀ (f:Nat) (s:SV) (v:Value),mF f E.h.length s=true->Rel F own w (ren (Eo js) f s) v->Rel F (iL js E.h own) w s v:=by
 obtain⟨q1,q2,q3,q4⟩:=O8 hs hp W;refine⟨q1,⟨λid hd e=>?_,λid hd b e Y=>?_,O.os,O.tape,O.output,O.size,O.block⟩,q2 F,q3 F⟩;obtain⟨X,e1,l1⟩:=O.ids id hd e;obtain⟨U,V,l2⟩:=q4 id X (hn id hd e) e1;exact⟨U,V,l1.trans l2⟩;obtain⟨_,j,hd0,_,V,_,e4⟩:=ji e;obtain⟨_,rfl⟩:=e4 b Y;exact O.base j hd b V Y
theorem W2.sub{a:Act}{w:World}(h:W2 F w0 N own st a w){js:List Nat}(U:Sub js n0 st E)(X:∀ id hd,w0.own id=some hd->id<n0)(O:n0<=E.h.length):W2 F w0 N (iL js E.h own) E a w:=by
 obtain⟨V,W,q3,q4⟩:=Kf U h.hp h.fr X O;refine⟨h.size,h.defers,V,W,λt=>?_⟩;rcases DP t _ U.2.1 with e| ⟨e1,Y⟩;rw[e];exact .any _;have:=h.slots t;grind
theorem II (hm:P.follows .mixedOrders=true)(hts:ts.ok P)(hG:X2 P G){id:Nat}{c:Code}(hc:cP N c=true){σ:Type}(D:σ->St)(I:σ->Prop)(m:σ->Nat)(n0:Nat)(hn:∀ id hd,w0.own id=some hd->id<n0)(Q:Ex->St->Prop)
  (W:∀ x,I x->∃ L Qx,ak P ro N L c/\(∀ e st',Qx e st'->ve D I m n0 x id Q e st')/\exec ts G L c (D x) Qx):
  ∀ x,I x->∀ own a w,W2 F w0 N own (D x) a w->(Code.block id (.loop c)).wpIn (rd ro) nd P (EZ F w0 N Q) a w:=by
 intro x hx own a w hr;refine wpIn_block (wpIn_loop_ghost (λn a w=>∃ x E own,I x/\m x=n/\(∀ b,F b->E b)/\W2 E w0 N own (D x) a w) (m x) ⟨x,F,own,hx,rfl,λ_ h=>h,hr⟩ ?_);rintro n a w ⟨x,F2,own,hx,rfl,O,hr⟩;obtain⟨L,Qx,hl,hQx,hex⟩:=W x hx;refine wpIn_mono (wpIn_mono (rO hm hts hG c hc hl F2 (D x) _ hex own a w hr) (uH hQx)) ?_;intro e a' w' Y;cases e with
 |normal=>
  obtain⟨E,bn,st',X,h1,y,js,h2,h3,h5,h4⟩:=Y;exact⟨m y,h3,y,E,_,h2,rfl,λb U=>X b (O b U),h1.sub h4 hn h5⟩
 |exit j=>
  obtain⟨E,bn,st',X,h1,h2⟩:=Y;have V:(bif Nat.beq j id then Q .normal st' else Q (.exit j) st'):=h2;show if j=id then _ else _;by_cases hj:j=id
  subst hj;rw[if_pos rfl];simp only[aoZ,cond_true]at V;exact⟨E,bn,st',λb U=>X b (O b U),h1,V⟩;rw[if_neg hj];have:Nat.beq j id=false:=by cases U:Nat.beq j id <;>simp_all
  rw[this]at V;exact⟨E,bn,st',λb U=>X b (O b U),h1,V⟩
 |ret=>
  obtain⟨E,bn,st',X,h1,h2⟩:=Y;exact⟨E,bn,st',λb U=>X b (O b U),h1,h2⟩
 |panic ch=>
  obtain⟨x,E,bn,st',X,h1,h2,h3⟩:=Y;exact⟨x,E,bn,st',λb U=>X b (O b U),h1,h2,h3⟩
 |_=>exact Y.elim
end
section
variable {P:Program}{F:Nat->Prop}{w0:Bs}{ro:Option Nat}{nd:Nat}{ts:Tis}{G:Cons}{L:vZ}{N:Nat}
theorem Mu:∀ (l:List SV) (n t:Nat),lk t (nY n l)=if n<=t then(l[t - n]?).getD .any else .any
 | [],n,t=>by simp[nY,lk]
 |s::r,n,t=>by
  rw[nY,px,Mu r (n+1) t];grind
def UJ (tmps:Array Value):ResultVar->Sem Value
 | .tmp t=>pure (tmps.getD t undef)| .cell q t=>do loadVar t (<-asAddr (tmps.getD q undef))
theorem O9 (fn:Func)(tmps:Array Value):results fn tmps=(do let vs <-fn.results.mapM (UJ tmps);pure (if h:vs.size=1 then vs[0]else .tuple vs)):=by
 rfl
structure arO (Ds:List Nat)(w w':World):Prop where
 size:w'.heap.size=w.heap.size
 block:∀ k,k ∉ Ds->w'.heap[k]? =w.heap[k]?
 os:w'.os=w.os
 tape:w'.tape=w.tape
 output:w'.output=w.output
theorem Bp {fn:Func}{tmps:Array Value}{R:Ending->World->Prop}{u:FrameMode}(X:u≠ .run){bs:List Deferred}:∀ (Ds:List Nat) (ds:List Deferred) (w:World),ds.map (·.target)=Ds.map .collected->Ds.Nodup->
  (∀ D∈Ds,w.heap[D]? =some (.deferred (some [])))->(∀ U,arO Ds w U->LeavesInM (rd none) nd P fn tmps R bs u U)->LeavesInM (rd none) nd P fn tmps R (ds++bs) u w
 | [],[],w,_,_,_,h=>h w ⟨rfl,λ_ _=>rfl,rfl,rfl,rfl⟩
 | [],_::_,w,E,_,_,_=>by simp at E
 |_::_,[],w,E,_,_,_=>by simp at E
 |D::Ds,d::ds,w,E,Y,W,h=>by
  simp only[amu,ane]at E;obtain⟨hd,E⟩:=E;rw[ami]at Y;have hlt:=rL (W D (by simp));refine⟨X,.inl ⟨D,_,hd,run_takeDeferred (W D (by simp)),?_⟩⟩;refine Bp X Ds ds _ E Y.2 (λD' hD'=>?_) λU O=>?_;rw[World.putObj_heap_other (by grind)];grind
  refine h U ⟨?_,λk V=>?_,O.os,O.tape,O.output⟩;rw[O.size];simp_all;simp only[alV,not_or]at V;rw[O.block k V.2,World.putObj_heap_other V.1]
variable {st:St}{a:Act}{w:World}
theorem W2.shut{own:Own}{U:World}{Ds:List Nat}(h:W2 F w0 N own st a w)(V:∀ D∈Ds,w0.w.heap.size<=D/\F D/\w.heap[D]? =some (.deferred (some [])))(E:arO Ds w U):
  W2 F w0 N own st { a with defers:=w0.ds} U:=by
 have g:apK F own w own U:=⟨λ_ hd e=>⟨hd,e,.refl _⟩,λb _ X=>⟨X,E.block b λO=>X (.inl (V b O).2.1)⟩,by rw[E.size];omega⟩;refine⟨h.size,Dfr.nil,h.hp.apS g λid hd b e O=>E.block b λY=>h.hp.apart id hd b e O (V b Y).2.1,⟨h.fr.ids,h.fr.base,E.os.trans h.fr.os,E.tape.trans h.fr.tape,E.output.trans h.fr.output,by rw[E.size];exact h.fr.size,λk W=>?_⟩,λt=>(h.slots t).mono g⟩;rw[E.block k λO=>by have:=(V k O).1;have:=W.1;omega];exact h.fr.block k W
theorem W2.less{V:Nat->Prop}(E:∀ b,F b->V b){own:Own}(h:W2 V w0 N own st a w)(hd:a.defers=w0.ds):W2 F w0 N own st a w:=by
 have hc:apz V own w F own w:=⟨λ_ hd e=>⟨hd,e,.refl _⟩,λb _ hn=>⟨λY=>hn (Y.imp (E b) id),rfl⟩⟩;refine⟨h.size,by rw[hd];exact Dfr.nil,⟨h.hp.dom,λb O=>h.hp.ao1 b (E b O),λid hd b e O W=>h.hp.apart id hd b e O (E b W),h.hp.inj,h.hp.lt,λid U=>?_⟩,h.fr,λt=>(h.slots t).carry hc⟩;obtain⟨hd,e1,X⟩:=h.hp.obs id U;exact⟨hd,e1,X.carry hc (alJ _) λ_ _=>rfl⟩
theorem SB(V:ts.ok P){own:Own}(U:W2 F w0 N own st a w){x:ResultVar}{s:SV}(h:RW ts st x=some s):
  ∃ v,(UJ a.tmps x).run P w=.ok v w/\Rel F own w s v:=by
 cases x with
 |tmp n=>
  simp only[RW,alK]at h;subst h;exact⟨_,rfl,U.slots n⟩
 |cell q t=>
  simp only[RW]at h;cases E:aJ ts t λti=>qC ti st.h (lk q st.t)with
  |val s'=>
   rw[E]at h;simp only[X3,alK]at h;subst h;obtain⟨ti,ht,he⟩:=b_ V E (by simp);obtain⟨u,O,Y⟩:=LX (P:=P) U.hp ht (U.slots q) he;refine⟨u,?_,Y⟩;show(do loadVar t (<-asAddr (a.tmps.getD q undef)):Sem Value).run P w=.ok u w;generalize a.tmps.getD q undef=vq at O |-;unfold Instr.loadAt at O;rw[al9]at O |-;have W:∀ x w',(Instr.sureAddr vq).run P w=.ok x w'->(asAddr vq).run P w=.ok x w':=by
    intro x w' h;unfold Instr.sureAddr at h;split at h
    exact h;simp_all
   cases X:(Instr.sureAddr vq).run P w <;>simp_all
  |_=>rw[E]at h;simp[X3]at h
theorem IJ (E:ts.ok P){own:Own}{st:St}{a:Act}{w:World}(U:W2 F w0 N own st a w):∀ (rs:List ResultVar) (l:List SV),pi ts st rs=some l->
  ∃ vs:List Value,(rs.mapM (UJ a.tmps):Sem (List Value)).run P w=.ok vs w/\vs.length=l.length/\∀ (j:Nat) (s:SV),l[j]? =some s->∃ v,vs[j]? =some v/\Rel F own w s v
 | [],l,h=>by
  simp_all [pi]
 |x::r,l,h=>by
  simp only[pi]at h;cases O:RW ts st x with
  |none=>grind [LV]
  |some s0=>
   cases V:pi ts st r with
   |none=>grind [LV]
   |some l'=>
    rw[O,V]at h;simp only[LV,alK]at h;subst h;obtain⟨W,f1,f2⟩:=SB (P:=P) E U O;obtain⟨vs,e1,X,e3⟩:=IJ E U r l' V;refine⟨W::vs,?_,by simp[X],λj s Y=>?_⟩;simp_all;grind
theorem Ad(X:ts.ok P){fn:Func}{own:Own}(hr:W2 F w0 N own st a w){s:SV}(h:rj (pi ts st fn.results.toList)=some s):∃ u,(results fn a.tmps).run P w=.ok u w/\Rel F own w s u:=by
 cases Y:pi ts st fn.results.toList with
 |none=>rw[Y]at h;cases h
 |some l=>
  obtain⟨vs,e1,V,O⟩:=IJ (P:=P) X hr _ l Y;rw[Y]at h;have hres:(results fn a.tmps).run P w=.ok (if h:vs.toArray.size=1 then vs.toArray[0]else .tuple vs.toArray) w:=by
   grind [O9,Array.mapM_eq_mapM_toList,Sem.run_bind,Sem.run_map,Result.andThen_ok,Sem.run_pure]
  have E:vs.toArray.size=l.length:=by omega
  match l,h,V,O,E with
  | [s0],h,V,O,E=>
   simp only[rj,alK]at h;subst h;obtain⟨v,hv,U⟩:=O 0 s0 rfl;grind
  | [],h,V,O,E=>
   simp only[rj,alK]at h;subst h;refine⟨.tuple vs.toArray,by grind,.tup (by omega) λj s W=>by simp at W⟩
  |s0::s1::r,h,V,O,E=>
   simp only[rj,alK]at h;subst h;refine⟨.tuple vs.toArray,by grind,.tup (by omega) λj s W=>?_⟩;obtain⟨v,hv,U⟩:=O j s W;simp_all
theorem mU{fn:Func}{own:Own}{R:Ending->World->Prop}(O:W2 F w0 N own st a w){u:FrameMode}(Y:u≠ .run)
  (h:∀ E,W2 F w0 N own st { a with defers:=w0.ds} E->LeavesInM (rd none) nd P fn a.tmps R w0.ds u E):LeavesInM (rd none) nd P fn a.tmps R a.defers u w:=by
 obtain⟨X,Ds,h0,h1,h2,U⟩:=O.defers;rw[h0];exact Bp Y Ds X w h1 h2 (λD W=>(U D W).2.2) λE V=>h E (O.shut U V)
variable {w':World}
theorem qL{own:Own}(h:Fr { w:=w,own:=dv} own w'):Below w.heap.size w w':=
 ⟨h.os,h.tape,h.output,h.size,λk E=>h.block k ⟨E,λ⟨_,_,e,_⟩ =>by cases e⟩⟩
theorem qM{own:Own}{l:List SV}{vs:Array Value}(E:apx F own w l vs)(n t:Nat):Rel F own w (lk t (nY 0 l)) ((vs++Array.replicate n undef).getD t undef):=by
 rw[Mu,if_pos (ame t),Nat.sub_zero];cases O:l[t]? with
 |none=>exact .any _
 |some s=>
  have hlt:t<vs.size:=by rw[E.1];grind
  have:=E.2 t s O;grind [tO]
theorem Ae(E:∀ b,F b->b<w.heap.size):Hp F dv w []:=
 ⟨λ_ _ h=>(by cases h),E,λ_ _ _ h=>(by cases h),λ_ _ _ _ _ h=>(by cases h),λ_ _ _ h=>(by cases h),λid h=>(by simp[ap,dx]at h)⟩
def lr (h:List Ob):Nat->SV->List Nat
 |_,.os id=>match aS 0 (wK (ap h id))with| [] =>[] |_=>[id]
 |n+1,.agg l=>l.flatMap (lr h n)|n+1,.tup l=>l.flatMap (lr h n)|_,_=>[]
theorem CE (o:Ob):(∃ (k:Tag) (l:List k.T),o=.row k l/\wK o=.nw k l)\/(∃ (k k2:Tag) (l:List (k.T×k2.T)),o=.mp k k2 l none/\wK o=.nm k k2 l)\/(∃ (k:Tag) (l:List (List k.T)),o=.apw k l/\wK o=.ng k l)\/wK o=.any:=by
 cases o with
 |row k l=>exact .inl ⟨k,l,rfl,rfl⟩
 |mp k k2 l p=>
  cases p with
  |none=>exact .inr (.inl ⟨k,k2,l,rfl,rfl⟩)|some x=>exact .inr (.inr (.inr rfl))
 |apw k l=>exact .inr (.inr (.inl ⟨k,l,rfl,rfl⟩))|_=>exact .inr (.inr (.inr rfl))
theorem O_:∀ (n:Nat) (s:SV),c8 n s=true->∀ m,aS m s=[]:=by
 intro n;induction n with
 |zero=>intro s h m;cases s <;>simp[c8]at h <;>cases m <;>rfl
 |succ n O=>
  intro s h m;have E:∀ (l:List SV) m,l.all (c8 n)=true->l.flatMap (aS m)=[]:=λl m E=>by
   simp_all
  cases s with
  |agg l=>cases m with
   |zero=>rfl|succ m=>exact E l m h
  |tup l=>cases m with
   |zero=>rfl|succ m=>exact E l m h
  |_=>first|(cases m <;>rfl) |simp[c8]at h
variable {h:List Ob}
theorem IK:∀ (n:Nat) (s:SV),aS n (yE h n s)=(lr h n s).map (ap h)/\lr h n s ⊆ vb n s/\(lr h n s).Sublist (vb n s)/\∀ id∈lr h n s,Plain (ap h id):=by
 have O:∀ (n id:Nat),aS n (wK (ap h id))=(lr h n (.os id)).map (ap h)/\lr h n (.os id) ⊆ [id]/\(lr h n (.os id)).Sublist [id]/\∀ i∈lr h n (.os id),Plain (ap h i):=by
  intro n id;have e:lr h n (.os id)=match aS 0 (wK (ap h id))with| [] =>[] |_=>[id]:=by cases n <;>rfl
  rw[e];rcases CE (ap h id)with⟨k,l,U,e2⟩ | ⟨k,k2,l,U,e2⟩ | ⟨k,l,U,e2⟩ |e2;rw[e2];refine⟨?_,by simp[aS],by simp[aS],λi hi=>?_⟩;grind [aS]
  simp[aS]at hi;subst hi;exact .inl ⟨k,l,U⟩;rw[e2];refine⟨?_,by simp[aS],by simp[aS],λi hi=>?_⟩;grind [aS]
  simp[aS]at hi;subst hi;exact .inr (.inl ⟨k,k2,l,U⟩);rw[e2];refine⟨?_,by simp[aS],by simp[aS],λi hi=>?_⟩;grind [aS]
  simp[aS]at hi;subst hi;exact .inr (.inr ⟨k,l,U⟩);grind [aS]
 have E:∀ (n m:Nat) (s:SV),aS n (bif c8 m s then s else .any)=[]:=λn m s=>by
  cases W:c8 m s with
  |true=>exact O_ m s W n|false=>cases n <;>rfl
 intro n;induction n with
 |zero=>
  intro s;cases s with
  |os id=>exact O 0 id
  |_=>first|exact⟨rfl,by simp[lr,vb],by simp[lr,vb],λi hi=>by simp[lr]at hi⟩ |exact⟨E _ _ _,by simp[lr,vb],by simp[lr,vb],λi hi=>by simp[lr]at hi⟩
 |succ n X=>
  intro s;have V:∀ l:List SV,(l.map (yE h n)).flatMap (aS n)=(l.flatMap (lr h n)).map (ap h)/\l.flatMap (lr h n) ⊆ l.flatMap (vb n)/\(l.flatMap (lr h n)).Sublist (l.flatMap (vb n))/\∀ id∈l.flatMap (lr h n),Plain (ap h id):=by
   intro l;induction l <;>grind
  cases s with
  |os id=>exact O (n+1) id|agg l=>exact V l|tup l=>exact V l
  |_=>first|exact⟨rfl,by simp[lr,vb],by simp[lr,vb],λi hi=>by simp[lr]at hi⟩ |exact⟨E _ _ _,by simp[lr,vb],by simp[lr,vb],λi hi=>by simp[lr]at hi⟩
theorem E2:∀ l:List Nat,uniq l=true->l.Nodup
 | [],_=>amV
 |a::r,h=>by
  simp only[uniq,alG]at h;rw[ami];refine⟨λE=>?_,E2 r h.2⟩;grind [wS]
theorem SC{own bn:Own}(hp:Hp F own w h)(hsh:∀ b,¬cH F own b->¬cH F bn b):∀ (n b:Nat) (s:SV) (v:Value),Rel F own w s v->(∀ i id,(lr h n s)[i]? =some id->bn (b+i)=own id)->wR F bn w n b (yE h n s) v:=by
 have V:∀ c,¬cH F own c->¬cH (cH F bn) dv c:=λc hc=>by
  rintro (hf| ⟨_,_,e,_⟩);grind
  cases e
 have W:∀ (n b id:Nat) (v:Value),Rel F own w (.os id) v->(∀ i j,(lr h n (.os id))[i]? =some j->bn (b+i)=own j)->wR F bn w n b (wK (ap h id)) v:=by
  intro n b id v E U;have e:lr h n (.os id)=match aS 0 (wK (ap h id))with| [] =>[] |_=>[id]:=by cases n <;>rfl
  rw[e]at U;cases E with
  |os h1 h2=>
   rcases CE (ap h id)with⟨k,l,e1,e2⟩ | ⟨k,k2,l,e1,e2⟩ | ⟨k,l,e1,e2⟩ |e2;all_goals rw[e2]at U |-
   have:=U 0 id (by simp[aS]);rw[amK]at this;cases n <;>exact⟨_,by rw[this];exact h1,rfl,h2⟩;have:=U 0 id (by simp[aS]);rw[amK]at this;cases n <;>exact⟨_,by rw[this];exact h1,rfl,h2⟩;have:=U 0 id (by simp[aS]);rw[amK]at this;cases n <;>exact⟨_,by rw[this];exact h1,rfl,h2⟩;cases n <;>exact Rel.any _
 have O:∀ (n m b:Nat) (s:SV) (v:Value),Rel F own w s v->(∀ l,s≠ .agg l)->(∀ l,s≠ .tup l)->wR F bn w n b (bif c8 m s then s else .any) v:=by
  intro n m b s v E n1 n2;cases hb:c8 m s with
  |false=>cases n <;>exact Rel.any _
  |true=>
   have hr2:Rel (cH F bn) dv w s v:=E.aph (gb m s hb) V;simp only[cond_true];cases s with
   |agg l=>grind|tup l=>grind|nw k l=>cases E|nm k k2 l=>cases E|ng k l=>cases E|_=>cases n <;>exact hr2
 intro n;induction n with
 |zero=>
  intro b s v E U;cases s with
  |os id=>exact W 0 b id v E U|v x=>exact E.aph (.v x) V|rs k l=>exact E.aph .rs V|rm k k2 l=>exact E.aph .rm V|e0=>exact E.aph .e0 V|agg l=>exact Rel.any _|tup l=>exact Rel.any _
  |_=>exact O 0 0 b _ v E (λ_ e=>by cases e) (λ_ e=>by cases e)
 |succ n ih=>
  intro b s v E U;have hl:∀ (l:List SV) (vs:Array Value) (b:Nat),(∀ (j:Nat) (s:SV),l[j]? =some s->Rel F own w s (vs.getD j undef))->(∀ i id,(l.flatMap (lr h n))[i]? =some id->bn (b+i)=own id)->
    ∀ (j:Nat) (s:SV),(l.map (yE h n))[j]? =some s->wR F bn w n (b+cnt n ((l.map (yE h n)).take j)) s (vs.getD j undef):=by
   intro l vs b h1 h2 j s hj;obtain⟨x,Y,rfl⟩:=k9 hj;refine ih _ x _ (h1 j x Y) λi id hi=>?_;have hc:cnt n ((l.map (yE h n)).take j)=((l.take j).flatMap (lr h n)).length:=by
    rw[<-List.map_take];generalize l.take j=m;induction m with
    |nil=>rfl|cons y r ihm=>grind [cnt,IK]
   rw[hc,am7];refine h2 _ id ?_;have X:l=l.take j++(x::l.drop (j+1)):=by
    grind [List.getElem_cons_drop,List.take_append_drop]
   grind
  cases s with
  |os id=>exact W (n+1) b id v E U|v x=>exact E.aph (.v x) V|rs k l=>exact E.aph .rs V|rm k k2 l=>exact E.aph .rm V|e0=>exact E.aph .e0 V
  |agg l=>cases E with|agg h0 h1=>exact⟨_,rfl,by grind,hl l _ b h1 U⟩
  |tup l=>cases E with|tup h0 h1=>exact⟨_,rfl,by grind,hl l _ b h1 U⟩
  |_=>exact O (n+1) (n+1) b _ v E (λ_ e=>by cases e) (λ_ e=>by cases e)
theorem QR{own:Own}(E:W2 F { w:=w,own:=dv} N own st a w'){s s2:SV}{u:Value}(hr:Rel F own w' s u)(hg:Cw st.h s=some s2):∃ bn,Handed F w bn w' s2 u:=by
 unfold Cw at hg;cases W:uniq (vb 3 s)&&(vb 3 s).all (λi=>Nat.blt i st.h.length)with
 |false=>grind
 |true=>
  rw[W]at hg;simp only[cond_true,alK]at hg;subst hg;rw[alG]at W;obtain⟨g1,g2,g3,g4⟩:=IK (h:=st.h) 3 s;have hnd:(lr st.h 3 s).Nodup:=(E2 _ W.1).sublist g3;let bn:Own:=λi=>((lr st.h 3 s)[i]?).bind own
  have X:∀ i hd,bn i=some hd->∃ id,(lr st.h 3 s)[i]? =some id/\own id=some hd:=λi hd e=>by
   grind
  have Y:∀ b,¬cH F own b->¬cH F bn b:=λb W=>by
   rintro (hf| ⟨i,hd,e,V⟩);exact W (.inl hf);obtain⟨id,_,U⟩:=X i hd e;exact W (.inr ⟨id,hd,U,V⟩)
  refine⟨bn,⟨λi hd e=>?_,E.hp.ao1,λi hd b e V=>?_,λi j hi hj b e1 U hb1 hb2=>?_,λi hd b e V=>?_,λi O=>?_⟩,?_,λi hd b e V=>?_⟩;grind
  obtain⟨id,_,U⟩:=X i hd e;exact E.hp.apart id hd b U V;obtain⟨k1,p1,p2⟩:=X i hi e1;obtain⟨k2,q1,q2⟩:=X j hj U;have:=E.hp.inj k1 k2 hi hj b p2 q2 hb1 hb2;subst this;exact sd hnd p1 q1;obtain⟨id,_,U⟩:=X i hd e;exact E.hp.lt id hd b U V;rw[g1]at O |-;rw[tL]at O |-;rw[amB]at O |-;cases hi:(lr st.h 3 s)[i]? with
  |none=>grind [dx]
  |some id=>
   rw[hi]at O;simp only[am2,anZ]at O |-;obtain⟨hd,e1,U⟩:=E.hp.obs id O;refine⟨hd,by grind,U.aph (g4 id (alU hi)) (.inl Y)⟩
  exact SC E.hp Y 3 0 s u hr λi id hi=>by grind
  obtain⟨id,_,U⟩:=X i hd e;have:=E.fr.base id hd b U V;rcases amN b w.heap.size with hlt|hge;exact absurd ⟨hlt,λ⟨_,_,e,_⟩ =>by cases e⟩ this;exact hge
end
section
variable {P:Program}{F:Nat->Prop}{w0:Bs}{ro:Option Nat}{nd:Nat}{ts:Tis}{G:Cons}{L:vZ}{N:Nat}
variable {w:World}
theorem wU{w':World}{s:SV}{u:Value}(E:∀ b,F b->b<w'.heap.size)(h:Rel F dv w' s u):Handed F w dv w' s u:=by
 refine⟨?_,Ut 3 0 h,λ_ _ _ e=>(by cases e)⟩;rw[EL 3 h];exact Ae E
variable {f:FuncId}{fn:Func}{c:Code}
theorem UK(m:Bool) (hm:P.follows .mixedOrders=true) (hts:ts.ok P) (hG:X2 P G)    (hf:P.funcs[f]? =some fn) (hb:fn.body=some c) (hname:(fn.name== "runtime.NumGoroutine")=false)
  (hc:cP fn.ntmps c=true) {C:List SV->Option Con}
  (h:∀ l O,C l=some O->an O->l.length<=fn.ntmps/\∃ L,ak P none fn.ntmps L c/\exec ts G L c ⟨nY 0 l,[]⟩ (Ep m fn.results.toList ts (dL O) (ke O))):zs P f C:=by
 refine⟨λl O _ args w=>?_,λl O X hpre F w vs hF Y=>?_⟩;simp_all [callFunc];obtain⟨hlen,L,hl,hx⟩:=h l O X hpre;refine sF (n:=0) (callsIn_of_wp_marks hf hb trivial ?_);have hr:W2 F { w:=w,own:=dv} fn.ntmps dv ⟨nY 0 l,[]⟩ { tmps:=vs++Array.replicate (fn.ntmps - vs.size) undef,defers:=[]} w:=
  ⟨by have:=Y.1;simp;omega,Dfr.nil,Ae hF,Fr.refl _,λt=>qM Y _ t⟩
 refine wpIn_mono (rO hm hts hG c hc hl F _ _ hx dv _ w hr) ?_;intro e a' w' hq;have key:∀ W own st,(∀ b,F b->W b)->W2 W { w:=w,own:=dv} fn.ntmps own st a' w'->iK (dL O) (Em m fn.results.toList ts st)->LeavesInM (rd none) 0 P fn a'.tmps
   (λe w'=>(∃ s u bn,dL O s/\e=.returned u/\Handed F w bn w' s u/\Below w.heap.size w w')\/(∃ x,ke O x/\e=.panicked [{ v:=x,recovered:=false}]/\Below w.heap.size w w')) a'.defers .returning w':=by
  intro W own st hF1 hst E;refine mU hst (by simp) λw2 V=>?_;have U:=V.less hF1 rfl;unfold Em at E;cases hs:rj (pi ts st fn.results.toList)with
  |none=>
   cases m <;>simp only[cond_true,cond_false,El,RX]at E <;>rw[hs]at E <;>exact E.elim
  |some s=>
   obtain⟨u,e1,e2⟩:=Ad (P:=P) hts U hs;refine⟨u,e1,.inl ?_⟩;cases m with
   |false=>
    simp only[cond_false,El]at E;rw[hs]at E;exact⟨_,u,dv,E,rfl,wU U.hp.ao1 (xL U.hp 4 s u e2),qL U.fr⟩
   |true=>
    simp only[cond_true,RX]at E;rw[hs]at E;change iK (dL O) (Cw st.h s)at E;cases hg:Cw st.h s with
    |none=>rw[hg]at E;exact E.elim
    |some s2=>
     rw[hg]at E;obtain⟨bn,hh⟩:=QR U e2 hg;exact⟨_,u,bn,E,rfl,hh,qL U.fr⟩
 cases e with
 |normal=>obtain⟨W,own,st,h0,h1,h2⟩:=hq;exact key W own st h0 h1 h2
 |ret=>obtain⟨W,own,st,h0,h1,h2⟩:=hq;exact key W own st h0 h1 h2
 |exit id=>obtain⟨W,own,st,h0,h1,h2⟩:=hq;exact h2.elim
 |panic ch=>
  obtain⟨x,W,own,st,h0,h1,h2,rfl⟩:=hq;exact mU h1 (by simp) λw2 V=>.inr ⟨x,h2,rfl,qL V.fr⟩
 |_=>exact hq.elim
theorem Yn{js:List Nat}{n0:Nat}{own:Own}{h h':List Ob}{s s':SV}(U:Sub js n0 ⟨[(0,s)],h⟩ ⟨[(0,s')],h'⟩)(W:Hp F own w h)(E:Fr w0 own w)(X:∀ id hd,w0.own id=some hd->id<n0)(O:n0<=h'.length){u:Value}(Y:Rel F own w s u):
  Rel F (iL js h' own) w s' u:=by
 obtain⟨_,_,_,q4⟩:=Kf U W E X O;obtain⟨_,⟨⟨V,k2⟩,_⟩,_⟩:=U;have e:s=ren (Eo js) 5 s':=by simpa[lk]using V
 grind
variable {C:List SV->List Ob->Option apd}
theorem E3(hm:P.follows .mixedOrders=true) (hts:ts.ok P) (hG:X2 P G)    (hf:P.funcs[f]? =some fn) (hb:fn.body=some c) (hname:(fn.name== "runtime.NumGoroutine")=false)
  (hc:cP fn.ntmps c=true) 
  (h:∀ l o O,C l o=some O->O.pre->l.length<=fn.ntmps/\∃ L Qx,ak P none fn.ntmps L c/\(∀ e st,Qx e st->LW o.length fn.results.toList ts O e st)/\exec ts G L c ⟨nY 0 l,o⟩ Qx):ape P f C:=by
 refine⟨λl o O _ args w=>?_,λl o O arp hpre F own w vs hp hvs=>?_⟩;simp_all [callFunc];obtain⟨hlen,L,Qx,hl,hQ,hx⟩:=h l o O arp hpre;have X:∀ id hd,own id=some hd->id<o.length:=λid hd e=>hp.dom id hd e;refine sF (n:=0) (callsIn_of_wp_marks hf hb trivial ?_);have hr:W2 F { w:=w,own:=own} fn.ntmps own ⟨nY 0 l,o⟩ { tmps:=vs++Array.replicate (fn.ntmps - vs.size) undef,defers:=[]} w:=
  ⟨by have:=hvs.1;simp;omega,Dfr.nil,hp,Fr.refl { w:=w,own:=own},λt=>qM hvs _ t⟩
 refine wpIn_mono (rO hm hts hG c hc hl F _ _ hx own _ w hr) ?_;intro e a' w' Y
 replace Y:=uH hQ _ _ _ Y
 have key:∀ W bn st,(∀ b,F b->W b)->W2 W { w:=w,own:=own} fn.ntmps bn st a' w'->Er o.length O (rj (pi ts st fn.results.toList)) st.h->LeavesInM (rd none) 0 P fn a'.tmps (λe w'=>∃ r bn,O.post r/\J5 F w own o.length e bn w' (O.res r)) a'.defers .returning w':=by
  intro W bn st hF1 hst U;refine mU hst (by simp) λw2 V=>?_;have E:=V.less hF1 rfl;cases hs:rj (pi ts st fn.results.toList)with
  |none=>rw[hs]at U;exact U.elim
  |some s=>
   rw[hs]at U;obtain⟨r,s',h',js,q1,q2,q3,q4⟩:=U;obtain⟨u,e1,e2⟩:=Ad (P:=P) hts E hs;obtain⟨k1,k2,_,_⟩:=Kf q4 E.hp E.fr X q3;refine⟨u,e1,r,iL js h' bn,q1,?_⟩;rw[q2];exact⟨⟨u,rfl,Yn q4 E.hp E.fr X q3 e2⟩,k1,k2,q3⟩
 cases e with
 |normal=>obtain⟨W,bn,st,h0,h1,h2⟩:=Y;exact key W bn st h0 h1 h2
 |ret=>obtain⟨W,bn,st,h0,h1,h2⟩:=Y;exact key W bn st h0 h1 h2
 |exit id=>obtain⟨W,bn,st,h0,h1,h2⟩:=Y;exact h2.elim
 |panic ch=>
  obtain⟨x,W,bn,st,h0,h1,⟨r,h',js,q1,q2,q3,q4⟩,rfl⟩:=Y;refine mU h1 (by simp) λw2 V=>?_;have E:=V.less h0 rfl;obtain⟨k1,k2,_,_⟩:=Kf q4 E.hp E.fr X q3;refine⟨r,iL js h' bn,q1,?_⟩;rw[q2];exact⟨rfl,k1,k2,q3⟩
 |_=>exact Y.elim
theorem oy(X:P.follows .mixedOrders=true) (U:ts.ok P) (hG:X2 P G)    (V:P.funcs[f]? =some fn) (W:fn.body=some c) (O:(fn.name== "runtime.NumGoroutine")=false)
  (hc:cP fn.ntmps c=true) 
  (h:∀ l o E,C l o=some E->E.pre->l.length<=fn.ntmps/\∃ L,ak P none fn.ntmps L c/\exec ts G L c ⟨nY 0 l,o⟩ (LW o.length fn.results.toList ts E)):ape P f C:=
 E3 X U hG V W O hc λl o E h1 h2=>by
  grind
theorem W2.aqc{own:Own}{st:St}{a:Act}(h:W2 F w0 N own st a w):∀ id hd,w0.own id=some hd->id<st.h.length:=λid hd e=>by
 obtain⟨hd',e',_⟩:=h.fr.ids id hd e;exact h.hp.dom id hd' e'
theorem wV{ts:Tis}{G:Cons}{ro:Option Nat}{N:Nat}(hm:P.follows .mixedOrders=true)(hts:ts.ok P)(hG:X2 P G){id:Nat}(hc:cP N c=true){C:St->Option apN}
  (h:∀ st U,C st=some U->U.pre->∃ (σ:Type) (D:σ->St) (I:σ->Prop) (m:σ->Nat) (x0:σ) (js:List Nat),I x0/\st.h.length<=(D x0).h.length/\Sub js st.h.length st (D x0)/\
   ∀ x,I x->∃ L Qx,ak P ro N L c/\(∀ e st',Qx e st'->ve D I m st.h.length x id (λe st'=>∃ r js,U.post r/\U.ex r=e/\st.h.length<=(U.out r).h.length/\Sub js st.h.length st' (U.out r)) e st')/\exec ts G L c (D x) Qx):kV P ro N id (.loop c) C:=by
 intro nd F w0 st U hC hpre own a w hr;obtain⟨σ,D,I,m,x0,js,h1,h2,h3,h4⟩:=h st U hC hpre;refine wpIn_mono (II hm hts hG hc D I m st.h.length hr.aqc _ h4 x0 h1 _ a w (hr.sub h3 hr.aqc h2)) ?_;intro e a' w' hq;have key:∀ ex O bn st',W2 O w0 N bn st' a' w'->(∃ r js,U.post r/\U.ex r=ex/\st.h.length<=(U.out r).h.length/\Sub js st.h.length st' (U.out r))->∃ A1 E,W2 O w0 N A1 E a' w'/\∃ r,U.post r/\ex=U.ex r/\E=U.out r:=by
  rintro ex O bn st' hst ⟨r,js,V,W,q3,q4⟩;exact⟨_,_,hst.sub q4 hr.aqc q3,r,V,W.symm,rfl⟩
 cases e with
 |normal=>obtain⟨O,bn,st',X,Y,k2⟩:=hq;obtain⟨A1,E,V,W⟩:=key _ O bn st' Y k2;exact⟨O,A1,E,X,V,W⟩
 |exit j=>obtain⟨O,bn,st',X,Y,k2⟩:=hq;obtain⟨A1,E,V,W⟩:=key _ O bn st' Y k2;exact⟨O,A1,E,X,V,W⟩
 |ret=>obtain⟨O,bn,st',X,Y,k2⟩:=hq;obtain⟨A1,E,V,W⟩:=key _ O bn st' Y k2;exact⟨O,A1,E,X,V,W⟩
 |panic ch=>
  obtain⟨x,O,bn,st',X,Y,k2,k3⟩:=hq;obtain⟨A1,E,V,W⟩:=key _ O bn st' Y k2;exact⟨x,O,A1,E,X,V,W,k3⟩
 |_=>exact hq.elim
end
end Go.Sx
end
section
namespace Go.Sx
def Pa (k:TI->OR):Option TI->OR
 |some i=>k i|none=>.bad
section
variable {ts:Tis}{G:Cons}{L:vZ}{t:List (Nat×SV)}{h:List Ob}{Q:Ex->St->Prop}{K:St->Prop}{Z:Value->St->Prop}{ops rest:List Oper}{nx:Nat}
variable {st st':St}
@[congr] theorem abf {c:Code}(e:st=st'):exec ts G L c st Q=exec ts G L c st' Q:=by rw[e]
@[congr] theorem Xw (e:st=st'):jh ts G ops rest st K Z=jh ts G ops rest st' K Z:=by rw[e]
variable {fps:List Fp}
@[congr] theorem ZW{i b:Nat}{arx:List Fp}(e0:fps=arx)(e:st=st'):jO ts G ops K Z rest i b fps st=jO ts G ops K Z rest i b arx st':=by rw[e,e0]
variable {d:Option Nat}{r r':OR}
@[congr] theorem ZX(e:r=r'):lF G d st K Z r=lF G d st K Z r':=by rw[e]
variable {g:Nat×Bool}
@[congr] theorem ZY(e:r=r'):stepG G ops g d st K Z r=stepG G ops g d st K Z r':=by rw[e]
variable {p:Prop}{r r':Option Dr}
@[congr] theorem Yo{next:List Nat->List Up->St->Prop}(e:r=r'):y6 d st next p r=y6 d st next p r':=by rw[e]
@[congr] theorem Yp{next:List Nat->List Up->St->Prop}(e:r=r'):wI ops g d st next p r=wI ops g d st next p r':=by rw[e]
variable {x:(Ex->St->Prop)->Prop}{c c':Option apN}
@[congr] theorem ZZ{y:(Ex->St->Prop)->Prop}{Q:Ex->St->Prop}{s s':SV}(e:s=s')(e2:c=c'):Ej x y Q s c=Ej x y Q s' c':=by rw[e,e2]
@[congr] theorem Z0{Q:Ex->St->Prop}(e:c=c'):Ek x Q c=Ek x Q c':=by rw[e]
@[congr] theorem Z1(e:c=c'):rI Q c=rI Q c':=by rw[e]
def adF:exec ts G L .skip ⟨t,h⟩ Q=Q .normal ⟨t,h⟩:=(rfl)
def Z2 {id:Nat}{a:Array Oper}{d:Bool}:exec ts G L (.region id a d) ⟨t,h⟩ Q=Ek (Cv ts G a d ⟨t,h⟩) Q (L (id+2000000) ⟨t,h⟩):=(rfl)
def Z3:Cv ts G ops.toArray false ⟨t,h⟩ Q=jh ts G ops ops ⟨t,h⟩ (λst'=>Q .normal (wJ ops st')) (λx st'=>Q (.pan x) st'):=(rfl)
attribute[go_sem]adF Z2 Z3
@[go_sem] def abg:= @Ek.eq_1
variable {d:St}
def abh:inC d Q .normal ⟨t,h⟩=(h=d.h/\aqt t d.t):=(rfl)
def aiG{st:St}{x:Value}:inC d Q (.pan x) st=Q (.pan x) st:=(rfl)
attribute[go_sem]abh aiG
variable {a:Code}
def af3{b:Code}:exec ts G L (.seq a b) ⟨t,h⟩ Q=exec ts G L a ⟨t,h⟩ (Ex.then (λst'=>exec ts G L b st' Q) Q):=(rfl)
def adG {c:Operand}{x y:Code}:exec ts G L (.cond c x y) ⟨t,h⟩ Q=Ej (exec ts G L x ⟨t,h⟩) (exec ts G L y ⟨t,h⟩) Q (raw t c) (L (T8 c) ⟨t,h⟩):=(rfl)
attribute[go_sem]af3 adG
@[go_sem] def abi:= @Ej.eq_1
@[go_sem] theorem af4{y:(Ex->St->Prop)->Prop}{s:SV}:Ej x y Q s (some (JC d))=(zS (x (inJ d)) (y (inJ d)) s/\Q .normal d):=by
 have e:(λe st=>∃ r,(JC d).post r/\inJ ((JC d).out r) e st)=inJ d:=by
  funext e st
  exact propext ⟨λ⟨_,_,h⟩ =>h,λh=>⟨(),trivial,h⟩⟩
 show T9 x y Q s (JC d)=_;unfold T9;rw[e];exact propext ⟨λh=>⟨h.1,h.2 () trivial⟩,λh=>⟨h.1,λ_ _=>h.2⟩⟩
@[go_sem] def af5:= @T8.eq_1
@[go_sem]def abj:inJ d .normal ⟨t,h⟩=(h=d.h/\aqt t d.t):=(rfl)
@[go_sem] def af6:= @aqt.eq_1
@[go_sem] def adH:= @aqt.eq_2
def UL {id:Nat}{c:Code}:exec ts G L (.block id (.loop c)) ⟨t,h⟩ Q=rI Q (L id ⟨t,h⟩):=(rfl)
def TC{id:Nat}{f:Operand}{ps:Array Tmp}{b:Code}:exec ts G L (.block id (.rangeFunc f ps a b)) ⟨t,h⟩ Q=rI Q (L id ⟨t,h⟩):=(rfl)
def UN{id:Nat}{b:Code}:exec ts G L (.block id (.seq a b)) ⟨t,h⟩ Q=exec ts G L (.seq a b) ⟨t,h⟩ (Ex.block id Q):=(rfl)
def TD{id:Nat}{c:Operand}{b:Code}:exec ts G L (.block id (.cond c a b)) ⟨t,h⟩ Q=exec ts G L (.cond c a b) ⟨t,h⟩ (Ex.block id Q):=(rfl)
attribute[go_sem]UL TC UN TD
variable {j:Nat}
def QS{id:Nat}{a:Array Oper}{d:Bool}:exec ts G L (.block id (.region j a d)) ⟨t,h⟩ Q=exec ts G L (.region j a d) ⟨t,h⟩ (Ex.block id Q):=(rfl)
def TE {id:Nat}:exec ts G L (.block id .skip) ⟨t,h⟩ Q=exec ts G L .skip ⟨t,h⟩ (Ex.block id Q):=(rfl)
def adI {id:Nat}:exec ts G L (.exit id) ⟨t,h⟩ Q=Q (.exit id) ⟨t,h⟩:=(rfl)
def af7:exec ts G L .ret ⟨t,h⟩ Q=Q .ret ⟨t,h⟩:=(rfl)
def SD {id:Nat}{c:Code}:exec ts G L (.block id (.scope c)) ⟨t,h⟩ Q=exec ts G L (.scope c) ⟨t,h⟩ (Ex.block id Q):=(rfl)
def SE {id l:Nat}:exec ts G L (.block id (.label l)) ⟨t,h⟩ Q=exec ts G L (.label l) ⟨t,h⟩ (Ex.block id Q):=(rfl)
def abk {c:Code}:exec ts G L (.scope c) ⟨t,h⟩ Q=exec ts G L c ⟨t,h⟩ Q:=(rfl)
def abl {l:Nat}:exec ts G L (.label l) ⟨t,h⟩ Q=Q .normal ⟨t,h⟩:=(rfl)
attribute[go_sem]QS TE adI af7 SD SE abk abl
@[go_sem] def Z4:= @Ex.then.eq_1
def af8 {st:St}:Ex.then K Q .ret st=Q .ret st:=(rfl)
def adJ{st:St}:Ex.then K Q (.exit j) st=Q (.exit j) st:=(rfl)
def Yq {st:St}{id:Nat}:Ex.block id Q .normal st=Q .normal st:=(rfl)
def adK {st:St}{id:Nat}:Ex.block id Q .ret st=Q .ret st:=(rfl)
def af9 {st:St}{v:Value}:Ex.then K Q (.pan v) st=Q (.pan v) st:=(rfl)
def adL {st:St}{id:Nat}{v:Value}:Ex.block id Q (.pan v) st=Q (.pan v) st:=(rfl)
attribute[go_sem]af8 adJ Yq adK af9 adL
@[go_sem] def abm:= @Ex.block.eq_1
@[go_sem] def aiH:= @zS.eq_1
variable {α:Type}{pre:Prop}{post:α->Prop}
def abn{ex:α->Ex}{out:α->St}:rI Q (some ⟨α,pre,post,ex,out⟩)=(pre/\∀ r,post r->Q (ex r) (out r)):=(rfl)
def abo:Cv ts G ops.toArray true ⟨t,h⟩ Q=jO ts G ops (λst'=>Q .normal (wJ ops st')) (λx st'=>Q (.pan x) st') ops 0 0 [] ⟨t,h⟩:=(rfl)
def Z5:jh ts G ops [] ⟨t,h⟩ K Z=K ⟨t,h⟩:=(rfl)
attribute[go_sem]abn abo Z5
variable {d:Option Nat}{ty:TypeId}{pos:String}{af:Array Edge}
def Yr{op:Op}:jh ts G ops (⟨d,op,ty,pos,af,none⟩::rest) ⟨t,h⟩ K Z=lF G d ⟨t,h⟩ (λst'=>jh ts G ops rest st' K Z) Z (opS ⟨ts,ops,none,⟨t,h⟩,h.length⟩ op):=(rfl)
def abp{i b:Nat}{op:Op}:jO ts G ops K Z (⟨d,op,ty,pos,af,none⟩::rest) i b fps ⟨t,h⟩=y6 d ⟨t,h⟩ (λall ups st'=>jO ts G ops K Z rest (i+1) b (fps++[fpU op (fpO ⟨ts,ops,none,⟨t,h⟩,h.length⟩ op) all ups]) st') (sB ops b fps/\Eh ops i=true/\lF G d ⟨t,h⟩ (λst'=>jO ts G ops K Z rest (i+1) (i+1) [] st') Z (opS ⟨ts,ops,none,⟨t,h⟩,h.length⟩ op)) (jK G h h.length (opS ⟨ts,ops,none,⟨t,h⟩,h.length⟩ op)):=(rfl)
def Ys{op:Op}:jh ts G ops (⟨d,op,ty,pos,af,some g⟩::rest) ⟨t,h⟩ K Z=stepG G ops g d ⟨t,h⟩ (λst'=>jh ts G ops rest st' K Z) Z (opS ⟨ts,ops,some g,⟨t,h⟩,h.length⟩ op):=(rfl)
def abq{i b:Nat}{op:Op}:jO ts G ops K Z (⟨d,op,ty,pos,af,some g⟩::rest) i b fps ⟨t,h⟩=wI ops g d ⟨t,h⟩ (λall ups st'=>jO ts G ops K Z rest (i+1) b (fps++[fpU op (fpO ⟨ts,ops,some g,⟨t,h⟩,h.length⟩ op) all ups]) st') (sB ops b fps/\Eh ops i=true/\stepG G ops g d ⟨t,h⟩ (λst'=>jO ts G ops K Z rest (i+1) (i+1) [] st') Z (opS ⟨ts,ops,some g,⟨t,h⟩,h.length⟩ op)) (jK G h h.length (opS ⟨ts,ops,some g,⟨t,h⟩,h.length⟩ op)):=(rfl)
def adM{i b:Nat}:jO ts G ops K Z [] i b fps ⟨t,h⟩=(sB ops b fps/\K ⟨t,h⟩):=(rfl)
attribute[go_sem]Yr abp Ys abq adM
variable {d:Nat}
@[go_sem]def adN{s:SV}:lF G (some d) ⟨t,h⟩ K Z (.val s)=K ⟨(d,s)::t,h⟩:=(rfl)
variable {c:Prop}
def adO{s:SV}:lF G (some d) ⟨t,h⟩ K Z (.chk c s)=(c/\K ⟨(d,s)::t,h⟩):=(rfl)
def adP{s:SV}:lF G (some d) ⟨t,h⟩ K Z (.asm c s)=(c->K ⟨(d,s)::t,h⟩):=(rfl)
def abr{s:SV}:lF G (some d) ⟨t,h⟩ K Z (.apY s)=K ⟨(d,s)::t,h⟩:=(rfl)
attribute[go_sem]adO adP abr
variable {a:Prop}
def adQ{s:SV}{ups:List Up}:lF G (some d) ⟨t,h⟩ K Z (.eff c a ups s)=(c/\(a->K ⟨(d,s)::t,bb h ups⟩)):=(rfl)
def adR:stepG G ops g (some d) ⟨t,h⟩ K Z .bad=(wG ops t ops.length g/\K ⟨(d,.gd g.1 g.2 .any)::t,h⟩):=(rfl)
def abt:stepG G ops g none ⟨t,h⟩ K Z .bad=(wG ops t ops.length g/\K ⟨t,h⟩):=(rfl)
def adS{s:SV}:stepG G ops g (some d) ⟨t,h⟩ K Z (.val s)=K ⟨(d,.gd g.1 g.2 s)::t,h⟩:=(rfl)
def adT{s:SV}:stepG G ops g (some d) ⟨t,h⟩ K Z (.chk c s)=((dO ops t ops.length g->c)/\K ⟨(d,.gd g.1 g.2 s)::t,h⟩):=(rfl)
def adU{s:SV}:stepG G ops g (some d) ⟨t,h⟩ K Z (.asm c s)=K ⟨(d,.gd g.1 g.2 s)::t,h⟩:=(rfl)
def abu{s:SV}:stepG G ops g (some d) ⟨t,h⟩ K Z (.apY s)=K ⟨(d,.gd g.1 g.2 s)::t,h⟩:=(rfl)
def adV{s:SV}{ups:List Up}:stepG G ops g (some d) ⟨t,h⟩ K Z (.eff c a ups s)=((dO ops t ops.length g->c/\(a->K ⟨(d,.gd g.1 g.2 s)::t,bb h ups⟩))/\(gi ops t ops.length g->K ⟨(d,.gd g.1 g.2 .any)::t,h⟩)):=(rfl)
attribute[go_sem]adQ adR abt adS adT adU abu adV
variable {c:Option apd}{np:Bool}
def adW{ids:List Nat}{s:SV}:wH np ids (some d) ⟨t,h⟩ K Z c (some (.det p s))=bif np||i6 3 s then(p/\K ⟨(d,iE 3 h.length s)::t,h++aS 3 s⟩)else yC ids (some d) ⟨t,h⟩ K Z c:=(rfl)
def adX{ids:List Nat}{out:α->SV}:wH np ids (some d) ⟨t,h⟩ K Z c (some (.rel α pre post out))=(pre/\(bif np then ∀ r,post r->K ⟨(d,iE 3 h.length (out r))::t,h++aS 3 (out r)⟩else False)):=(rfl)
attribute[go_sem]adW adX
variable {x:Value}
@[go_sem]def adY{ids:List Nat}{s:SV}{ok:Bool}:wH np ids (some d) ⟨t,h⟩ K Z c (some (.may ok s x))=(bif np||i6 3 s then(ok=true->K ⟨(d,iE 3 h.length s)::t,h++aS 3 s⟩)/\(ok=false->Z x ⟨apW t,h⟩)else False):=(rfl)
variable {h':List Ob}
def af_{ids:List Nat}{s:SV}:JK ids (some d) ⟨t,h⟩ K Z (.ret s h')=K ⟨(d,ren (rH ids h.length) 3 s)::t,mE ids h.length h 0 h'⟩:=(rfl)
def aga{ids:List Nat}{s:SV}:RV ids g (some d) ⟨t,h⟩ K Z (.ret s h')=K ⟨(d,.gd g.1 g.2 (ren (rH ids h.length) 3 s))::t,mE ids h.length h 0 h'⟩:=(rfl)
attribute[go_sem]af_ aga
@[go_sem] def Z6:= @y5.eq_2
variable {o:apd}
def Z7{ids:List Nat}:y5 ids ops g (some d) ⟨t,h⟩ K Z (some o)=((dO ops t ops.length g->o.pre/\∀ r,o.post r->RV ids g (some d) ⟨t,h⟩ K Z (o.res r))/\(gi ops t ops.length g->K ⟨(d,.gd g.1 g.2 .any)::t,h⟩)):=(rfl)
def adZ{ids:List Nat}{s:SV}:Ei np ids ops g (some d) ⟨t,h⟩ K Z c (some (.det p s))=((dO ops t ops.length g->p)/\(bif(np||i6 3 s)&&(aS 3 s).isEmpty then K ⟨(d,.gd g.1 g.2 s)::t,h⟩else False)):=(rfl)
attribute[go_sem]Z7 adZ
variable {res:α->Bool×Res}
def ad0{id:Nat}:Oq id (some d) ⟨t,h⟩ K (some ⟨α,pre,post,res⟩)=(pre/\∀ r,post r->K ⟨(d,.b (res r).1)::t,cm h id (.ab (res r).2)⟩):=(rfl)
def ad1{id:Nat}:LS id ops g (some d) ⟨t,h⟩ K (some ⟨α,pre,post,res⟩)=((dO ops t ops.length g->pre/\∀ r,post r->K ⟨(d,.gd g.1 g.2 (.b (res r).1))::t,cm h id (.ab (res r).2)⟩)/\(gi ops t ops.length g->K ⟨(d,.gd g.1 g.2 .any)::t,h⟩)):=(rfl)
attribute[go_sem]ad0 ad1
variable {K0 c:Prop}
def akp{next:List Nat->List Up->St->Prop}{s:SV}{ups:List Up}{all:List Nat}:y6 (some d) ⟨t,h⟩ next K0 (some ⟨c,a,s,ups,all⟩)=(c/\(a->next all ups ⟨(d,s)::t,bb h ups⟩)):=(rfl)
def akq{next:List Nat->List Up->St->Prop}{s:SV}{ups:List Up}{all:List Nat}:wI ops g (some d) ⟨t,h⟩ next K0 (some ⟨c,a,s,ups,all⟩)=bif ups.isEmpty then(dO ops t ops.length g->c)/\next all [] ⟨(d,.gd g.1 g.2 s)::t,h⟩else ¬ (dO ops t ops.length g/\gi ops t ops.length g)/\(dO ops t ops.length g->c/\(a->next all ups ⟨(d,.gd g.1 g.2 s)::t,bb h ups⟩))/\(gi ops t ops.length g->next all [] ⟨(d,.gd g.1 g.2 s)::t,h⟩):=(rfl)
def abv {s:SV}:lF G none ⟨t,h⟩ K Z (.val s)=K ⟨t,h⟩:=(rfl)
def abw{s:SV}:lF G none ⟨t,h⟩ K Z (.chk c s)=(c/\K ⟨t,h⟩):=(rfl)
def abx{s:SV}:lF G none ⟨t,h⟩ K Z (.asm c s)=(c->K ⟨t,h⟩):=(rfl)
def Z8 {s:SV}:lF G none ⟨t,h⟩ K Z (.apY s)=K ⟨t,h⟩:=(rfl)
def aby{s:SV}{ups:List Up}:lF G none ⟨t,h⟩ K Z (.eff c a ups s)=(c/\(a->K ⟨t,bb h ups⟩)):=(rfl)
def abz{s:SV}:stepG G ops g none ⟨t,h⟩ K Z (.val s)=K ⟨t,h⟩:=(rfl)
def abA{s:SV}:stepG G ops g none ⟨t,h⟩ K Z (.chk c s)=((dO ops t ops.length g->c)/\K ⟨t,h⟩):=(rfl)
def abB{s:SV}:stepG G ops g none ⟨t,h⟩ K Z (.asm c s)=K ⟨t,h⟩:=(rfl)
def Z9{s:SV}:stepG G ops g none ⟨t,h⟩ K Z (.apY s)=K ⟨t,h⟩:=(rfl)
def abC{s:SV}{ups:List Up}:stepG G ops g none ⟨t,h⟩ K Z (.eff c a ups s)=((dO ops t ops.length g->c/\(a->K ⟨t,bb h ups⟩))/\(gi ops t ops.length g->K ⟨t,h⟩)):=(rfl)
attribute[go_sem]akp akq abv abw abx Z8 aby abz abA abB Z9 abC
variable {c:Option apd}
def abD{ids:List Nat}{s:SV}:wH np ids none ⟨t,h⟩ K Z c (some (.det p s))=bif np||i6 3 s then(p/\K ⟨t,h++aS 3 s⟩)else yC ids none ⟨t,h⟩ K Z c:=(rfl)
def abE{ids:List Nat}{out:α->SV}:wH np ids none ⟨t,h⟩ K Z c (some (.rel α pre post out))=(pre/\(bif np then ∀ r,post r->K ⟨t,h++aS 3 (out r)⟩else False)):=(rfl)
def abF{ids:List Nat}{s:SV}{ok:Bool}:wH np ids none ⟨t,h⟩ K Z c (some (.may ok s x))=(bif np||i6 3 s then(ok=true->K ⟨t,h++aS 3 s⟩)/\(ok=false->Z x ⟨apW t,h⟩)else False):=(rfl)
def ad2{ids:List Nat}{s:SV}:JK ids none ⟨t,h⟩ K Z (.ret s h')=K ⟨t,mE ids h.length h 0 h'⟩:=(rfl)
def ad3{ids:List Nat}{s:SV}:RV ids g none ⟨t,h⟩ K Z (.ret s h')=K ⟨t,mE ids h.length h 0 h'⟩:=(rfl)
def Yt{ids:List Nat}:y5 ids ops g none ⟨t,h⟩ K Z (some o)=((dO ops t ops.length g->o.pre/\∀ r,o.post r->RV ids g none ⟨t,h⟩ K Z (o.res r))/\(gi ops t ops.length g->K ⟨t,h⟩)):=(rfl)
def abG{ids:List Nat}{s:SV}:Ei np ids ops g none ⟨t,h⟩ K Z c (some (.det p s))=((dO ops t ops.length g->p)/\(bif(np||i6 3 s)&&(aS 3 s).isEmpty then K ⟨t,h⟩else False)):=(rfl)
def abH{id:Nat}:Oq id none ⟨t,h⟩ K (some ⟨α,pre,post,res⟩)=(pre/\∀ r,post r->K ⟨t,cm h id (.ab (res r).2)⟩):=(rfl)
def abI{id:Nat}:LS id ops g none ⟨t,h⟩ K (some ⟨α,pre,post,res⟩)=((dO ops t ops.length g->pre/\∀ r,post r->K ⟨t,cm h id (.ab (res r).2)⟩)/\(gi ops t ops.length g->K ⟨t,h⟩)):=(rfl)
def aiI{next:List Nat->List Up->St->Prop}{c:Prop}{s:SV}{ups:List Up}{all:List Nat}:y6 none ⟨t,h⟩ next K0 (some ⟨c,a,s,ups,all⟩)=(c/\(a->next all ups ⟨t,bb h ups⟩)):=(rfl)
def aiJ{next:List Nat->List Up->St->Prop}{c:Prop}{s:SV}{ups:List Up}{all:List Nat}:wI ops g none ⟨t,h⟩ next K0 (some ⟨c,a,s,ups,all⟩)=bif ups.isEmpty then(dO ops t ops.length g->c)/\next all [] ⟨t,h⟩else ¬ (dO ops t ops.length g/\gi ops t ops.length g)/\(dO ops t ops.length g->c/\(a->next all ups ⟨t,bb h ups⟩))/\(gi ops t ops.length g->next all [] ⟨t,h⟩):=(rfl)
attribute[go_sem]abD abE abF ad2 ad3 Yt abG abH abI aiI aiJ
@[go_sem] def Z_:= @y6.eq_2
@[go_sem] def aaa:= @wI.eq_2
variable {d:Option Nat}{f:FuncId}{args:List SV}
def abJ:lF G d ⟨t,h⟩ K Z (.call f args)=wH (args.all (c8 3)) (reach h 64 (args.flatMap (fA 3)) []) d ⟨t,h⟩ K Z (G.o f (args.map (ren (inN (reach h 64 (args.flatMap (fA 3)) [])) 6)) (rK h (reach h 64 (args.flatMap (fA 3)) []))) (G.p f (args.map (fD h 6))):=(rfl)
def abK:stepG G ops g d ⟨t,h⟩ K Z (.call f args)=Ei (args.all (c8 3)) (reach h 64 (args.flatMap (fA 3)) []) ops g d ⟨t,h⟩ K Z (G.o f (args.map (ren (inN (reach h 64 (args.flatMap (fA 3)) [])) 6)) (rK h (reach h 64 (args.flatMap (fA 3)) []))) (G.p f (args.map (fD h 6))):=(rfl)
def ad4{id:Nat}:lF G d ⟨t,h⟩ K Z (.yld id args)=bif args.all (c8 3)then Oq id d ⟨t,h⟩ K (JM G args (ap h id))else False:=(rfl)
def ad5{id:Nat}:stepG G ops g d ⟨t,h⟩ K Z (.yld id args)=bif args.all (c8 3)then LS id ops g d ⟨t,h⟩ K (JM G args (ap h id))else False:=(rfl)
attribute[go_sem]abJ abK ad4 ad5
@[go_sem] def aiK:= @JM.eq_1
@[go_sem]def ad6{id:Nat}:lF G d ⟨t,h⟩ K Z (.nxt id)=XZ id d ⟨t,h⟩ K (ap h id):=(rfl)
variable {left:List Nat}
def aiL{id mid n:Nat}{cur:Option Nat}:XZ id d ⟨t,h⟩ K (.mi (some mid) n left cur)=T6 id mid n left d ⟨t,h⟩ K (ap h mid):=(rfl)
def aiM{d id mid n it:Nat}{kk vk:Tag}{l:List (kk.T×vk.T)}:T6 id mid n left (some d) ⟨t,h⟩ K (.mp kk vk l (some (it,none)))=((it=id/\n=l.length)/\(left=[]->K ⟨(d,.tup [.v (.bool false)])::t,h⟩)/\∀ j,j∈left->K ⟨(d,.tup [.v (.bool true),svT kk (l.getD j (et kk,et vk)).1,svT vk (l.getD j (et kk,et vk)).2])::t,cm h id (.mi (some mid) n (left.erase j) (some j))⟩):=(rfl)
def agb {id:Nat}:jK G h nx (.nxt id)=none:=(rfl)
attribute[go_sem]aiL aiM agb
variable {p:Bool->Prop}
def agc:jK G h nx (.amb p)=none:=(rfl)
def ad7{d:Nat}:lF G (some d) ⟨t,h⟩ K Z (.amb p)= ∀ b,p b->K ⟨(d,.v (.bool b))::t,h⟩:=(rfl)
def ad8:lF G d ⟨t,h⟩ K Z (.pan x)=Z x ⟨apW t,h⟩:=(rfl)
def ad9{ids:List Nat}:wH np ids d ⟨t,h⟩ K Z c none=yC ids d ⟨t,h⟩ K Z c:=(rfl)
def abL{ids:List Nat}:yC ids d ⟨t,h⟩ K Z (some o)=(o.pre/\∀ r,o.post r->JK ids d ⟨t,h⟩ K Z (o.res r)):=(rfl)
def agd{ids:List Nat}:JK ids d ⟨t,h⟩ K Z (.pan x h')=Z x ⟨apW t,mE ids h.length h 0 h'⟩:=(rfl)
def age{ids:List Nat}:RV ids g d ⟨t,h⟩ K Z (.pan x h')=Z x ⟨apW t,mE ids h.length h 0 h'⟩:=(rfl)
def ad_{ids:List Nat}:Ei np ids ops g d ⟨t,h⟩ K Z c none=y5 ids ops g d ⟨t,h⟩ K Z c:=(rfl)
attribute[go_sem]agc ad7 ad8 ad9 abL agd age ad_
@[go_sem] def agf:= @jK.eq_7
@[go_sem] def agh:= @jK.eq_1
@[go_sem] def agi:= @jK.eq_2
@[go_sem] def agj:= @jK.eq_3
@[go_sem] def aea:= @jK.eq_4
@[go_sem] def agk:= @jK.eq_5
@[go_sem] def aeb:= @jK.eq_6
@[go_sem] def agl:= @drX.eq_1
@[go_sem] def agm:= @drX.eq_2
@[go_sem] def aiN:= @drB.eq_1
variable {C:List SV->Option Con}
@[go_sem]def aiO{rd:List Nat}:drB C rd []=none:=(rfl)
@[go_sem] theorem aiP{rd:List Nat}{a b:SV}{l:List SV}:drB C rd (a::b::l)=none:=by cases a <;>rfl
def arN{rd:List Nat}:drB C rd [.v x]=none:=(rfl)
def aiQ{rd:List Nat}{i:Nat}:drB C rd [.ptr i j]=none:=(rfl)
attribute[go_sem]arN aiQ
@[go_sem] def agn:= @X0.eq_1
def aec{i:Nat}{rd:List Nat}:X0 C i rd none=none:=(rfl)
def aed {b:Bool}:LU (.bool b)=true:=(rfl)
def ago{id:Nat}:jK G h nx (.yld id args)=none:=(rfl)
def agp:jK G h nx (.pan x)=none:=(rfl)
attribute[go_sem]aec aed ago agp
@[go_sem] def aiR:= @drC.eq_1
@[go_sem] def aiS:= @drR.eq_1
@[go_sem] def aiT:= @drR.eq_2
def aiU{rd:List Nat}{s:SV}{p:Prop}{o1 o2:Ob}{l:List Ob}:drR np rd nx p s (o1::o2::l)=none:=(rfl)
def aiV{rd:List Nat}{out:α->SV}:drC np rd nx (some (.rel α pre post out))=none:=(rfl)
def aiW{rd:List Nat}{s:SV}{ok:Bool}:drC np rd nx (some (.may ok s x))=none:=(rfl)
def agq{rd:List Nat}:drC np rd nx none=none:=(rfl)
attribute[go_sem]aiU aiV aiW agq
@[go_sem] def aee:= @sB.eq_1
variable {g:Option (Nat×Bool)}
@[go_sem]def akr {x:Operand}:val ⟨ts,ops,g,⟨t,h⟩,nx⟩ x=bH ops g (raw t x):=(rfl)
variable {cx:Cx}{x y a b:Operand}{ty n f:Nat}
@[go_sem] def agr:= @opS.eq_1
@[go_sem] def abM:= @opS.eq_2
variable {c:Operand}
def ags:opS ⟨ts,ops,g,⟨t,h⟩,nx⟩ (.pick c a b)=D_ a b (bH ops g (raw t c)) (ky ops g c true (raw t a)) (ky ops g c false (raw t b)):=(rfl)
def aef:opS ⟨ts,ops,g,⟨t,h⟩,nx⟩ (.alloc ty)=aJ ts ty λti=>JD nx (some ti.zero):=(rfl)
def aiX:opS ⟨ts,ops,g,⟨t,h⟩,nx⟩ (.box ty x)=JD nx (pg (bH ops g (raw t x))):=(rfl)
attribute[go_sem]ags aef aiX
variable {parts:List (Nat×Operand)}
def aeg:opS ⟨ts,ops,g,⟨t,h⟩,nx⟩ (.build ty parts.toArray)=aJ ts ty λti=>bif ti.apZ then aJ ts ti.elem λte=>Ol (lE (λi=>some (i*te.size,te.size)) ti.zero (iD ⟨ts,ops,g,⟨t,h⟩,nx⟩ parts))else bif ti.agg then Ol (lE (λi=>(nth ti.fields i).map λf=>(f.1,f.2.1)) ti.zero (iD ⟨ts,ops,g,⟨t,h⟩,nx⟩ parts))else .bad:=(rfl)
def UO:opS ⟨ts,ops,g,⟨t,h⟩,nx⟩ (.buildSlice ty n parts.toArray)=aJ ts ty λti=>aJ ts ti.elem λte=>Hg (JE ty ops g) nx te (bsS ti te n (iD ⟨ts,ops,g,⟨t,h⟩,nx⟩ parts)):=(rfl)
def agt:opS ⟨ts,ops,g,⟨t,h⟩,nx⟩ (.load ty a)=aJ ts ty λti=>qC ti h (bH ops g (raw t a)):=(rfl)
def aeh:opS ⟨ts,ops,g,⟨t,h⟩,nx⟩ (.store ty a x)=aJ ts ty λti=>rh ti.size nx h (bH ops g (raw t a)) (bH ops g (raw t x)):=(rfl)
def Yu:opS ⟨ts,ops,g,⟨t,h⟩,nx⟩ (.nilCheck x)=TK (bH ops g (raw t x)):=(rfl)
def aei {op:BinOp}:opS ⟨ts,ops,g,⟨t,h⟩,nx⟩ (.binOp op ty x y n)=Jy ts op ty (bH ops g (raw t x)) (bH ops g (raw t y)):=(rfl)
def agu {op:UnOp}:opS ⟨ts,ops,g,⟨t,h⟩,nx⟩ (.unOp op ty x)=unS op (bH ops g (raw t x)):=(rfl)
def aab:opS ⟨ts,ops,g,⟨t,h⟩,nx⟩ (.convert n ty x)=aJ ts n λ_=>aJ ts ty λti=>LM ti.int (bH ops g (raw t x)):=(rfl)
def Yv {fn:Fn}{first caps:List Operand}:opS cx (.makeFunc fn first.toArray caps.toArray)=LP fn (dm cx first) (dm cx caps):=(rfl)
attribute[go_sem]aeg UO agt aeh Yu aei agu aab Yv
def aac (k:SV):Option (Nat×Nat×Bool)->OR
 |some (o,n,_) =>bif Nat.ble 1 n then Ba o k else .bad|none=>.bad
@[go_sem] def abN:= @aac.eq_1
def Xx:opS ⟨ts,ops,g,⟨t,h⟩,nx⟩ (.fieldAddr ty x f)=aJ ts ty λti=>aac (bH ops g (raw t x)) (nth ti.fields f):=(rfl)
def aej:opS ⟨ts,ops,g,⟨t,h⟩,nx⟩ (.field ty x f)=aJ ts ty λti=>sw (nth ti.fields f) (zL (bH ops g (raw t x))):=(rfl)
def Xy:opS ⟨ts,ops,g,⟨t,h⟩,nx⟩ (.indexAddr ty x y)=aJ ts ty λti=>aJ ts ti.elem λte=>ii ti te.size h (bH ops g (raw t x)) (bH ops g (raw t y)):=(rfl)
def aek:opS ⟨ts,ops,g,⟨t,h⟩,nx⟩ (.panic x)=TR (bH ops g (raw t x)):=(rfl)
def QT:opS ⟨ts,ops,g,⟨t,h⟩,nx⟩ (.makeInterface ty x)=aJ ts ty λti=>bif ti.iface then .bad else Ec ty (bH ops g (raw t x)):=(rfl)
def UP {ok:Bool}:opS ⟨ts,ops,g,⟨t,h⟩,nx⟩ (.typeAssert x n ty ok)=aJ ts ty λti=>taS ty ok ti (bH ops g (raw t x)):=(rfl)
def aad:opS ⟨ts,ops,g,⟨t,h⟩,nx⟩ (.extract x n)=TQ n (bH ops g (raw t x)):=(rfl)
def Xz:opS ⟨ts,ops,g,⟨t,h⟩,nx⟩ (.makeSlice ty x y)=aJ ts ty λti=>aJ ts ti.elem λte=>bif ti.isSlice then(bif te.isSlice then aJ ts te.elem λtr=>Hh nx te tr (bH ops g (raw t x)) (bH ops g (raw t y))else mkS nx te (bH ops g (raw t x)) (bH ops g (raw t y)))else .bad:=(rfl)
attribute[go_sem]Xx aej Xy aek QT UP aad Xz
variable {lo hi:Option Operand}
def ael:opS ⟨ts,ops,g,⟨t,h⟩,nx⟩ (.slice ty x lo hi none)=aJ ts ty λti=>aJ ts ti.elem λte=>mH ti te.size nx h (ov ⟨ts,ops,g,⟨t,h⟩,nx⟩ lo) (ov ⟨ts,ops,g,⟨t,h⟩,nx⟩ hi) (Im hi&&LO ops) (bH ops g (raw t x)):=(rfl)
def agv{m:Operand}:opS ⟨ts,ops,g,⟨t,h⟩,nx⟩ (.slice ty x lo hi (some m))=aJ ts ty λti=>aJ ts ti.elem λ_=>Ef ti (ov ⟨ts,ops,g,⟨t,h⟩,nx⟩ lo) (ov ⟨ts,ops,g,⟨t,h⟩,nx⟩ hi) (bH ops g (raw t m)) (bH ops g (raw t x)):=(rfl)
def aae:opS ⟨ts,ops,g,⟨t,h⟩,nx⟩ (.makeMap ty none)=aJ ts ty λti=>mmR nx ti.mkt ti.mvt:=(rfl)
def abO {ok:Bool}:opS ⟨ts,ops,g,⟨t,h⟩,nx⟩ (.lookup ty x y ok)=aJ ts ty λti=>tI ti h ok (bH ops g (raw t y)) (bH ops g (raw t x)):=(rfl)
def XA:opS ⟨ts,ops,g,⟨t,h⟩,nx⟩ (.mapUpdate ty x y a)=aJ ts ty λti=>C4 ti h (bH ops g (raw t y)) (bH ops g (raw t a)) (bH ops g (raw t x)):=(rfl)
def abP:opS ⟨ts,ops,g,⟨t,h⟩,nx⟩ (.insert ty x y a)=aJ ts ty λti=>C4 ti h (bH ops g (raw t y)) (bH ops g (raw t a)) (bH ops g (raw t x)):=(rfl)
def Yw:opS ⟨ts,ops,g,⟨t,h⟩,nx⟩ (.mapEntry ty x y)=aJ ts ty λti=>yf ti nx h (bH ops g (raw t y)) (bH ops g (raw t x)):=(rfl)
def UQ:opS ⟨ts,ops,g,⟨t,h⟩,nx⟩ (.entryStore ty x y a)=aJ ts ty λti=>JH ti h (bH ops g (raw t a)) (bH ops g (raw t x)) (bH ops g (raw t y)):=(rfl)
attribute[go_sem]ael agv aae abO XA abP Yw UQ
variable {args:List Operand}
def agw{tys:Array TypeId}:opS ⟨ts,ops,g,⟨t,h⟩,nx⟩ (.call ⟨.value x,args.toArray,tys⟩)=zO (dm ⟨ts,ops,g,⟨t,h⟩,nx⟩ args) (bH ops g (raw t x)):=(rfl)
def aiY:opS ⟨ts,ops,g,⟨t,h⟩,nx⟩ (.call ⟨.builtin .len,args.toArray,[ty].toArray⟩)=aJ ts ty λti=>ua ti h (dm ⟨ts,ops,g,⟨t,h⟩,nx⟩ args):=(rfl)
def abQ:opS ⟨ts,ops,g,⟨t,h⟩,nx⟩ (.call ⟨.builtin .append,args.toArray,[ty,n].toArray⟩)=aJ ts ty λti=>aJ ts n λti2=>aJ ts ti.elem λte=>bif ti.isSlice&&ti2.isSlice then ml te nx h (dm ⟨ts,ops,g,⟨t,h⟩,nx⟩ args)else .bad:=(rfl)
def abR{tys:List TypeId}:opS ⟨ts,ops,g,⟨t,h⟩,nx⟩ (.call ⟨.builtin .delete,args.toArray,(ty::tys).toArray⟩)=aJ ts ty λti=>y3 ti h (dm ⟨ts,ops,g,⟨t,h⟩,nx⟩ args):=(rfl)
def aem:opS ⟨ts,ops,g,⟨t,h⟩,nx⟩ (.call ⟨.builtin .clear,args.toArray,[ty].toArray⟩)=aJ ts ty λti=>aJ ts ti.elem λte=>yZ ti te h (dm ⟨ts,ops,g,⟨t,h⟩,nx⟩ args):=(rfl)
attribute[go_sem]agw aiY abQ abR aem
variable {tys:Array TypeId}
def aiZ:opS cx (.call ⟨.builtin .min,args.toArray,tys⟩)=JF (dm cx args):=(rfl)
def ai0:opS cx (.call ⟨.builtin .max,args.toArray,tys⟩)=JG (dm cx args):=(rfl)
def aen:opS ⟨ts,ops,g,⟨t,h⟩,nx⟩ (.range ty x)=aJ ts ty λti=>Eg ti nx h (bH ops g (raw t x)):=(rfl)
def agx:opS ⟨ts,ops,g,⟨t,h⟩,nx⟩ (.next x false)=TY (bH ops g (raw t x)):=(rfl)
def aeo:opS ⟨ts,ops,g,⟨t,h⟩,nx⟩ (.entry x)=Cu h (bH ops g (raw t x)):=(rfl)
def aep:fpO ⟨ts,ops,g,⟨t,h⟩,nx⟩ (.range ty x)=(fM (bH ops g (raw t x)),[]):=(rfl)
def agy {s:Bool}:fpO cx (.next x s)=([],[]):=(rfl)
def aeq:fpO ⟨ts,ops,g,⟨t,h⟩,nx⟩ (.entry x)=(fM (bH ops g (raw t x))++T3 h (bH ops g (raw t x)),[]):=(rfl)
def agz:fpO ⟨ts,ops,g,⟨t,h⟩,nx⟩ (.load ty a)=(fM (bH ops g (raw t a)),[]):=(rfl)
def aer:fpO ⟨ts,ops,g,⟨t,h⟩,nx⟩ (.store ty a x)=(fM (bH ops g (raw t a))++fM (bH ops g (raw t x)),[]):=(rfl)
def XB:fpO ⟨ts,ops,g,⟨t,h⟩,nx⟩ (.indexAddr ty x y)=(fM (bH ops g (raw t x)),[]):=(rfl)
def aes{mx:Option Operand}:fpO ⟨ts,ops,g,⟨t,h⟩,nx⟩ (.slice ty x lo hi mx)=(fM (bH ops g (raw t x)),[]):=(rfl)
def abS {ok:Bool}:fpO ⟨ts,ops,g,⟨t,h⟩,nx⟩ (.lookup ty x y ok)=bif ok then(fM (bH ops g (raw t x)),[])else([],fM (bH ops g (raw t x))):=(rfl)
def XC:fpO ⟨ts,ops,g,⟨t,h⟩,nx⟩ (.mapUpdate ty x y a)=(fM (bH ops g (raw t x)),[]):=(rfl)
def abT:fpO ⟨ts,ops,g,⟨t,h⟩,nx⟩ (.insert ty x y a)=(fM (bH ops g (raw t x)),[]):=(rfl)
def Yx:fpO ⟨ts,ops,g,⟨t,h⟩,nx⟩ (.mapEntry ty x y)=(fM (bH ops g (raw t x)),[]):=(rfl)
def UR:fpO ⟨ts,ops,g,⟨t,h⟩,nx⟩ (.entryStore ty x y a)=(fM (bH ops g (raw t x)),[]):=(rfl)
def ai1:fpO ⟨ts,ops,g,⟨t,h⟩,nx⟩ (.call ⟨.builtin .len,args.toArray,tys⟩)=(ph (dm ⟨ts,ops,g,⟨t,h⟩,nx⟩ args),[]):=(rfl)
def abU:fpO ⟨ts,ops,g,⟨t,h⟩,nx⟩ (.call ⟨.builtin .append,args.toArray,tys⟩)=(ph (dm ⟨ts,ops,g,⟨t,h⟩,nx⟩ args),[]):=(rfl)
def abV:fpO ⟨ts,ops,g,⟨t,h⟩,nx⟩ (.call ⟨.builtin .delete,args.toArray,tys⟩)=(ph (dm ⟨ts,ops,g,⟨t,h⟩,nx⟩ args),[]):=(rfl)
def aet:fpO ⟨ts,ops,g,⟨t,h⟩,nx⟩ (.call ⟨.builtin .clear,args.toArray,tys⟩)=(ph (dm ⟨ts,ops,g,⟨t,h⟩,nx⟩ args),[]):=(rfl)
def agA:fpO cx (.move x)=([],[]):=(rfl)
def abW:fpO cx (.assign x)=([],[]):=(rfl)
def agB:fpO cx (.pick x a b)=([],[]):=(rfl)
def aeu:fpO cx (.alloc ty)=([],[]):=(rfl)
def ai2:fpO cx (.box ty x)=([],[]):=(rfl)
attribute[go_sem]aiZ ai0 aen agx aeo aep agy aeq agz aer XB aes abS XC abT Yx UR ai1 abU abV aet agA abW agB aeu ai2
variable {parts:Array (Nat×Operand)}
def aev:fpO cx (.build ty parts)=([],[]):=(rfl)
def US:fpO cx (.buildSlice ty n parts)=([],[]):=(rfl)
def Yy:fpO cx (.nilCheck x)=([],[]):=(rfl)
def aew {op:BinOp}:fpO cx (.binOp op ty x y n)=([],[]):=(rfl)
def agC {op:UnOp}:fpO cx (.unOp op ty x)=([],[]):=(rfl)
def aaf:fpO cx (.convert n ty x)=([],[]):=(rfl)
def Yz {fn:Fn}{first caps:Array Operand}:fpO cx (.makeFunc fn first caps)=([],[]):=(rfl)
def XD:fpO cx (.fieldAddr ty x f)=([],[]):=(rfl)
def aex:fpO cx (.field ty x f)=([],[]):=(rfl)
def aey:fpO cx (.panic x)=([],[]):=(rfl)
def QU:fpO cx (.makeInterface ty x)=([],[]):=(rfl)
def UT {ok:Bool}:fpO cx (.typeAssert x n ty ok)=([],[]):=(rfl)
def aag:fpO cx (.extract x n)=([],[]):=(rfl)
def XE:fpO cx (.makeSlice ty x y)=([],[]):=(rfl)
def aah {o:Option Operand}:fpO cx (.makeMap ty o)=([],[]):=(rfl)
attribute[go_sem]aev US Yy aew agC aaf Yz XD aex aey QU UT aag XE aah
variable {args:Array Operand}
def agD:fpO cx (.call ⟨.value x,args,tys⟩)=([],[]):=(rfl)
def ai3:fpO cx (.call ⟨.builtin .min,args,tys⟩)=([],[]):=(rfl)
def ai4:fpO cx (.call ⟨.builtin .max,args,tys⟩)=([],[]):=(rfl)
attribute[go_sem]agD ai3 ai4
@[go_sem] theorem aez {k:TI->OR}:aJ ts ty k=Pa k (ts ty):=by unfold aJ Pa;cases ts ty <;>rfl
@[go_sem] def abX:= @Pa.eq_1
@[go_sem] def aai:= @ky.eq_1
variable {want:Bool}
def YA:ky ops g c want .any=.any:=(rfl)
def abY{v:Value}:ky ops g c want (.v v)=.v v:=(rfl)
attribute[go_sem]YA abY
@[go_sem] def ai5:= @D_.eq_1
@[go_sem] def ai6:= @D_.eq_2
@[go_sem] def ai7:= @D_.eq_3
@[go_sem] def aeA:= @wJ.eq_1
@[go_sem]def aeB {t:List (Nat×SV)}{h:List Ob}:aqq ⟨t,h⟩=bif nP h then ⟨Ot h t,yD h⟩else ⟨t,h⟩:=(rfl)
@[go_sem] def ai8:= @raw.eq_1
@[go_sem] def aeC:= @raw.eq_2
@[go_sem] def agE:= @raw.eq_3
@[go_sem] theorem aks {n:Nat}{s:SV}{r:List (Nat×SV)}:lk n ((n,s)::r)=s:=by simp[lk]
@[go_sem] def ai9:= @lk.eq_2
@[go_sem] def akt:= @lk.eq_1
@[go_sem] def ai_:= @bH.eq_3
@[go_sem] def aeD:= @bH.eq_2
@[go_sem] def aeE:= @bH.eq_4
@[go_sem] def agF:= @bH.eq_5
@[go_sem] def agG:= @bH.eq_21
@[go_sem] def agH:= @bH.eq_6
@[go_sem] def agI:= @bH.eq_7
@[go_sem] def agJ:= @bH.eq_8
@[go_sem] def agK:= @bH.eq_9
@[go_sem] def agL:= @bH.eq_10
@[go_sem] def agM:= @bH.eq_11
@[go_sem] def agN:= @bH.eq_12
@[go_sem] def agO:= @bH.eq_13
@[go_sem] def agP:= @bH.eq_14
@[go_sem] def aeF:= @bH.eq_15
@[go_sem] def aeG:= @bH.eq_16
@[go_sem] def agQ:= @bH.eq_17
@[go_sem] def agR:= @bH.eq_1
end
section
variable {ti te:TI}{esz nx id id2 off:Nat}{h:List Ob}{k k2:Tag}{i j n c:Int}{kk kj:IntKind}{lo hi:Option SV}{key s:SV}{ok:Bool}{ts:Tis}{op:BinOp}{ty:Nat}
@[go_sem] def asF:= @one.eq_1
@[go_sem]def asG {α:Type}{x y:α}{l:List α}:one (x::y::l)=false:=(rfl)
@[go_sem] def aja:= @Hg.eq_1
variable {g:Option (Nat×Bool)}
def ajb{s:Nat}{l:List SV}:Hg g nx te (.apY (.ls s l))=.apY (.ls s l):=(rfl)
def ajc:Hg g nx te (.apY .e0)=.apY .e0:=(rfl)
def agS {a b:Int}:Jy ts op ty (.v (.int kk a)) (.v (.int kj b))=bif Ct op kk kj then uo op kk a b else .bad:=(rfl)
attribute[go_sem]ajb ajc agS
variable {l:List k.T}
def ajd:Jy ts op ty (.rs k l) (.v (.slice none 0 0))=aJ ts ty λti=>bif ti.isSlice then XL op (l=[])else .bad:=(rfl)
def agT {a b:ByteArray}:Jy ts op ty (.v (.string a)) (.v (.string b))=aJ ts ty λti=>bif Nat.beq ti.sc 2 then Qm op a b else .bad:=(rfl)
def aeH {a b:Bool}:Jy ts op ty (.v (.bool a)) (.v (.bool b))=aJ ts ty λti=>bif Nat.beq ti.sc 3 then Jx op a b else .bad:=(rfl)
def agU {a b:List SV}:Jy ts op ty (.agg a) (.agg b)=aJ ts ty λti=>eqT op a b ti:=(rfl)
attribute[go_sem]ajd agT aeH agU
@[go_sem] def aeI:= @ii.eq_1
@[go_sem] def aeJ:= @ii.eq_2
@[go_sem] def aeK:= @ii.eq_3
@[go_sem] def aeL:= @ii.eq_4
@[go_sem] def abZ:= @ii.eq_5
@[go_sem] def aeM:= @ii.eq_6
@[go_sem] def aeN:= @ii.eq_7
@[go_sem] def aje:= @ua.eq_1
@[go_sem] def agV:= @ua.eq_2
@[go_sem] def ajf:= @ua.eq_4
@[go_sem] def ajg:= @ua.eq_3
@[go_sem] def ajh:= @ua.eq_5
@[go_sem] def aji:= @ua.eq_6
@[go_sem] def ajj:= @ua.eq_7
def agW{a b:Int}:Ef ti none (some (.v (.int .i64 a))) (.v (.int .i64 b)) (.rs k l)=bif ti.isSlice then .chk (a=(l.length:Int)/\b=(l.length:Int)) (.rc k l)else .bad:=(rfl)
def aeO:Ef ti none (some (.v (.int .i64 0))) (.v (.int .i64 0)) (.v (.slice none 0 0))=bif ti.isSlice then .val (.v (.slice none 0 0))else .bad:=(rfl)
attribute[go_sem]agW aeO
@[go_sem] def aeP:= @mH.eq_1
@[go_sem] def aeQ:= @mH.eq_2
@[go_sem] def ab0:= @TV.eq_1
@[go_sem] def agX:= @bnd.eq_1
@[go_sem] def agY:= @bnd.eq_2
@[go_sem] def aeR:= @XT.eq_1
@[go_sem] def aeS:= @XU.eq_1
@[go_sem] def ajk:= @mkS.eq_1
@[go_sem] def ajl:= @ml.eq_1
@[go_sem] def ajm:= @ml.eq_2
def aeT:ml te nx h [.os id,(.rs k l)]=wh te nx [(id,.dead)] h (.rs k l) (ap h id):=(rfl)
def aeU:ml te nx h [.v (.slice none 0 0),(.rs k l)]=u_ te nx h (.rs k l) te.tag:=(rfl)
attribute[go_sem]aeT aeU
@[go_sem] def ajn:= @ml.eq_7
@[go_sem] def ajo:= @XQ.eq_1
def aeV:ml te nx h [.e0,(.rs k l)]=u_ te nx h (.rs k l) te.tag:=(rfl)
def ab1:ml te nx h [.os id,(.v (.slice none 0 0))]=wh te nx [(id,.dead)] h (.v (.slice none 0 0)) (ap h id):=(rfl)
def ab2:ml te nx h [.v (.slice none 0 0),(.v (.slice none 0 0))]=u_ te nx h (.v (.slice none 0 0)) te.tag:=(rfl)
def ab3:ml te nx h [.e0,(.v (.slice none 0 0))]=u_ te nx h (.v (.slice none 0 0)) te.tag:=(rfl)
def aeW:ml te nx h [.os id,.e0]=wh te nx [(id,.dead)] h .e0 (ap h id):=(rfl)
def aeX:ml te nx h [.v (.slice none 0 0),.e0]=u_ te nx h .e0 te.tag:=(rfl)
def aeY:ml te nx h [.e0,.e0]=u_ te nx h .e0 te.tag:=(rfl)
def aeZ {s:Nat}{lo hi:Int}:ml te nx h [.os id,(.vw s id2 lo hi)]=wh te nx [(id,.dead)] h (.vw s id2 lo hi) (ap h id):=(rfl)
def ae0 {s:Nat}{lo hi:Int}:ml te nx h [.v (.slice none 0 0),(.vw s id2 lo hi)]=u_ te nx h (.vw s id2 lo hi) te.tag:=(rfl)
def ae1 {s:Nat}{lo hi:Int}:ml te nx h [.e0,(.vw s id2 lo hi)]=u_ te nx h (.vw s id2 lo hi) te.tag:=(rfl)
attribute[go_sem]aeV ab1 ab2 ab3 aeW aeX aeY aeZ ae0 ae1
@[go_sem] def ae2:= @ml.eq_3
@[go_sem] def agZ:= @XP.eq_1
def ae3:ml te nx h [.v (.slice none 0 0),(.os id2)]=u_ te nx h (.os id2) te.tag:=(rfl)
def ae4:ml te nx h [.e0,(.os id2)]=u_ te nx h (.os id2) te.tag:=(rfl)
attribute[go_sem]ae3 ae4
@[go_sem] theorem ab4:zP k k l=some l:=by simp[zP]
@[go_sem] def ajp:= @ur.eq_1
@[go_sem] def ag0:= @ur.eq_2
@[go_sem] def ajq:= @ur.eq_3
@[go_sem] def ajr:= @ur.eq_4
@[go_sem] def ajs:= @ur.eq_5
@[go_sem] def ag1:= @tI.eq_1
@[go_sem] def ag2:= @tI.eq_2
@[go_sem] def ae5:= @tI.eq_3
@[go_sem] def ajt:= @JH.eq_1
def ag3:A9 (.v (.int kk n))=some [(.v (.int kk n))]:=(rfl)
def ag4 {b:ByteArray}:A9 (.v (.string b))=some [.v (.string b)]:=(rfl)
def ae6 {b:Bool}:A9 (.v (.bool b))=some [.v (.bool b)]:=(rfl)
def aju:A9 (.rs k l)=some [.rs k l]:=(rfl)
def ajv {l:List (k.T×k2.T)}:A9 (.rm k k2 l)=some [.rm k k2 l]:=(rfl)
def ajw:A9 .e0=some [.e0]:=(rfl)
def ag5:A9 (.v (.slice none 0 0))=some [.v (.slice none 0 0)]:=(rfl)
def ae7:A9 (.v (.map none))=some [.v (.map none)]:=(rfl)
attribute[go_sem]ag3 ag4 ae6 aju ajv ajw ag5 ae7
@[go_sem] def ae8:= @taS.eq_1
end
@[go_sem]def asL (a b:Nat):Nat.beq a b=(a==b):=by
 rw[amo];simp
@[go_sem]def asI (a b:Nat):Nat.ble a b=decide (a<=b):=by
 rw[amo];simp
@[go_sem]def asK (a b:Nat):Nat.blt a b=decide (a<b):=by
 rw[amo];simp[Nat.blt];omega
section
variable {σ:Type}{D:σ->St}{I:σ->Prop}{m:σ->Nat}{x:σ}{id n0:Nat}{Q:Ex->St->Prop}{st:St}{rs:List ResultVar}{post:SV->Prop}{ts:Tis}{pp:Value->Prop}{C:apd}{md:Bool}
@[go_sem] def XF:= @ve.eq_1
@[go_sem] def aaj:= @ve.eq_2
@[go_sem] def ab5:= @ve.eq_3
@[go_sem] def ab6:= @ve.eq_4
@[go_sem] def XG:= @iK.eq_1
@[go_sem] def ae9:= @Ep.eq_3
@[go_sem] def YB:= @Ep.eq_2
@[go_sem] def ae_:= @Ep.eq_4
@[go_sem] def YC:= @LW.eq_2
@[go_sem] def afa:= @LW.eq_3
@[go_sem] def afb:= @LW.eq_4
@[go_sem] def ab7:= @Er.eq_1
@[go_sem]def aku {js:List Nat}{t t2:List (Nat×SV)}{h h2:List Ob}:Sub js n0 ⟨t,h⟩ ⟨t2,h2⟩=((uniq (mm js h2)=true/\Bc 0 js n0=true/\js.all (λj=>Nat.blt j h.length)=true)/\RY (Eo js) h2.length t t2/\Hi (Eo js) h2.length h js h2):=(rfl)
end
attribute [go_sem] TU On
attribute [go_sem] decide_true decide_false cond_true cond_false List.any_cons List.any_nil Option.isSome_none Option.isSome_some Bool.or_false Bool.false_or Bool.or_true Bool.true_or Bool.and_true Bool.true_and Bool.and_false Bool.false_and Bool.not_true Bool.not_false List.length_cons List.length_nil List.map_cons List.map_nil List.flatMap_cons List.flatMap_nil List.append_nil List.isEmpty_nil List.isEmpty_cons Option.map_some Option.map_none Option.bind_some Option.getD_some Option.getD_none Option.toList_some Option.toList_none List.cons_append List.nil_append Nat.zero_add Nat.add_zero Nat.zero_mul Nat.mul_one Nat.one_mul
 rJ C2 nth LL uo Ct XL Qm Jx eqV yY eqL eqO eqT aaN kN zL unS uq qC zN Ea A_ Ba Jz Od Oe lE rG C3 sw Og JA Oh Oi Oj rg rh Eb TJ JB Hh XS XR nP Qv yD aa5 Ot T7 aa4 TK LM JD Ol TL lsS bsT bsU afW osL osV XM aaT ZN bsG bsS noG TQ zO XN aaV aaU JF JG TR Ec LP TS aaW TW TT wh Ed Ee XO u_ mkT XV Il lq Im noE Qr TX aaY aaZ C4 RQ RR yf aa0 aa1 aa2 aa3 y3 aaX yZ Qq mmR zsO svT Cs unT ot afO
 dO gi wG XX Qu T4 frz XY RS fD apW c8 i6 aS ri iE fA T5 reach C5 y4 zR ren va Oo inN rK rH j6 mE ap cm bb fe fM JI ph j5 RU zQ afR afS TM Qn TN afT aaP Om Qo LN TO aaQ LO afU aaR TP aaS afV Qp ZM JE fpU In pg cut LK sz rf D8 gK cellsOf ou vY d_ fit ul toI toB toS toF fnV uh wz wA ui wB zH wC D3 LB yW A5 A6 LD vW Ii LF zI yz uj Qi Cq tG tH LG zJ Cr Ij Ik D4 vX yA uk Qj lD j_ wD
 at0 mkE LH ye A7 yX zG et aa D9 zM dm iD ov X3 RW LV pi rj afZ El wK yE Cw ZQ vb uniq RX Em XW Eg TY TZ Qs Cu T3 T0 ann Of u9 List.all_cons List.all_nil ao8 LA RY Hi JN Qw wkL En unp dx v7 mF mm Bc Eo
end Go.Sx
end
section
namespace Go.Sx
open IntKind (i64)
open Go.RowKit
universe u
variable {P:Program}
def ae (f:Func):Code:=match f.body with|some c=>c|none=>.skip
def L0:vZ:=λ_ _=>none
@[go_sem] def ajx:= @L0.eq_1
def mkP:List (Nat×(List SV->Option Con))->FuncId->List SV->Option Con
 | [],_,_=>none|(n,C)::r,f,l=>bif Nat.beq n f then C l else mkP r f l
def mkO:List (Nat×(List SV->List Ob->Option apd))->FuncId->List SV->List Ob->Option apd
 | [],_,_,_=>none|(n,C)::r,f,l,h=>bif Nat.beq n f then C l h else mkO r f l h
theorem Pb:∀ (E:List (Nat×(List SV->Option Con))),(∀ x∈E,zs P x.1 x.2)->∀ f,zs P f (mkP E f)
 | [],_,f=>⟨λl c h=>(by cases h),λl c h=>(by cases h)⟩
 |(n,C)::r,h,f=>by
  have U:=Pb r (λx O=>h x (by simp[O])) f;cases V:Nat.beq n f with
  |false=>
   simp_all [mkP]
  |true=>
   simp_all [mkP]
theorem Pc:∀ (E:List (Nat×(List SV->List Ob->Option apd))),(∀ x∈E,ape P x.1 x.2)->∀ f,ape P f (mkO E f)
 | [],_,f=>⟨λl h c hc=>(by cases hc),λl h c hc=>(by cases hc)⟩
 |(n,C)::r,h,f=>by
  have U:=Pc r (λx O=>h x (by simp[O])) f;cases V:Nat.beq n f with
  |false=>
   simp_all [mkO]
  |true=>
   simp_all [mkO]
def noY:List SV->Res->Option aqo:=λ_ _=>none
theorem ab8:YOk P noY:=λl r c h=>(by cases h)
def mkG (ps:List (Nat×(List SV->Option Con)))(os:List (Nat×(List SV->List Ob->Option apd))):Cons:=⟨mkP ps,mkO os,noY⟩
def oz {O:List (Nat×(List SV->Option Con))}{E:List (Nat×(List SV->List Ob->Option apd))}(h1:∀ x∈O,zs P x.1 x.2)(h2:∀ x∈E,ape P x.1 x.2):X2 P (mkG O E):=⟨Pb O h1,Pc E h2,ab8⟩
variable {ps:List (Nat×(List SV->Option Con))}{os:List (Nat×(List SV->List Ob->Option apd))}
def arH:(mkG ps os).p=mkP ps:=(rfl)
def arF:(mkG ps os).o=mkO os:=(rfl)
attribute[go_sem]arH arF
@[go_sem] def ajy:= @mkP.eq_1
@[go_sem] def ag6:= @mkP.eq_2
@[go_sem] def ajz:= @mkO.eq_1
@[go_sem] def ag7:= @mkO.eq_2
section
variable {α:Type u}
def pI (k:Int->List SV->Option α):List SV->Option α
 | .v (.int .i64 n)::r=>k n r|_=>none
def pU (k:Int->List SV->Option α):List SV->Option α
 | .v (.int .u64 n)::r=>k n r|_=>none
def pB (k:Bool->List SV->Option α):List SV->Option α
 | .v (.bool b)::r=>k b r|_=>none
def pS (k:ByteArray->List SV->Option α):List SV->Option α
 | .v (.string b)::r=>k b r|_=>none
def IL (t:Tag)(k:List t.T->List SV->Option α)(r:List SV)(k':Tag)(l:List k'.T):Option α:=if h:k'=t then k (h▸l) r else none
def pR (t:Tag)(k:List t.T->List SV->Option α):List SV->Option α
 | .rs k' l::r=>IL t k r k' l|_=>none
def pDo {T:Type}(k:T->List SV->Option α)(r:List SV):Option T->Option α
 |some x=>k x r|none=>none
def pD (t:Tag)(k:t.T->List SV->Option α):List SV->Option α
 | .agg l::r=>pDo k r (vY t l)|_=>none
def pX (t:Tag)(k:t.T->List SV->Option α):List SV->Option α
 | .ep l 0::r=>pDo k r (vY t l)|_=>none
def UU (t t2:Tag)(k:List (t.T×t2.T)->List SV->Option α)(r:List SV)(k' k2:Tag)(l:List (k'.T×k2.T)):Option α:=if h:k'=t/\k2=t2 then k (h.1▸h.2▸l) r else none
def pM (t t2:Tag)(k:List (t.T×t2.T)->List SV->Option α):List SV->Option α
 | .rm k' k2 l::r=>UU t t2 k r k' k2 l|_=>none
def pE (c:α):List SV->Option α
 | [] =>some c|_=>none
variable {k:Int->List SV->Option α}{kb:Bool->List SV->Option α}{ks:ByteArray->List SV->Option α}{r:List SV}{c:α}{t:Tag}
@[go_sem] def ajA:= @pI.eq_1
@[go_sem] def ajB:= @pU.eq_1
@[go_sem] def ajC:= @pB.eq_1
@[go_sem] def ajD:= @pS.eq_1
@[go_sem] theorem ajE {kr:List t.T->List SV->Option α}{l:List t.T}:pR t kr (.rs t l::r)=kr l r:=by simp[pR,IL]
@[go_sem] def ajF:= @pD.eq_1
@[go_sem] def ajG:= @pX.eq_1
@[go_sem] theorem ajH {t2:Tag}{kr:List (t.T×t2.T)->List SV->Option α}{l:List (t.T×t2.T)}:pM t t2 kr (.rm t t2 l::r)=kr l r:=by simp[pM,UU]
@[go_sem] def ag8:= @pDo.eq_1
@[go_sem] def akv:= @pE.eq_1
variable {l:List SV}
theorem UV{c:α}(h:pI k l=some c):∃ n r,l=.v (.int .i64 n)::r/\k n r=some c:=by
 unfold pI at h;grind
theorem Kg{c:α}(h:pU k l=some c):∃ n r,l=.v (.int .u64 n)::r/\k n r=some c:=by
 unfold pU at h;grind
theorem ab9{c:α}(h:pB kb l=some c):∃ n r,l=.v (.bool n)::r/\kb n r=some c:=by
 unfold pB at h;grind
theorem wW{c E:α}(h:pE E l=some c):l=[]/\c=E:=by
 grind [pE]
theorem ab_{kr:List t.T->List SV->Option α}{c:α}(h:pR t kr l=some c):∃ x r,l=.rs t x::r/\kr x r=some c:=by
 unfold pR at h;grind [IL]
variable {kd:t.T->List SV->Option α}
theorem UW{c:α}(h:pX t kd l=some c):∃ x r,l=.ep (cellsOf t x) 0::r/\kd x r=some c:=by
 unfold pX at h;split at h;rename_i l' r;cases E:vY t l' with
 |none=>rw[E]at h;cases h
 |some x=>rw[E]at h;exact⟨x,r,by rw[qH E],h⟩
 cases h
theorem UX{t2:Tag}{kr:List (t.T×t2.T)->List SV->Option α}{c:α}(h:pM t t2 kr l=some c):∃ x r,l=.rm t t2 x::r/\kr x r=some c:=by
 unfold pM at h;split at h;rename_i k' k2 l' r;unfold UU at h;grind
 cases h
theorem Kh{c:α}(h:pD t kd l=some c):∃ x r,l=.agg (cellsOf t x)::r/\kd x r=some c:=by
 unfold pD at h;split at h;rename_i l' r;cases E:vY t l' with
 |none=>rw[E]at h;cases h
 |some x=>rw[E]at h;exact⟨x,r,by rw[qH E],h⟩
 cases h
end
section
variable {F:Nat->Prop}{own:Own}{w:World}
theorem E4 {p:Pk}{s:SV}{v:Value}(h:Rel F own w s v):Rel F own w (A7 p s) v:=by
 unfold A7;split;cases h with
 |agg V h1=>
  refine .agg (by grind [zV]) λj s O=>?_;obtain⟨s0,U,E| ⟨k,E⟩⟩:=uw _ _ _ _ O;grind
  subst E;exact ox (h1 j _ U)
 exact ox h;exact ox h;exact h
theorem E5:∀ (E:List Pk) (l:List SV),(yX E l).length=l.length
 | [],l=>by simp[yX]
 |k::ks,[] =>by simp[yX]
 |k::ks,s::r=>by simp[yX,E5 ks r]
theorem E6:∀ (E:List Pk) (l:List SV) (j:Nat) (s:SV),(yX E l)[j]? =some s->∃ s0,l[j]? =some s0/\(s=s0\/∃ p,s=A7 p s0)
 | [],l,j,s,h=>⟨s,by grind [yX],.inl rfl⟩
 |k::ks,[],j,s,h=>by simp[yX]at h
 |k::ks,x::r,0,s,h=>by grind [yX]
 |k::ks,x::r,j+1,s,h=>by simp[yX]at h;simpa using E6 ks r j s h
theorem zs.norm {f:FuncId}{C:List SV->Option Con}(X:List Pk)(h:zs P f C):zs P f (λl=>C (yX X l)):=
 ⟨λl c hc=>h.enter _ c hc,λl c hc O F w vs Y E=>h.calls _ c hc O F w vs Y ⟨by rw[E5];exact E.1,λj s W=>by
  obtain⟨s0,V,U| ⟨p,U⟩⟩:=E6 _ _ _ _ W;subst U;exact E.2 j _ V;subst U;exact E4 (E.2 j _ V)⟩⟩
end
attribute [go_sem] dL ke nY
attribute [go_sem] vY
def noH {α:Type 1}:List Ob->Option α->Option α
 | [],x=>x|_,_=>none
@[go_sem] def ajI:= @noH.eq_1
theorem QV {α:Type 1}{h:List Ob}{x:Option α}{c:α}(E:noH h x=some c):h=[]/\x=some c:=by
 cases h with
 |nil=>exact⟨rfl,E⟩|cons=>cases E
theorem aA {n:Int}(h1: -9223372036854775808<=n)(h2:n<9223372036854775808):i64.wrap n=n:=by
 simp[IntKind.wrap,IntKind.bits,IntKind.signed];omega
end Go.Sx
end
section
namespace Go.Sx
open Go.RowKit
def aj {ρ σ:Type}(step:Nat->σ->ρ⊕σ):Nat->Nat->σ->ρ⊕σ
 |0,_,s=>.inr s
 |n+1,i,s=>match step i s with
  | .inl r=>.inl r| .inr s'=>aj step n (i+1) s'
def di {ρ σ τ:Type}(step:τ->σ->ρ⊕σ):List τ->σ->ρ⊕σ
 | [],s=>.inr s
 |x::l,s=>match step x s with
  | .inl r=>.inl r| .inr s'=>di step l s'
theorem IM {ρ σ τ:Type}(f:τ->σ->ρ⊕σ)(d:τ):∀ (l pre:List τ) (s:σ),aj (λi s=>f ((pre++l).getD i d) s) l.length pre.length s=di f l s
 | [],_,_=>rfl
 |x::l,pre,s=>by
  simp only[alL,aj,di];have e:(pre++x::l).getD pre.length d=x:=by simp
  rw[e];cases f x s with
  |inl r=>rfl
  |inr s'=>
   have:=IM f d l (pre++[x]) s';grind
def rP {ρ σ τ:Type}(f:τ->σ->ρ⊕σ)(d:τ)(l:List τ)(s:σ):aj (λi s=>f (l.getD i d) s) l.length 0 s=di f l s:=IM f d l [] s
def LC {ρ σ:Type}(pre:Prop)(run:ρ⊕σ)(exE:ρ->Ex)(P1:ρ->St)(ao_:σ->St):apN:=
 {α:=ρ⊕σ,pre:=pre,post:=λr=>r=run,ex:=λr=>match r with| .inl x=>exE x| .inr _=>.normal,out:=λr=>match r with| .inl x=>P1 x| .inr s=>ao_ s}
@[go_sem] theorem Mv {ρ σ:Type}{pre:Prop}{run:ρ⊕σ}{exE:ρ->Ex}{P1:ρ->St}{ao_:σ->St}{Q:Ex->St->Prop}:
  rI Q (some (LC pre run exE P1 ao_))=(pre/\(∀ x,run=.inl x->Q (exE x) (P1 x))/\∀ s,run=.inr s->Q .normal (ao_ s)):=by
 apply propext;constructor
 rintro⟨h1,h2⟩;exact⟨h1,λx hx=>h2 (.inl x) hx.symm,λs hs=>h2 (.inr s) hs.symm⟩;rintro⟨h1,h2,h3⟩;refine⟨h1,λr hr=>?_⟩;cases r with
 |inl x=>exact h2 x hr.symm|inr s=>exact h3 s hr.symm
section
variable {P:Program}{ρ σ:Type}
def YD (step:Nat->σ->ρ⊕σ)(n:Nat)(exE:ρ->Ex)(P1:ρ->St)(ao_:σ->St)(n0 k:Nat)(s:σ)(e:Ex)(st:St):Prop:=
 (∃ js,n<=k/\e=.normal/\n0<=(ao_ s).h.length/\Sub js n0 st (ao_ s))\/∃ x js,k<n/\step k s=.inl x/\exE x=e/\n0<=(P1 x).h.length/\Sub js n0 st (P1 x)
def Ki (step:Nat->σ->ρ⊕σ)(n:Nat)(exE:ρ->Ex)(P1:ρ->St)(ao_:σ->St)(D:Nat->σ->St)(J:Nat->σ->Prop)(n0 id k:Nat)(s:σ):Ex->St->Prop
 | .normal,st=>k<n/\∃ s' js,step k s=.inr s'/\J (k+1) s'/\n0<=(D (k+1) s').h.length/\Sub js n0 st (D (k+1) s')| .exit j,st=>bif Nat.beq j id then YD step n exE P1 ao_ n0 k s .normal st else YD step n exE P1 ao_ n0 k s (.exit j) st| .ret,st=>YD step n exE P1 ao_ n0 k s .ret st| .pan x,st=>YD step n exE P1 ao_ n0 k s (.pan x) st
variable {step:Nat->σ->ρ⊕σ}{n n0 id k j:Nat}{exE:ρ->Ex}{P1:ρ->St}{ao_:σ->St}{D:Nat->σ->St}{J:Nat->σ->Prop}{s:σ}{st:St}{x:Value}
@[go_sem] def XH:= @Ki.eq_1
@[go_sem] def aak:= @Ki.eq_2
@[go_sem] def aca:= @Ki.eq_3
@[go_sem] def acb:= @Ki.eq_4
end
def itY (items:List (List SV))(r:Nat->Res):List SV->Res->Option aqo:=λargs x=>
 some { α:=Bool,pre:=x=r x.n/\1<=x.n/\items[x.n - 1]? =some args,post:=λ_=>True,res:=λb=>(b,r (if b then x.n+1 else 0))}
def Af (P:Program)(f:FuncId)(mk:SV->List SV)(hs:List Ob)(items:List (List SV)):Prop:=
 (∀ (args:Array Value) (w:World),(callFunc f args).run P w=.ok (.enter f args) w)/\
 ∀ r:Nat->Res,(∀ k,(r k).n=k)->YOk P (itY items r)->∀ (F:Nat->Prop) (own:Own) (w:World) (vs:Array Value),Hp F own w (.ab (r 1)::hs)->apx F own w (mk (.os 0)) vs->
  Calls P f vs w (λe w'=>∃ u bn j h',e=.returned u/\(j=0\/j=items.length+1)/\Hp F bn w' (.ab (r j)::h')/\Fr { w:=w,own:=own} bn w')
variable {items:List (List SV)}
theorem QW{P:Program}{f:FuncId}{U:SV->List SV}{V:List Ob}
  (h:∀ r:Nat->Res,(∀ k,(r k).n=k)->YOk P (itY items r)->∃ C,ape P f C/\∃ c,C (U (.os 0)) (.ab (r 1)::V)=some c/\c.pre/\∀ x,c.post x->∃ s j h',c.res x=.ret s (.ab (r j)::h')/\(j=0\/j=items.length+1))
  (he:∀ (args:Array Value) (w:World),(callFunc f args).run P w=.ok (.enter f args) w):Af P f U V items:=by
 refine⟨he,λr X hy F own w vs hp E=>?_⟩;obtain⟨C,hC,c,h1,h2,h3⟩:=h r X hy;refine(hC.calls _ _ c h1 h2 F own w vs hp E).mono ?_;rintro e w' ⟨x,bn,W,O⟩;obtain⟨s,j,h',Y,k2⟩:=h3 x W;rw[Y]at O;obtain⟨⟨u,rfl,_⟩,q3,q4,_⟩:=O;grind
def Mw (pre:Prop)(r:Nat->Res)(m:Nat):aqo:= { α:=Bool,pre:=pre,post:=λ_=>True,res:=λb=>(b,r (if b then m else 0))}
theorem E7{r:Nat->Res}(E:∀ k,(r k).n=k)(k:Nat)(args:List SV):itY items r args (r (k+1))=some (Mw (items[k]? =some args) r (k+2)):=by
 grind [itY,Mw]
section
variable {id m:Nat}{t:List (Nat×SV)}{h:List Ob}{K:St->Prop}{pre:Prop}{r:Nat->Res}{ops:List Oper}{g:Nat×Bool}
theorem two {p:Bool->Prop}:(∀ b,p b)=(p true/\p false):=propext ⟨λh=>⟨h true,h false⟩,λh b=>by
 cases b <;>grind⟩
@[go_sem] theorem ajJ {d:Nat}:Oq id (some d) ⟨t,h⟩ K (some (Mw pre r m))=(pre/\K ⟨(d,.b true)::t,cm h id (.ab (r m))⟩/\K ⟨(d,.b false)::t,cm h id (.ab (r 0))⟩):=by
 show(pre/\∀ b:Bool,True->K ⟨(d,.b b)::t,cm h id (.ab (r (if b then m else 0)))⟩)=_;grind
@[go_sem] theorem ajK {d:Nat}:LS id ops g (some d) ⟨t,h⟩ K (some (Mw pre r m))=((dO ops t ops.length g->pre/\K ⟨(d,.gd g.1 g.2 (.b true))::t,cm h id (.ab (r m))⟩/\K ⟨(d,.gd g.1 g.2 (.b false))::t,cm h id (.ab (r 0))⟩)/\(gi ops t ops.length g->K ⟨(d,.gd g.1 g.2 .any)::t,h⟩)):=by
 show((dO ops t ops.length g->pre/\∀ b:Bool,True->K ⟨(d,.gd g.1 g.2 (.b b))::t,cm h id (.ab (r (if b then m else 0)))⟩)/\(gi ops t ops.length g->K ⟨(d,.gd g.1 g.2 .any)::t,h⟩))=_;grind
end
def YE (own:Own)(n:Nat):List Nat:=(List.range n).flatMap λid=>match own id with|some hd=>hd.bs|none=>[]
theorem E8 {own:Own}{n:Nat}(hd:∀ id hd,own id=some hd->id<n)(b:Nat):b∈YE own n↔∃ id hd,own id=some hd/\b∈hd.bs:=by
 grind [YE]
section
variable {P:Program}{w0:Bs}{ts:Tis}{G:Cons}{L:vZ}{N:Nat}
def Fw (F:Nat->Prop)(l:Nat)(w:World)(b:Nat):Prop:=(F b/\b<w.heap.size)\/b=l
structure aqN where
 l:Nat
 fn:FuncId
 tmps:Array Value
 ps:Array Tmp
 assign:Code
 body:Code
 D:Nat
def aqN.obj (x:aqN)(s:LoopState)(p:Option Code):Obj:=.loop { state:=s,pending:=p,fn:=x.fn,tmps:=x.tmps,params:=x.ps,assign:=x.assign,body:=x.body,defers:=x.D}
structure Pack (x:aqN)(T:List (Nat×SV))(dv:Own)(n0:Nat)(H:List Ob)(o:Obj)(bn:Own)(F:Nat->Prop)(bs:List Nat)(w:World):Prop where
 hp:Hp (Fw F x.l w) bn w H
 slots:∀ t,Rel (Fw F x.l w) bn w (lk t T) (x.tmps.getD t undef)
 bs:∀ b,b∈bs↔b=x.l\/∃ id hd,bn id=some hd/\b∈hd.bs
 ids:∀ id hd,dv id=some hd->∃ hd',bn id=some hd'/\hd.like hd'
 nl:¬F x.l
 rcd:w.heap[x.l]? =some o
 le:n0<=H.length
variable {x:aqN}{n0:Nat}
theorem Pack.loc{T:List (Nat×SV)}{dv:Own}{H:List Ob}{o:Obj}{bn:Own}{F F':Nat->Prop}{bs:List Nat}{w w':World}(h:Pack x T dv n0 H o bn F bs w)(V:w.heap.size<=w'.heap.size)
  (hb:∀ b,b<w.heap.size->¬F b->w'.heap[b]? =w.heap[b]?) (Y:∀ b,b<w.heap.size->F' b->F b):Pack x T dv n0 H o bn F' bs w':=by
 have hl:=rL h.rcd;have hc:apz (Fw F x.l w) bn w (Fw F' x.l w') bn w':=⟨λ_ hd e=>⟨hd,e,.refl _⟩,λb O hn=>⟨λho=>hn (ho.imp (λq=>q.imp (λ⟨q1,_⟩ =>⟨Y b O q1,O⟩) (λe=>e)) (λe=>e)),hb b O λW=>hn (.inl (.inl ⟨W,O⟩))⟩⟩;have X:∀ id hd b,bn id=some hd->b∈hd.bs->w'.heap[b]? =w.heap[b]?:=λid hd b e E=>hb b (h.hp.lt id hd b e E) λW=>h.hp.apart id hd b e E (.inl ⟨W,h.hp.lt id hd b e E⟩);refine⟨⟨h.hp.dom,λb U=>?_,λid hd b e E U=>?_,h.hp.inj,λid hd b e E=>alT (h.hp.lt id hd b e E) V,λid hdd=>?_⟩,λt=>(h.slots t).carry hc,h.bs,h.ids,λW=>h.nl (Y _ hl W),by rw[hb _ hl h.nl];exact h.rcd,h.le⟩;rcases U with⟨_,q⟩ |rfl <;>grind;have hlt:=h.hp.lt id hd b e E;rcases U with⟨q,_⟩ |q;exact h.hp.apart id hd b e E (.inl ⟨Y b hlt q,hlt⟩);exact h.hp.apart id hd b e E (.inr q);obtain⟨hd,e1,e2⟩:=h.hp.obs id hdd;exact⟨hd,e1,e2.carry hc V λb E=>X id hd b e1 E⟩
def psT:List Nat->List SV->List (Nat×SV)
 |p::ps,s::r=>(p,s)::psT ps r|_,_=>[]
def itQ {σ:Type}(T:List (Nat×SV))(Hx:σ->List Ob)(I:Nat->σ->Prop)(S:Ex->σ->Prop)(n0 k:Nat):Ex->St->Prop
 | .normal,st=>∃ y js,I (k+1) y/\n0<=(Hx y).length/\Sub js n0 ⟨T,st.h⟩ ⟨T,Hx y⟩| .exit j,st=>∃ y js,S (.exit j) y/\n0<=(Hx y).length/\Sub js n0 ⟨T,st.h⟩ ⟨T,Hx y⟩| .ret,st=>∃ y js,S .ret y/\n0<=(Hx y).length/\Sub js n0 ⟨T,st.h⟩ ⟨T,Hx y⟩| .pan _,_=>False
def Pd:Ex->Option Code
 | .exit j=>some (.exit j)| .ret=>some .ret|_=>none
def itR {σ:Type}(x:aqN)(T:List (Nat×SV))(dv:Own)(n0:Nat)(Hx:σ->List Ob)(I:Nat->σ->Prop)(S:Ex->σ->Prop):Nat->Res
 |0=>{ yv:=.func (.yield x.l) #[] #[],n:=0,R:=λF bs w=>∃ e y bn,S e y/\(Pd e).isSome=true/\Pack x T dv n0 (Hx y) (x.obj .done (Pd e)) bn F bs w,loc:=λF F' bs w w' ⟨e,y,bn,h0,h1,h2⟩ hsz hb hF=>⟨e,y,bn,h0,h1,h2.loc hsz hb hF⟩}
 |k+1=>{ yv:=.func (.yield x.l) #[] #[],n:=k+1,R:=λF bs w=>∃ y bn,I k y/\Pack x T dv n0 (Hx y) (x.obj .ready none) bn F bs w,loc:=λF F' bs w w' ⟨y,bn,h0,h2⟩ hsz hb hF=>⟨y,bn,h0,h2.loc hsz hb hF⟩}
def aal{σ:Type}{T:List (Nat×SV)}{dv:Own}{E:σ->List Ob}{I:Nat->σ->Prop}{S:Ex->σ->Prop}:∀ k,(itR x T dv n0 E I S k).n=k/\(itR x T dv n0 E I S k).yv=.func (.yield x.l) #[] #[]
 |0=>⟨rfl,rfl⟩|_+1=>⟨rfl,rfl⟩
theorem UY:∀ (O:List Nat) (args:List SV) (T:List (Nat×SV)) (tmps:Array Value) (vs:List Value) (t:Nat) {F:Nat->Prop} {own:Own} {w:World},O.Nodup->(∀ p∈O,p<tmps.size)->args.length=O.length->vs.length=O.length->
  (∀ (j:Nat) (s:SV) (v:Value),args[j]? =some s->vs[j]? =some v->Rel F own w s v)->Rel F own w (lk t T) (tmps.getD t undef)->Rel F own w (lk t (psT O args++T)) (((O.zip vs).foldl (λtmps (t,a) =>tmps.setIfInBounds t a) tmps).getD t undef)
 | [],args,T,tmps,vs,t,_,_,_,_,_,W,_,_,hT=>by
  cases args with
  |nil=>exact hT|cons=>simp at W
 |p::O,[],T,tmps,vs,t,_,_,_,_,_,W,_,_,_=>by simp at W
 |p::O,s::args,T,tmps,[],t,_,_,_,_,_,_,Y,_,_=>by simp at Y
 |p::O,s::args,T,tmps,v::vs,t,F,own,w,hn,hp,W,Y,hr,hT=>by
  rw[ami]at hn;have U:∀ (l:List (Nat×Value)) (tm:Array Value),(∀ x∈l,x.1≠p)->(l.foldl (λtmps (t,a) =>tmps.setIfInBounds t a) tm).getD p undef=tm.getD p undef:=by
   intro l;induction l with
   |nil=>grind
   |cons y r ih=>
    simp_all <;>grind
  have hlkp:∀ (V:List Nat) (E:List SV),p ∉ V->lk p (psT V E++T)=lk p T:=by
   intro V;induction V with
   |nil=>intro E _;rfl
   |cons q r ih=>
    intro E X;cases E with
    |nil=>rfl
    |cons a E=>
     simp only[alV,not_or]at X;simp only[psT,al7];rw[px,if_neg (λe=>X.1 e.symm)];grind
  simp only[List.zip_cons_cons,aoC,psT,al7];rw[px];by_cases ht:p=t
  subst ht;rw[if_pos rfl,U _ _ λx hx=>by
   have:=List.of_mem_zip hx;grind]
  simp only[al_,an3];simp only[if_true];rw[if_pos (hp p (by simp))];exact hr 0 s v rfl rfl;rw[if_neg ht];refine UY O args T (tmps.setIfInBounds p v) vs t hn.2 (λq X=>by grind) (by grind) (by grind) (λj s v h1 h2=>hr (j+1) s v (by grind) (by grind)) ?_;simp_all
theorem SF (l:List (Nat×Value)):∀ (E:Array Value),(l.foldl (λtmps (t,a) =>tmps.setIfInBounds t a) E).size=E.size:=by
 induction l <;>grind
theorem acd(W:P.follows .mixedOrders=true)(hts:ts.ok P)(hG:X2 P G){σ:Type}{T:List (Nat×SV)}{dv:Own}{Hx:σ->List Ob}{I:Nat->σ->Prop}{S:Ex->σ->Prop}{items:List (List SV)}
  (hsz:x.tmps.size=N) (hn0:∀ id hd,dv id=some hd->id<n0) (hpn:x.ps.toList.Nodup) (hpN:∀ p∈x.ps.toList,p<N) (hca:cP N x.assign=true) (hcb:cP N x.body=true)
  (aqP:∀ k y args,items[k]? =some args->I k y->args.length=x.ps.size/\∃ L Qx,(∀ l,ak P (some l) N L x.assign)/\(∀ l,ak P (some l) N L x.body)/\(∀ e st,Qx e st->itQ T Hx I S n0 k e st)/\exec ts G L x.assign ⟨psT x.ps.toList args++T,Hx y⟩ (λe st1=>e=.normal/\exec ts G L x.body st1 Qx)):
  YOk P (itY items (itR x T dv n0 Hx I S)):=by
 intro args rr c hc hpre F bs w vs hR hF hbs hvs;simp only[itY,alK]at hc;subst hc;obtain⟨h1,h2,h3⟩:=hpre;generalize hk:rr.n=kk at h1 h2 h3;obtain⟨k,rfl⟩:∃ k,kk=k+1:=⟨kk - 1,by omega⟩;simp only[aob]at h3;subst h1;obtain⟨y,bn,hI,pk⟩:=hR;obtain⟨hal,L,Qx,hla,hlb,hQx,hex⟩:=aqP k y args h3 hI;have hvl:vs.size=x.ps.size:=by rw[hvs.1];exact hal
 have hl:=rL pk.rcd;right;have hpfs:∀ b,Fw F x.l w b->b<w.heap.size:=λb hb=>pk.hp.ao1 b hb;refine⟨x.l,x.fn,(x.ps.zip vs).foldl (λtmps (t,a) =>tmps.setIfInBounds t a) x.tmps,x.assign,x.body,?_,roundIn_of_wpIn trivial ?_⟩;show(Sq (.func (.yield x.l) #[] #[]) vs).run P w=_;have hy:=run_yield (P:=P) (w:=w) (l:=x.l) (args:=vs) pk.rcd hvl;grind [Sq,Deferred.ofValue,invoke]
 ·
  generalize htm:(x.ps.zip vs).foldl (λtmps (t,a) =>tmps.setIfInBounds t a) x.tmps=tmps';have hFw:∀ b,F b->Fw F x.l w b:=λb hb=>.inl ⟨hb,hF b hb⟩;have hargs:apx (Fw F x.l w) bn w args vs:=⟨hvs.1,λj s hj=>(hvs.2 j s hj).aph (py (hvs.2 j s hj)) λb hb ho=>hb (by
   left;rcases ho with(⟨q,_⟩ |q) | ⟨id,hd,e,W⟩;exact .inl q;exact .inr ((pk.bs b).2 (.inl q));exact .inr ((pk.bs b).2 (.inr ⟨id,hd,e,W⟩)))⟩
  have hstart:W2 (Fw F x.l w) { w:=w,own:=bn} N bn ⟨psT x.ps.toList args++T,Hx y⟩ { tmps:=tmps',defers:=[]} w:=by
   refine⟨?_,Dfr.nil,pk.hp,Fr.refl { w:=w,own:=bn},λt=>?_⟩;rw[<-htm,<-aoR,SF];exact hsz;rw[<-htm,<-aoR,Array.toList_zip];refine UY x.ps.toList args T x.tmps vs.toList t hpn (λp hp=>by grind) (by omega) (by omega) (λj s v h1 h2=>?_) (pk.slots t);have:=hargs.2 j s h1;simp_all
  refine wpIn_mono (rO (ro:=some x.l) (nd:=0) W hts hG x.assign hca (hla x.l) _ _ _ hex bn _ w hstart) ?_;intro e a1 w1 hq;cases e with
  |normal=>
   obtain⟨F1,own1,st1,hF1,O,_,hex1⟩:=hq;have hl1:F1 x.l:=hF1 _ (.inr rfl);have hno1:∀ id hd,bn id=some hd->x.l ∉ hd.bs:=λid hd e W=>pk.hp.apart id hd _ e W (.inr rfl);have hrec1:w1.heap[x.l]? =some (x.obj .ready none):=by
    rw[O.fr.block x.l ⟨hl,λ⟨id,hd,e,W⟩ =>hno1 id hd e W⟩];exact pk.rcd
   refine⟨w1.putObj x.l (x.obj .busy none),run_beginRound hrec1 rfl,?_⟩;have g1:apK F1 own1 w1 own1 (w1.putObj x.l (x.obj .busy none)):=⟨λ_ hd e=>⟨hd,e,.refl _⟩,λb _ hn=>⟨hn,World.putObj_heap_other λe=>hn (.inl (e▸hl1))⟩,by simp⟩;have hst2:W2 F1 { w:=w.putObj x.l (x.obj .busy none),own:=bn} N own1 st1 a1 (w1.putObj x.l (x.obj .busy none)):=by
    refine⟨O.size,?_,O.hp.apS g1 λid hd b e W=>World.putObj_heap_other λe'=>O.hp.apart id hd b e W (e'▸hl1),⟨O.fr.ids,λid hd b e W ho=>O.fr.base id hd b e W ⟨by have:=ho.1;simp_all,ho.2⟩,O.fr.os,O.fr.tape,O.fr.output,by simpa using O.fr.size,λb hb=>?_⟩,λt=>(O.slots t).mono g1⟩;obtain⟨ms,Ds,q0,q1,q2,q3⟩:=O.defers;refine⟨ms,Ds,q0,q1,q2,λD hD=>⟨by simp_all,(q3 D hD).2.1,?_⟩⟩;grind [World.putObj_heap_other]
    by_cases e:b=x.l
    grind [World.putObj_heap_same]
    rw[World.putObj_heap_other e,World.putObj_heap_other e];exact O.fr.block b ⟨by have:=hb.1;simp_all,hb.2⟩
   refine wpIn_mono (rO (ro:=some x.l) (nd:=0) W hts hG x.body hcb (hlb x.l) _ _ _ hex1 own1 _ _ hst2) ?_;intro e a2 w2 hq
   replace hq:=uH hQx _ _ _ hq
   have key:∀ (F2:Nat->Prop) (A1:Own) (st2:St) (y2:σ) (js:List Nat) (b:Bool) (U:Option Code),(∀ c,F1 c->F2 c)->W2 F2 { w:=w.putObj x.l (x.obj .busy none),own:=bn} N A1 st2 a2 w2->n0<=(Hx y2).length->Sub js n0 ⟨T,st2.h⟩ ⟨T,Hx y2⟩->b=U.isNone->
     (∀ E bs' Y,Pack x T dv n0 (Hx y2) (x.obj (if U.isNone then .ready else .done) U) E F bs' Y->(itR x T dv n0 Hx I S (if b then k+1+1 else 0)).R F bs' Y)->
     ∃ v Y,(Instr.endRound x.l U).run P w2=.ok v Y/\∃ a bs',True/\(Ending.returned v)=.returned (.bool ((a,itR x T dv n0 Hx I S (if a then k+1+1 else 0)):Bool×Res).1)/\(itR x T dv n0 Hx I S (if a then k+1+1 else 0)).R F bs' Y/\(itR x T dv n0 Hx I S (if a then k+1+1 else 0)).yv=.func (.yield x.l) #[] #[]/\YFr bs bs' w Y:=by
    intro F2 A1 st2 y2 js b U hF2 V hle X hb hR3;subst hb;have hl2:F2 x.l:=hF2 _ hl1;have hrec2:w2.heap[x.l]? =some (x.obj .busy none):=by
     rw[V.fr.block x.l ⟨by simpa using hl,λ⟨id,hd,e,W⟩ =>hno1 id hd e W⟩];exact World.putObj_heap_same hl
    have hsz2:w.heap.size<=w2.heap.size:=by have:=V.fr.size;simp_all
    have hl2s:=alT hl hsz2;obtain⟨q1,q2,q3,q4⟩:=O8 X V.hp hle;let E:=iL js (Hx y2) A1
    let Y:=w2.putObj x.l (x.obj (if U.isNone then .ready else .done) U)
    have hF2w:∀ c,Fw F x.l Y c->F2 c:=λc hc=>by
     rcases hc with⟨hc,_⟩ |rfl <;>grind
    have hoth:∀ c,c≠x.l->Y.heap[c]? =w2.heap[c]?:=λc hc=>World.putObj_heap_other hc;have hcar:apz F2 E w2 (Fw F x.l Y) E Y:=⟨λ_ hd e=>⟨hd,e,.refl _⟩,λc hcl hn=>⟨λho=>hn (ho.imp (hF2w c) (λe=>e)),hoth c λe=>hn (.inl (e▸hl2))⟩⟩;have hblk:∀ c,c<w.heap.size->c≠x.l->(¬ ∃ id hd,bn id=some hd/\c∈hd.bs)->w2.heap[c]? =w.heap[c]?:=λc h1 h2 h3=>by
     rw[V.fr.block c ⟨by simpa using h1,h3⟩];exact World.putObj_heap_other h2
    have hown2:∀ id hd c,A1 id=some hd->c∈hd.bs->(∃ id hd,bn id=some hd/\c∈hd.bs)\/w.heap.size<=c:=λid hd c e W=>by
     have:=V.fr.base id hd c e W;by_cases hc:c<w.heap.size
     exact .inl (amg λhn=>this ⟨by simpa using hc,hn⟩);omega
    have gall:apK (Fw F x.l w) bn w A1 w2:=⟨V.fr.ids,λc hcl hn=>by
     have h2:c≠x.l:=λe=>hn (.inl (.inr e));have h3:¬ ∃ id hd,bn id=some hd/\c∈hd.bs:=λh=>hn (.inr h);refine⟨?_,hblk c hcl h2 h3⟩;rintro (hf| ⟨id,hd,e,W⟩);exact hn (.inl hf);grind,hsz2⟩
    have hcar2:apz (Fw F x.l w) E w2 (Fw F x.l Y) E Y:=⟨λ_ hd e=>⟨hd,e,.refl _⟩,λc hcl hn=>⟨λho=>hn (ho.imp (λhc=>by
     rcases hc with⟨hc,_⟩ |rfl;grind
     exact .inr rfl) (λe=>e)),hoth c λe=>hn (.inl (.inr e))⟩⟩
    have hpk:Pack x T dv n0 (Hx y2) (x.obj (if U.isNone then .ready else .done) U) E F (x.l::YE E (Hx y2).length) Y:=by
     refine⟨⟨q1.dom,λc hc=>?_,λid hd c e W hc=>q1.apart id hd c e W (hF2w c hc),q1.inj,λid hd c e W=>by have:=q1.lt id hd c e W;simpa[Y]using this,λid hdd=>?_⟩,λt=>?_,λc=>?_,λid hd e=>?_,pk.nl,World.putObj_heap_same hl2s,hle⟩;rcases hc with⟨_,hc⟩ |rfl;exact hc;simpa[Y]using hl2s;obtain⟨hd,e1,e2⟩:=q1.obs id hdd;exact⟨hd,e1,e2.carry hcar (by simp[Y]) λc W=>hoth c λe=>q1.apart id hd c e1 W (e▸hl2)⟩;rcases DP t _ X.2.1 with e| ⟨e1,e2⟩;rw[e];exact .any _;have h1:=(pk.slots t).mono gall;have h1':Rel (Fw F x.l w) A1 w2 (ren (Eo js) 5 (lk t T)) (x.tmps.getD t undef):=e1▸h1;exact(q3 (Fw F x.l w) 5 _ _ e2 h1').carry hcar2;rw[alV,E8 q1.dom];obtain⟨hd1,e1,l1⟩:=pk.ids id hd e;obtain⟨hd2,e2,l2⟩:=V.fr.ids id hd1 e1;obtain⟨hd3,e3,l3⟩:=q4 id hd2 (hn0 id hd e) e2;exact⟨hd3,e3,(l1.trans l2).trans l3⟩
    refine⟨_,Y,run_endRound U hrec2,U.isNone,_,trivial,rfl,hR3 _ _ _ hpk,(aal _).2,V.fr.os,V.fr.tape,V.fr.output,by simpa[Y]using hsz2,λc hc hn=>?_,λc hc=>?_⟩;have h2:c≠x.l:=λe=>hn ((pk.bs c).2 (.inl e));rw[hoth c h2];exact hblk c hc h2 λh=>hn ((pk.bs c).2 (.inr h));rcases alV.1 hc with rfl|hc;exact⟨by simpa[Y]using hl2s,.inl ((pk.bs _).2 (.inl rfl))⟩;obtain⟨id,hd,e,W⟩:=(E8 q1.dom c).1 hc;refine⟨by have:=q1.lt id hd c e W;simpa[Y]using this,?_⟩;obtain⟨_,j,hd0,_,e2,_,e4⟩:=ji e;obtain⟨_,rfl⟩:=e4 c W;rcases hown2 j hd c e2 W with h|h;exact .inl ((pk.bs c).2 (.inr h));omega
   cases e with
   |normal=>
    obtain⟨F2,A1,st2,h0,V,y2,js,hI2,hle,X⟩:=hq;exact key F2 A1 st2 y2 js true none h0 V hle X rfl λE bs' Y hp=>⟨y2,E,hI2,hp⟩
   |ret=>
    obtain⟨F2,A1,st2,h0,V,y2,js,hS2,hle,X⟩:=hq;exact key F2 A1 st2 y2 js false (some .ret) h0 V hle X rfl λE bs' Y hp=>⟨.ret,y2,E,hS2,rfl,hp⟩
   |exit j=>
    obtain⟨F2,A1,st2,h0,V,y2,js,hS2,hle,X⟩:=hq;exact key F2 A1 st2 y2 js false (some (.exit j)) h0 V hle X rfl λE bs' Y hp=>⟨.exit j,y2,E,hS2,rfl,hp⟩
   |panic ch=>obtain⟨x',F2,A1,st2,_,_,h,_⟩:=hq;exact h.elim
   |_=>exact hq.elim
  |exit j=>obtain⟨F1,own1,st1,_,_,h,_⟩:=hq;cases h
  |ret=>obtain⟨F1,own1,st1,_,_,h,_⟩:=hq;cases h
  |panic ch=>obtain⟨x',F1,own1,st1,_,_,⟨h,_⟩,_⟩:=hq;cases h
  |_=>exact hq.elim
end
end Go.Sx
end
