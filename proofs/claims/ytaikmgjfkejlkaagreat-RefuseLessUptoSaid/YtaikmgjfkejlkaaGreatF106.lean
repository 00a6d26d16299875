/- Part of the proof that the law RefuseLess returns true and leaves its arguments as they were, for all arguments of bulk at most 1048576 (the Upto form). -/
import Derived.Test.YtaikmgjfkejlkaaGreatF105
import Derived.Sort.LoopGhostIn
import Derived.RangeFuncLeaves
import Derived.RangeFuncRecord
import Derived.Test.YtaikmgjfkejlkaaGreatF101
import Derived.Attr
import Derived.RangeFuncIn
import Derived.TacticsIn
set_option linter.all false
set_option maxHeartbeats 4000000
set_option maxRecDepth 100000
section
namespace Go.Sx
open Go.RowKit
section
variable {P:Program}{F:Nat->Prop}{own P1:Own}{w:World}{w0:Bs}{ro:Option Nat}{nd:Nat}{ts:Tis}{G:Cons}{L:vP}{N:Nat}
structure Un (m:Nat->Option Nat)(n:Nat)(own P1:Own):Prop where
 ids:∀ k,k<n->∀ hd,(m k).bind own=some hd->∃ hd',P1 k=some hd'/\hd.like hd'
theorem aaB {m:Nat->Option Nat}{n:Nat}(hm:Un m n own P1)(hk:∀ k,k<n->(m k).isSome=true)(ho:∀ b,¬df F own b->¬df F P1 b):∀ (f:Nat) (s:SV) (v:Value),mK f n s=true->Rel F own w (ren m f s) v->Rel F P1 w s v:=by
 have base:∀ (f:Nat) (s:SV) (v:Value),mK f n s=true->Rel F own w (ren m f s) v->(∀ l o,s≠ .ep l o)->(∀ z l,s≠ .ls z l)->(∀ l,s≠ .agg l)->(∀ l,s≠ .tup l)->(∀ f l l2,s≠ .fn f l l2)->Rel F P1 w s v:=by
  intro f s v hi U n1 n2 n3 n4 n5;have hlt:∀ {id},Nat.blt id n=true->∃ j,m id=some j/\id<n:=λ{id} h=>by
   have V:id<n:=nbl h;have:=hk id V;cases hm':m id <;>grind
  cases s with
  |any=>exact .any _|v x=>cases f <;>(have E:Rel F own w (.v x) v:=U) <;>rw[cK E] <;>exact .v _|e0=>cases f <;>(have E:Rel F own w .e0 v:=U) <;>cases E <;>exact .e0|rs k l=>cases f <;>(have E:Rel F own w (.rs k l) v:=U) <;>exact E.ao_ (.rs) ho|rc k l=>cases f <;>(have E:Rel F own w (.rc k l) v:=U) <;>exact E.ao_ (.rc) ho|rm k k2 l=>cases f <;>(have E:Rel F own w (.rm k k2 l) v:=U) <;>exact E.ao_ (.rm) ho
  |ptr id off=>
   have X:Nat.blt id n=true:=by cases f <;>exact hi
   obtain⟨j,e,V⟩:=hlt X;have E:Rel F own w (.ptr j off) v:=by grind [ren,zx]
   cases E with
   |ptr h1 h2=>
    obtain⟨hd',Y,W⟩:=hm.ids id V _ (by rw[e];exact h1);exact .ptr Y (by rw[W.1];exact h2)
  |os id=>
   have X:Nat.blt id n=true:=by cases f <;>exact hi
   obtain⟨j,e,V⟩:=hlt X;have E:Rel F own w (.os j) v:=by grind [ren,zx]
   cases E with
   |os h1 h2=>
    obtain⟨hd',Y,W⟩:=hm.ids id V _ (by rw[e];exact h1);rw[<-W.2.1];exact .os Y (by rw[W.2.1];exact h2)
  |rp sz id i off=>
   have X:Nat.blt id n=true:=by cases f <;>exact hi
   obtain⟨j,e,V⟩:=hlt X;have E:Rel F own w (.rp sz j i off) v:=by grind [ren,zx]
   cases E with
   |rp h1 h2 h3=>
    obtain⟨hd',Y,W⟩:=hm.ids id V _ (by rw[e];exact h1);exact .rp Y (by rw[W.2.1];exact h2) h3
  |vw sz id lo hh=>
   have X:Nat.blt id n=true:=by cases f <;>exact hi
   obtain⟨j,e,V⟩:=hlt X;have E:Rel F own w (.vw sz j lo hh) v:=by grind [ren,zx]
   cases E with
   |vw h1 h2 h3=>
    obtain⟨hd',Y,W⟩:=hm.ids id V _ (by rw[e];exact h1);exact .vw Y (by rw[W.2.1];exact h2) h3
  |gr id i=>
   have X:Nat.blt id n=true:=by cases f <;>exact hi
   obtain⟨j,e,V⟩:=hlt X;have E:Rel F own w (.gr j i) v:=by grind [ren,zx]
   cases E with
   |gr h1 h2 h3=>
    obtain⟨hd',Y,W⟩:=hm.ids id V _ (by rw[e];exact h1);exact .gr Y (by rw[W.2.2];exact h2) h3
  |gp sz id i i2 off=>
   have X:Nat.blt id n=true:=by cases f <;>exact hi
   obtain⟨j,e,V⟩:=hlt X;have E:Rel F own w (.gp sz j i i2 off) v:=by grind [ren,zx]
   cases E with
   |gp h1 h2 h3=>
    obtain⟨hd',Y,W⟩:=hm.ids id V _ (by rw[e];exact h1);exact .gp Y (by rw[W.2.2];exact h2) h3
  |ep l o=>grind|ls z l=>grind|agg l=>grind|tup l=>grind|fn f l l2=>grind|_=>cases f <;>simp[mK]at hi
 intro f;induction f with
 |zero=>
  intro s v hi U;refine base 0 s v hi U ?_ ?_ ?_ ?_ ?_ <;>intros <;>(intro e;subst e;simp[mK]at hi)
 |succ f ih=>
  intro s v hi U;cases s with
  |ep l o=>
   simp only[mK,al0]at hi;simp only[ren]at U;cases U with
   |ep c h1 h2=>
    have hg:∀ (j:Nat) (s:SV),l[j]? =some s->(l.map (ren m f))[j]? =some (ren m f s):=λj s O=>by simp[O]
    exact .ep c (λj s O=>⟨ho _ (h1 j _ (hg j s O)).1,(h1 j _ (hg j s O)).2⟩) λj s O=>ih s _ (hi s (alH O)) (h2 j _ (hg j s O))
  |ls z l=>
   simp only[mK,al0]at hi;simp only[ren]at U;generalize hq:l.map (ren m f)=l' at U;cases U with
   |ls c hz h0 h1 h2=>
    subst hq;have hg:∀ (j:Nat) (s:SV),l[j]? =some s->(l.map (ren m f))[j]? =some (ren m f s):=λj s O=>by simp[O]
    rw[amo]at hz;exact .ls c hz h0 (λj s O=>⟨ho _ (h1 j _ (hg j s O)).1,(h1 j _ (hg j s O)).2⟩) λj s O=>ih s _ (hi s (alH O)) (h2 j _ (hg j s O))
  |agg l=>
   simp only[mK,al0]at hi;simp only[ren]at U;cases U with
   |agg h0 h1=>exact .agg (by grind) λj s O=>ih s _ (hi s (alH O)) (h1 j _ (by simp[O]))
  |tup l=>
   simp only[mK,al0]at hi;simp only[ren]at U;cases U with
   |tup h0 h1=>exact .tup (by grind) λj s O=>ih s _ (hi s (alH O)) (h1 j _ (by simp[O]))
  |fn g l l2=>
   simp only[mK,alt,al0]at hi;simp only[ren]at U;cases U with
   |fn h0 h0' h1 h2=>exact .fn (by grind) (by grind) (λj s O=>ih s _ (hi.1 s (alH O)) (h1 j _ (by simp[O]))) λj s O=>ih s _ (hi.2 s (alH O)) (h2 j _ (by simp[O]))
  |_=>refine base (f+1) _ v hi U ?_ ?_ ?_ ?_ ?_ <;>intros <;>(intro e;cases e)
theorem P7:∀ a l:List SV,(wkL a l).length=l.length
 | [],[] =>rfl| [],_::_=>rfl|_::_,[] =>rfl
 |_::r,_::s=>by simp[wkL,P7 r s]
theorem P8:∀ (a l:List SV) (j:Nat) (s:SV),(wkL a l)[j]? =some s->s=.any\/l[j]? =some s
 | [],l,j,s,h=>.inr (by cases l <;>exact h)
 |_::_,[],j,s,h=>.inr h
 |a::r,x::l,0,s,h=>by
  grind [wkL]
 |a::r,x::l,j+1,s,h=>by
  have h:(wkL r l)[j]? =some s:=by grind [wkL]
  rcases P8 r l j s h with h|h <;>grind
theorem LO:∀ l:List SV,wkL l l=l
 | [] =>rfl
 |x::l=>by
  have:(bif PH x then SV.any else x)=x:=by cases x <;>rfl
  simp[wkL,this,LO l]
attribute [go_sem] LO
theorem So (a o:Ob):dI (DV a o)=dI o:=by
 unfold DV;split <;>rfl
theorem Uu (a:Ob){hd:Hd}{o:Ob}(h:aps F own w hd o):aps F own w hd (DV a o):=by
 unfold DV;split
 rename_i kk X l p;obtain⟨b,es,O,h1,h2,V,E,W,U⟩:=h;match p,E,U with
 |none,E,U=>exact⟨b,es,O,h1,h2,V,E,W,U⟩|some (i,none),E,U=>exact⟨b,es,O,h1,h2,V,E,W,trivial⟩|some (i,some x),E,U=>exact⟨b,es,O,h1,h2,V,E,W,U⟩
 rename_i a l;obtain⟨b,cs,ty,h1,h2,V,E,W⟩:=h;exact⟨b,cs,ty,h1,h2,V,by grind [P7],λj s hj=>by
  rcases P8 a l j s hj with rfl|hj;exact .any _;grind⟩
 exact h
theorem abU {m:Nat->Option Nat}{n:Nat}(hm:Un m n own P1)(hk:∀ k,k<n->(m k).isSome=true)(ho:∀ b,¬df F own b->¬df F P1 b){hd:Hd}{o:Ob}(hi:vQ n o=true)(h:aps F own w hd (uV m o)):aps F P1 w hd o:=by
 cases o with
 |cells l=>
  simp only[vQ,al0]at hi;obtain⟨b,cs,ty,h1,h2,O,W,V⟩:=h;exact⟨b,cs,ty,h1,h2,O,by grind,λj s hj=>aaB hm hk ho 3 s _ (hi s (alH hj)) (V j _ (by simp[hj]))⟩
 |dead=>trivial|row k l=>exact ao8.ao_ h (.inl ho)|fz k l=>exact Rel.ao_ h .rs ho
 |mp kk vk l apJ=>
  have key:∀ q,aps F own w hd (.mp kk vk l q)->(∃ b es E,hd.v=.map (some b)/\hd.bs=[b]/\w.heap[b]? =some (.map es E)/\apP F P1 w kk vk (eD kk vk l q) es/\Stamped es E/\ap9 own kk vk l es E q):=λq h=>by
   obtain⟨b,es,E,h1,h2,O,W,V,h6⟩:=h;exact⟨b,es,E,h1,h2,O,⟨W.1,λi x hi=>by
    obtain⟨e,X,Y,e3,e4⟩:=W.2 i x hi;exact⟨e,X,Y,e3.ao_ (tV _ _) ho,e4.ao_ (tV _ _) ho⟩⟩,V,h6⟩
  match apJ,hi,h with
  |none,_,h=>obtain⟨b,es,E,h1,h2,O,W,V,h6⟩:=key _ h;exact⟨b,es,E,h1,h2,O,W,V,trivial⟩
  |some (i,q),hi,h=>
   have hlt:i<n:=by grind [vQ,Nat.blt_eq]
   have hs:=hk i hlt;change aps F own w hd (NI kk vk l q (m i))at h;cases U:m i with
   |none=>grind
   |some j=>
    rw[U]at h;change aps F own w hd (NI kk vk l q (some j))at h;have h':aps F own w hd (.mp kk vk l (some (j,q))):=by cases q <;>exact h
    obtain⟨b,es,E,h1,h2,O,W,V,h6⟩:=key _ h';cases q with
    |none=>
     obtain⟨hd2,t1,t2⟩:=h6;obtain⟨hd',X,Y⟩:=hm.ids i hlt hd2 (by grind);exact⟨b,es,E,h1,h2,O,W,V,hd',X,Y.2.2.trans t2⟩
    |some x=>
     obtain⟨hd2,e,t1,t2,t3⟩:=h6;obtain⟨hd',X,Y⟩:=hm.ids i hlt hd2 (by grind);exact⟨b,es,E,h1,h2,O,W,V,hd',e,X,t2,Y.2.1.trans t3⟩
 |apg k l=>
  rcases h with h| ⟨b,o,cap,cs,ty,bs,h1,h2,O,W,V,h6,h7,h8,h9⟩;exact .inl h;exact .inr ⟨b,o,cap,cs,ty,bs,h1,h2,O,W,V,h6,h7,h8,h9.ao_ (.inl ho)⟩
 |ab r=>
  refine⟨h.1,r.loc _ _ _ w w h.2 (alw _) (λb hbl hn=>rfl) (λb hbl hn=>⟨al2 λhc=>ho b hc hn.1,hn.2⟩)⟩
 |raw o=>exact h
 |mi mid n0 left cur=>
  obtain⟨b,h1,h2,O⟩:=h;refine⟨b,h1,h2,λi hj=>?_⟩;subst hj;simp only[vQ]at hi;have hlt:i<n:=by simp_all
  have hs:=hk i hlt;cases U:m i with
  |none=>grind
  |some j=>
   obtain⟨hdm,bm,seen,c0,ss,k1,k2,k3,k4⟩:=O j (by simp[U]);obtain⟨hd',X,Y⟩:=hm.ids i hlt hdm (by grind);exact⟨hd',bm,seen,c0,ss,X,Y.2.1.trans k2,k3,k4⟩
 |fwd n0=>
  intro i hj;subst hj;simp only[vQ]at hi;have hlt:i<n:=by simp_all
  have hs:=hk i hlt;cases U:m i with
  |none=>grind
  |some j=>
   obtain⟨hdm,k1,k2,k3⟩:=h j (by simp[U]);obtain⟨hd',X,Y⟩:=hm.ids i hlt hdm (by grind);exact⟨hd',X,Y.2.1.trans k2,k3⟩
theorem Do {m:Nat->Option Nat}{t:List (Nat×SV)}{n:Nat}(i:Nat):∀ t2,RM m n t t2->lk i t2=.any\/(lk i t=ren m 5 (lk i t2)/\mK 5 n (lk i t2)=true)
 | [],_=>.inl rfl
 |(j,s)::r,h=>by
  obtain⟨⟨h1,h2⟩,E⟩:=h;rw[pw];by_cases O:j=i
  grind
  rw[if_neg O];exact Do i r E
theorem LP {m:Nat->Option Nat}{n:Nat}{h:List Ob}:∀ (js:List Nat) (h2:List Ob),GK m n h js h2->js.length=h2.length/\∀ (i j:Nat),js[i]? =some j->Je m n h j (aq h2 i)
 | [],[],_=>⟨rfl,λi j O=>by simp at O⟩
 | [],_::_,E=>E.elim|_::_,[],E=>E.elim
 |j::js,o::r,E=>by
  obtain⟨U,V⟩:=LP js r E.2;refine⟨by simp[U],λi W O=>?_⟩;cases i with
  |zero=>simp at O;subst O;exact E.1
  |succ i=>exact V i W (by grind)
theorem wH:∀ (js:List Nat) (h:List Ob) (i j:Nat),js[i]? =some j->dI (aq h i)=false->j∈mu js h
 | [],h,i,j,hj,_=>by simp at hj
 |j0::js,[],i,j,_,hl=>by simp[aq,dI]at hl
 |j0::js,o::r,0,j,hj,hl=>by
  simp_all [aq,mu]
 |j0::js,o::r,i+1,j,hj,hl=>by
  have:=wH js r i j (by grind) (by grind [aq]);grind [mu]
theorem Ic:∀ (js:List Nat) (h:List Ob) (i E j:Nat),uniq (mu js h)=true->js[i]? =some j->js[E]? =some j->dI (aq h i)=false->dI (aq h E)=false->i=E
 | [],h,i,E,j,_,hj,_,_,_=>by simp at hj
 |j0::js,[],i,E,j,_,_,_,hl,_=>by simp[aq,dI]at hl
 |j0::js,o::r,i,E,j,W,h1,h2,l1,V=>by
  have U:uniq (mu js r)=true:=by
   grind [mu,uniq]
  have O:dI o=false->j0 ∉ mu js r:=λhd=>by
   simp only[mu,hd,cond_false,uniq,alt]at W;grind [wG]
  cases i with
  |zero=>
   simp at h1;subst h1;cases E with
   |zero=>rfl
   |succ E=>exact absurd (wH js r E j0 (by simpa using h2) (by simpa[aq]using V)) (O (by simpa[aq]using l1))
  |succ i=>
   cases E with
   |zero=>simp at h2;subst h2;exact absurd (wH js r i j0 (by simpa using h1) (by simpa[aq]using l1)) (O (by simpa[aq]using V))
   |succ E=>rw[Ic js r i E j U (by simpa using h1) (by simpa using h2) (by simpa[aq]using l1) (by simpa[aq]using V)]
theorem Ey:∀ (js:List Nat) (i n:Nat),AU i js n=true->∀ k j,js[k]? =some j->i+k<n->j=i+k
 | [],i,n,_,k,j,E,_=>by simp at E
 |j0::js,i,n,h,k,j,E,hlt=>by
  simp only[AU,alt,alY]at h;cases k with
  |zero=>
   simp at E;simp_all <;>grind
  |succ k=>
   have:=Ey js (i+1) n h.2 k j (by grind) (by omega);omega
def iS (js:List Nat)(h2:List Ob)(own:Own):Own:=λk=>if k<h2.length then((js[k]?).bind own).map (λhd=>if dI (aq h2 k)then { hd with bs:=[]}else hd)else none
theorem jp {js:List Nat}{h2:List Ob}{k:Nat}{hd:Hd}(h:iS js h2 own k=some hd):k<h2.length/\∃ j hd0,js[k]? =some j/\own j=some hd0/\hd0.like hd/\(∀ b∈hd.bs,dI (aq h2 k)=false/\hd=hd0):=by
 unfold iS at h;split at h
 rename_i hlt;rw[amI]at h;obtain⟨hd0,h1,E⟩:=h;rw[aob]at h1;obtain⟨j,O,U⟩:=h1;refine⟨hlt,j,hd0,O,U,?_,?_⟩;split at E <;>subst E <;>exact⟨rfl,rfl,rfl⟩
 grind
 cases h
theorem Uv {js:List Nat}{h2:List Ob}{b:Nat}(O:¬df F own b):¬df F (iS js h2 own) b:=by
 rintro (W| ⟨k,hd,e,E⟩);exact O (.inl W);obtain⟨_,j,hd0,_,U,_,V⟩:=jp e;obtain⟨_,rfl⟩:=V b E;exact O (.inr ⟨j,hd,U,E⟩)
variable {n0:Nat}{st E:St}
theorem Oo{js:List Nat}(hs:Sub js n0 st E)(X:Hp F own w st.h)(hle:n0<=E.h.length):
  Hp F (iS js E.h own) w E.h/\(∀ F b,¬df F own b->¬df F (iS js E.h own) b)/\(∀ (F:Nat->Prop) (f:Nat) (s:SV) (v:Value),mK f E.h.length s=true->Rel F own w (ren (DW js) f s) v->Rel F (iS js E.h own) w s v)/\∀ id hd,id<n0->own id=some hd->∃ hd',iS js E.h own id=some hd'/\hd.like hd':=by
 obtain⟨⟨hu,hk,hlt⟩,_,hh⟩:=hs;obtain⟨hlen,hob⟩:=LP js E.h hh;have hjs:∀ k,k<E.h.length->(DW js k).isSome=true:=λk hkl=>by
  show(nth js k).isSome=true;grind [gH]
 have hun:Un (DW js) E.h.length own (iS js E.h own):=⟨λk hkl hd e=>by
  have e':(js[k]?).bind own=some hd:=by rw[<-gH];exact e
  refine⟨if dI (aq E.h k)then { hd with bs:=[]}else hd,?_,?_⟩;simp_all [iS];split <;>exact⟨rfl,rfl,rfl⟩⟩
 have O:∀ (F:Nat->Prop) b,¬df F own b->¬df F (iS js E.h own) b:=λF b V=>Uv V;refine⟨⟨λid hd e=>(jp e).1,X.aoY,λid hd b e V=>?_,λi j hi Y b e1 W hb1 hb2=>?_,λid hd b e V=>?_,λid U=>?_⟩,O,λF f s v=>aaB hun hjs (O F) f s v,λid hd hid e=>?_⟩;obtain⟨_,j,hd0,_,W,_,e4⟩:=jp e;obtain⟨_,rfl⟩:=e4 b V;exact X.apart j hd b W V;obtain⟨_,j1,hd1,p1,p2,_,p4⟩:=jp e1;obtain⟨_,j2,hd2,q1,q2,_,q4⟩:=jp W;obtain⟨l1,rfl⟩:=p4 b hb1;obtain⟨l2,rfl⟩:=q4 b hb2;have:=X.inj j1 j2 hi Y b p2 q2 hb1 hb2;grind [Ic]
 obtain⟨_,j,hd0,_,W,_,e4⟩:=jp e;obtain⟨_,rfl⟩:=e4 b V;exact X.lt j hd b W V;have hidl:id<E.h.length:=by
  rcases amz id E.h.length with h|h;exact h;rw[mT h]at U;cases U
 have Y:∃ j,js[id]? =some j:=⟨js[id]'(by omega),by simp⟩;obtain⟨j,Y⟩:=Y;have ho:=hob id j Y;unfold Je at ho;rw[U]at ho;simp only[cond_false]at ho;obtain⟨ho1,ho2⟩:=ho;have hd1:dI (aq st.h j)=false:=by grind [So,u7]
 obtain⟨hd,e1,W⟩:=X.obs j hd1;grind [Uu,abU,iS]
 have hjid:js[id]? =some id:=by
  grind [Ey]
 refine⟨if dI (aq E.h id)then { hd with bs:=[]}else hd,?_,?_⟩;unfold iS;grind;split <;>exact⟨rfl,rfl,rfl⟩
theorem JI{js:List Nat}(hs:Sub js n0 st E)(hp:Hp F own w st.h)(O:Fr w0 own w)(hn:∀ id hd,w0.own id=some hd->id<n0)(U:n0<=E.h.length):
  Hp F (iS js E.h own) w E.h/\Fr w0 (iS js E.h own) w/\(∀ b,¬df F own b->¬df F (iS js E.h own) b)/\∀ (f:Nat) (s:SV) (v:Value),mK f E.h.length s=true->Rel F own w (ren (DW js) f s) v->Rel F (iS js E.h own) w s v:=by
 obtain⟨q1,q2,q3,q4⟩:=Oo hs hp U;refine⟨q1,⟨λid hd e=>?_,λid hd b e Y=>?_,O.os,O.tape,O.output,O.size,O.block⟩,q2 F,q3 F⟩;obtain⟨X,e1,l1⟩:=O.ids id hd e;obtain⟨V,W,l2⟩:=q4 id X (hn id hd e) e1;exact⟨V,W,l1.trans l2⟩;obtain⟨_,j,hd0,_,W,_,e4⟩:=jp e;obtain⟨_,rfl⟩:=e4 b Y;exact O.base j hd b W Y
theorem Y1.sub{a:Act}{w:World}(h:Y1 F w0 N own st a w){js:List Nat}(U:Sub js n0 st E)(V:∀ id hd,w0.own id=some hd->id<n0)(O:n0<=E.h.length):Y1 F w0 N (iS js E.h own) E a w:=by
 obtain⟨X,W,Y,q4⟩:=JI U h.hp h.fr V O;refine⟨h.size,h.defers,X,W,λt=>?_⟩;rcases Do t _ U.2.1 with e| ⟨e1,e2⟩;rw[e];exact .any _;have:=h.slots t;grind
theorem Id (hm:P.follows .mixedOrders=true)(hts:ts.ok P)(hG:aoI P G){id:Nat}{c:Code}(hc:cV N c=true){σ:Type}(D:σ->St)(I:σ->Prop)(m:σ->Nat)(n0:Nat)(hn:∀ id hd,w0.own id=some hd->id<n0)(Q:Ex->St->Prop)
  (W:∀ x,I x->∃ L Qx,ak P ro N L c/\(∀ e st',Qx e st'->uX D I m n0 x id Q e st')/\exec ts G L c (D x) Qx):
  ∀ x,I x->∀ own a w,Y1 F w0 N own (D x) a w->(Code.block id (.loop c)).wpIn (rd ro) nd P (Ev F w0 N Q) a w:=by
 intro x hx own a w hr;refine wpIn_block (wpIn_loop_ghost (λn a w=>∃ x E own,I x/\m x=n/\(∀ b,F b->E b)/\Y1 E w0 N own (D x) a w) (m x) ⟨x,F,own,hx,rfl,λ_ h=>h,hr⟩ ?_);rintro n a w ⟨x,F2,own,hx,rfl,O,hr⟩;obtain⟨L,Qx,hl,hQx,hex⟩:=W x hx;refine wpIn_mono (wpIn_mono (rJ hm hts hG c hc hl F2 (D x) _ hex own a w hr) (uv hQx)) ?_;intro e a' w' Y;cases e with
 |normal=>
  obtain⟨E,bo,st',X,h1,y,js,h2,h3,h5,h4⟩:=Y;exact⟨m y,h3,y,E,_,h2,rfl,λb U=>X b (O b U),h1.sub h4 hn h5⟩
 |exit j=>
  obtain⟨E,bo,st',X,h1,h2⟩:=Y;have V:(bif Nat.beq j id then Q .normal st' else Q (.exit j) st'):=h2;show if j=id then _ else _;by_cases hj:j=id
  subst hj;rw[if_pos rfl];simp only[aoJ,cond_true]at V;exact⟨E,bo,st',λb U=>X b (O b U),h1,V⟩;rw[if_neg hj];have:Nat.beq j id=false:=by cases U:Nat.beq j id <;>simp_all
  rw[this]at V;exact⟨E,bo,st',λb U=>X b (O b U),h1,V⟩
 |ret=>
  obtain⟨E,bo,st',X,h1,h2⟩:=Y;exact⟨E,bo,st',λb U=>X b (O b U),h1,h2⟩
 |panic ch=>
  obtain⟨x,E,bo,st',X,h1,h2,h3⟩:=Y;exact⟨x,E,bo,st',λb U=>X b (O b U),h1,h2,h3⟩
 |_=>exact Y.elim
end
section
variable {P:Program}{F:Nat->Prop}{w0:Bs}{ro:Option Nat}{nd:Nat}{ts:Tis}{G:Cons}{L:vP}{N:Nat}
theorem LQ:∀ (l:List SV) (n t:Nat),lk t (nV n l)=if n<=t then(l[t - n]?).getD .any else .any
 | [],n,t=>by simp[nV,lk]
 |s::r,n,t=>by
  rw[nV,pw,LQ r (n+1) t];grind
def Uw (tmps:Array Value):ResultVar->Sem Value
 | .tmp t=>pure (tmps.getD t undef)| .cell q t=>do loadVar t (<-asAddr (tmps.getD q undef))
theorem Oq (fn:Func)(tmps:Array Value):results fn tmps=(do let vs <-fn.results.mapM (Uw tmps);pure (if h:vs.size=1 then vs[0]else .tuple vs)):=by
 rfl
structure arv (Ds:List Nat)(w w':World):Prop where
 size:w'.heap.size=w.heap.size
 block:∀ k,k ∉ Ds->w'.heap[k]? =w.heap[k]?
 os:w'.os=w.os
 tape:w'.tape=w.tape
 output:w'.output=w.output
theorem A7 {fn:Func}{tmps:Array Value}{R:Ending->World->Prop}{u:FrameMode}(W:u≠ .run){bs:List Deferred}:∀ (Ds:List Nat) (ds:List Deferred) (w:World),ds.map (·.target)=Ds.map .collected->Ds.Nodup->
  (∀ D∈Ds,w.heap[D]? =some (.deferred (some [])))->(∀ U,arv Ds w U->LeavesInM (rd none) nd P fn tmps R bs u U)->LeavesInM (rd none) nd P fn tmps R (ds++bs) u w
 | [],[],w,_,_,_,h=>h w ⟨rfl,λ_ _=>rfl,rfl,rfl,rfl⟩
 | [],_::_,w,E,_,_,_=>by simp at E
 |_::_,[],w,E,_,_,_=>by simp at E
 |D::Ds,d::ds,w,E,X,Y,h=>by
  simp only[amh,anb]at E;obtain⟨hd,E⟩:=E;rw[al6]at X;have hlt:=rG (Y D (by simp));refine⟨W,.inl ⟨D,_,hd,run_takeDeferred (Y D (by simp)),?_⟩⟩;refine A7 W Ds ds _ E X.2 (λD' hD'=>?_) λU O=>?_;rw[World.putObj_heap_other (by grind)];grind
  refine h U ⟨?_,λk V=>?_,O.os,O.tape,O.output⟩;rw[O.size];simp_all;simp only[alD,not_or]at V;rw[O.block k V.2,World.putObj_heap_other V.1]
variable {st:St}{a:Act}{w:World}
theorem Y1.shut{own:Own}{U:World}{Ds:List Nat}(h:Y1 F w0 N own st a w)(V:∀ D∈Ds,w0.w.heap.size<=D/\F D/\w.heap[D]? =some (.deferred (some [])))(E:arv Ds w U):
  Y1 F w0 N own st { a with defers:=w0.ds} U:=by
 have g:apx F own w own U:=⟨λ_ hd e=>⟨hd,e,.refl _⟩,λb _ X=>⟨X,E.block b λO=>X (.inl (V b O).2.1)⟩,by rw[E.size];omega⟩;refine⟨h.size,Dfr.nil,h.hp.apD g λid hd b e O=>E.block b λY=>h.hp.apart id hd b e O (V b Y).2.1,⟨h.fr.ids,h.fr.base,E.os.trans h.fr.os,E.tape.trans h.fr.tape,E.output.trans h.fr.output,by rw[E.size];exact h.fr.size,λk W=>?_⟩,λt=>(h.slots t).mono g⟩;rw[E.block k λO=>by have:=(V k O).1;have:=W.1;omega];exact h.fr.block k W
theorem Y1.less{U:Nat->Prop}(V:∀ b,F b->U b){own:Own}(h:Y1 U w0 N own st a w)(hd:a.defers=w0.ds):Y1 F w0 N own st a w:=by
 have hc:apk U own w F own w:=⟨λ_ hd e=>⟨hd,e,.refl _⟩,λb _ hn=>⟨λW=>hn (W.imp (V b) id),rfl⟩⟩;refine⟨h.size,by rw[hd];exact Dfr.nil,⟨h.hp.dom,λb O=>h.hp.aoY b (V b O),λid hd b e O hf=>h.hp.apart id hd b e O (V b hf),h.hp.inj,h.hp.lt,λid E=>?_⟩,h.fr,λt=>(h.slots t).carry hc⟩;obtain⟨hd,X,Y⟩:=h.hp.obs id E;exact⟨hd,X,Y.carry hc (alw _) λ_ _=>rfl⟩
theorem Sp(E:ts.ok P){own:Own}(W:Y1 F w0 N own st a w){x:ResultVar}{s:SV}(h:RK ts st x=some s):
  ∃ v,(Uw a.tmps x).run P w=.ok v w/\Rel F own w s v:=by
 cases x with
 |tmp n=>
  simp only[RK,alx]at h;subst h;exact⟨_,rfl,W.slots n⟩
 |cell q t=>
  simp only[RK]at h;cases U:aI ts t λti=>qy ti st.h (lk q st.t)with
  |val s'=>
   rw[U]at h;simp only[XY,alx]at h;subst h;obtain⟨ti,Y,X⟩:=cb E U (by simp);obtain⟨u,V,e2⟩:=Li (P:=P) W.hp Y (W.slots q) X;refine⟨u,?_,e2⟩;show(do loadVar t (<-asAddr (a.tmps.getD q undef)):Sem Value).run P w=.ok u w;generalize a.tmps.getD q undef=vq at V |-;unfold Instr.loadAt at V;rw[alV]at V |-;have O:∀ x w',(Instr.sureAddr vq).run P w=.ok x w'->(asAddr vq).run P w=.ok x w':=by
    intro x w' h;unfold Instr.sureAddr at h;split at h
    exact h;simp_all
   cases hsa:(Instr.sureAddr vq).run P w <;>simp_all
  |_=>rw[U]at h;simp[XY]at h
theorem Ie (E:ts.ok P){own:Own}{st:St}{a:Act}{w:World}(U:Y1 F w0 N own st a w):∀ (rs:List ResultVar) (l:List SV),re ts st rs=some l->
  ∃ vs:List Value,(rs.mapM (Uw a.tmps):Sem (List Value)).run P w=.ok vs w/\vs.length=l.length/\∀ (j:Nat) (s:SV),l[j]? =some s->∃ v,vs[j]? =some v/\Rel F own w s v
 | [],l,h=>by
  simp_all [re]
 |x::r,l,h=>by
  simp only[re]at h;cases V:RK ts st x with
  |none=>grind [Lg]
  |some s0=>
   cases O:re ts st r with
   |none=>grind [Lg]
   |some l'=>
    rw[V,O]at h;simp only[Lg,alx]at h;subst h;obtain⟨W,f1,Y⟩:=Sp (P:=P) E U V;obtain⟨vs,e1,X,e3⟩:=Ie E U r l' O;refine⟨W::vs,?_,by simp[X],λj s hj=>?_⟩;simp_all;grind
theorem zQ(W:ts.ok P){fn:Func}{own:Own}(hr:Y1 F w0 N own st a w){s:SV}(h:th (re ts st fn.results.toList)=some s):∃ u,(results fn a.tmps).run P w=.ok u w/\Rel F own w s u:=by
 cases X:re ts st fn.results.toList with
 |none=>rw[X]at h;cases h
 |some l=>
  obtain⟨vs,e1,V,O⟩:=Ie (P:=P) W hr _ l X;rw[X]at h;have hres:(results fn a.tmps).run P w=.ok (if h:vs.toArray.size=1 then vs.toArray[0]else .tuple vs.toArray) w:=by
   grind [Oq,Array.mapM_eq_mapM_toList,Sem.run_bind,Sem.run_map,Result.andThen_ok,Sem.run_pure]
  have E:vs.toArray.size=l.length:=by omega
  match l,h,V,O,E with
  | [s0],h,V,O,E=>
   simp only[th,alx]at h;subst h;obtain⟨v,hv,U⟩:=O 0 s0 rfl;grind
  | [],h,V,O,E=>
   simp only[th,alx]at h;subst h;refine⟨.tuple vs.toArray,by grind,.tup (by omega) λj s Y=>by simp at Y⟩
  |s0::s1::r,h,V,O,E=>
   simp only[th,alx]at h;subst h;refine⟨.tuple vs.toArray,by grind,.tup (by omega) λj s Y=>?_⟩;obtain⟨v,hv,U⟩:=O j s Y;simp_all
theorem mW{fn:Func}{own:Own}{R:Ending->World->Prop}(U:Y1 F w0 N own st a w){u:FrameMode}(W:u≠ .run)
  (h:∀ E,Y1 F w0 N own st { a with defers:=w0.ds} E->LeavesInM (rd none) nd P fn a.tmps R w0.ds u E):LeavesInM (rd none) nd P fn a.tmps R a.defers u w:=by
 obtain⟨X,Ds,V,h1,h2,O⟩:=U.defers;rw[V];exact A7 W Ds X w h1 h2 (λD hD=>(O D hD).2.2) λE Y=>h E (U.shut O Y)
variable {w':World}
theorem qH{own:Own}(h:Fr { w:=w,own:=dB} own w'):Below w.heap.size w w':=
 ⟨h.os,h.tape,h.output,h.size,λk E=>h.block k ⟨E,λ⟨_,_,e,_⟩ =>by cases e⟩⟩
theorem qI{own:Own}{l:List SV}{vs:Array Value}(E:api F own w l vs)(n t:Nat):Rel F own w (lk t (nV 0 l)) ((vs++Array.replicate n undef).getD t undef):=by
 rw[LQ,if_pos (al4 t),Nat.sub_zero];cases O:l[t]? with
 |none=>exact .any _
 |some s=>
  have hlt:t<vs.size:=by rw[E.1];grind
  have:=E.2 t s O;grind [tC]
theorem zR(E:∀ b,F b->b<w.heap.size):Hp F dB w []:=
 ⟨λ_ _ h=>(by cases h),E,λ_ _ _ h=>(by cases h),λ_ _ _ _ _ h=>(by cases h),λ_ _ _ h=>(by cases h),λid h=>(by simp[aq,dI]at h)⟩
def lA (h:List Ob):Nat->SV->List Nat
 |_,.os id=>match aV 0 (wy (aq h id))with| [] =>[] |_=>[id]
 |n+1,.agg l=>l.flatMap (lA h n)|n+1,.tup l=>l.flatMap (lA h n)|_,_=>[]
theorem Ck (o:Ob):(∃ (k:Tag) (l:List k.T),o=.row k l/\wy o=.nw k l)\/(∃ (k k2:Tag) (l:List (k.T×k2.T)),o=.mp k k2 l none/\wy o=.nm k k2 l)\/(∃ (k:Tag) (l:List (List k.T)),o=.apg k l/\wy o=.ng k l)\/wy o=.any:=by
 cases o with
 |row k l=>exact .inl ⟨k,l,rfl,rfl⟩
 |mp k k2 l p=>
  cases p with
  |none=>exact .inr (.inl ⟨k,k2,l,rfl,rfl⟩)|some x=>exact .inr (.inr (.inr rfl))
 |apg k l=>exact .inr (.inr (.inl ⟨k,l,rfl,rfl⟩))|_=>exact .inr (.inr (.inr rfl))
theorem Ot:∀ (n:Nat) (s:SV),dA n s=true->∀ m,aV m s=[]:=by
 intro n;induction n with
 |zero=>intro s h m;cases s <;>simp[dA]at h <;>cases m <;>rfl
 |succ n O=>
  intro s h m;have E:∀ (l:List SV) m,l.all (dA n)=true->l.flatMap (aV m)=[]:=λl m E=>by
   simp_all
  cases s with
  |agg l=>cases m with
   |zero=>rfl|succ m=>exact E l m h
  |tup l=>cases m with
   |zero=>rfl|succ m=>exact E l m h
  |_=>first|(cases m <;>rfl) |simp[dA]at h
variable {h:List Ob}
theorem If:∀ (n:Nat) (s:SV),aV n (yo h n s)=(lA h n s).map (aq h)/\lA h n s ⊆ uW n s/\(lA h n s).Sublist (uW n s)/\∀ id∈lA h n s,Plain (aq h id):=by
 have O:∀ (n id:Nat),aV n (wy (aq h id))=(lA h n (.os id)).map (aq h)/\lA h n (.os id) ⊆ [id]/\(lA h n (.os id)).Sublist [id]/\∀ i∈lA h n (.os id),Plain (aq h i):=by
  intro n id;have e:lA h n (.os id)=match aV 0 (wy (aq h id))with| [] =>[] |_=>[id]:=by cases n <;>rfl
  rw[e];rcases Ck (aq h id)with⟨k,l,U,e2⟩ | ⟨k,k2,l,U,e2⟩ | ⟨k,l,U,e2⟩ |e2;rw[e2];refine⟨?_,by simp[aV],by simp[aV],λi hi=>?_⟩;grind [aV]
  simp[aV]at hi;subst hi;exact .inl ⟨k,l,U⟩;rw[e2];refine⟨?_,by simp[aV],by simp[aV],λi hi=>?_⟩;grind [aV]
  simp[aV]at hi;subst hi;exact .inr (.inl ⟨k,k2,l,U⟩);rw[e2];refine⟨?_,by simp[aV],by simp[aV],λi hi=>?_⟩;grind [aV]
  simp[aV]at hi;subst hi;exact .inr (.inr ⟨k,l,U⟩);grind [aV]
 have E:∀ (n m:Nat) (s:SV),aV n (bif dA m s then s else .any)=[]:=λn m s=>by
  cases W:dA m s with
  |true=>exact Ot m s W n|false=>cases n <;>rfl
 intro n;induction n with
 |zero=>
  intro s;cases s with
  |os id=>exact O 0 id
  |_=>first|exact⟨rfl,by simp[lA,uW],by simp[lA,uW],λi hi=>by simp[lA]at hi⟩ |exact⟨E _ _ _,by simp[lA,uW],by simp[lA,uW],λi hi=>by simp[lA]at hi⟩
 |succ n X=>
  intro s;have V:∀ l:List SV,(l.map (yo h n)).flatMap (aV n)=(l.flatMap (lA h n)).map (aq h)/\l.flatMap (lA h n) ⊆ l.flatMap (uW n)/\(l.flatMap (lA h n)).Sublist (l.flatMap (uW n))/\∀ id∈l.flatMap (lA h n),Plain (aq h id):=by
   intro l;induction l <;>grind
  cases s with
  |os id=>exact O (n+1) id|agg l=>exact V l|tup l=>exact V l
  |_=>first|exact⟨rfl,by simp[lA,uW],by simp[lA,uW],λi hi=>by simp[lA]at hi⟩ |exact⟨E _ _ _,by simp[lA,uW],by simp[lA,uW],λi hi=>by simp[lA]at hi⟩
theorem Ez:∀ l:List Nat,uniq l=true->l.Nodup
 | [],_=>amW
 |a::r,h=>by
  simp only[uniq,alt]at h;rw[al6];refine⟨λE=>?_,Ez r h.2⟩;grind [wG]
theorem Sq{own bo:Own}(hp:Hp F own w h)(hsh:∀ b,¬df F own b->¬df F bo b):∀ (n b:Nat) (s:SV) (v:Value),Rel F own w s v->(∀ i id,(lA h n s)[i]? =some id->bo (b+i)=own id)->wF F bo w n b (yo h n s) v:=by
 have V:∀ c,¬df F own c->¬df (df F bo) dB c:=λc hc=>by
  rintro (hf| ⟨_,_,e,_⟩);grind
  cases e
 have W:∀ (n b id:Nat) (v:Value),Rel F own w (.os id) v->(∀ i j,(lA h n (.os id))[i]? =some j->bo (b+i)=own j)->wF F bo w n b (wy (aq h id)) v:=by
  intro n b id v E U;have e:lA h n (.os id)=match aV 0 (wy (aq h id))with| [] =>[] |_=>[id]:=by cases n <;>rfl
  rw[e]at U;cases E with
  |os h1 h2=>
   rcases Ck (aq h id)with⟨k,l,e1,e2⟩ | ⟨k,k2,l,e1,e2⟩ | ⟨k,l,e1,e2⟩ |e2;all_goals rw[e2]at U |-
   have:=U 0 id (by simp[aV]);rw[amy]at this;cases n <;>exact⟨_,by rw[this];exact h1,rfl,h2⟩;have:=U 0 id (by simp[aV]);rw[amy]at this;cases n <;>exact⟨_,by rw[this];exact h1,rfl,h2⟩;have:=U 0 id (by simp[aV]);rw[amy]at this;cases n <;>exact⟨_,by rw[this];exact h1,rfl,h2⟩;cases n <;>exact Rel.any _
 have O:∀ (n m b:Nat) (s:SV) (v:Value),Rel F own w s v->(∀ l,s≠ .agg l)->(∀ l,s≠ .tup l)->wF F bo w n b (bif dA m s then s else .any) v:=by
  intro n m b s v E n1 n2;cases hb:dA m s with
  |false=>cases n <;>exact Rel.any _
  |true=>
   have Y:Rel (df F bo) dB w s v:=E.ao_ (gT m s hb) V;simp only[cond_true];cases s with
   |agg l=>grind|tup l=>grind|nw k l=>cases E|nm k k2 l=>cases E|ng k l=>cases E|_=>cases n <;>exact Y
 intro n;induction n with
 |zero=>
  intro b s v E U;cases s with
  |os id=>exact W 0 b id v E U|v x=>exact E.ao_ (.v x) V|rs k l=>exact E.ao_ .rs V|rm k k2 l=>exact E.ao_ .rm V|e0=>exact E.ao_ .e0 V|agg l=>exact Rel.any _|tup l=>exact Rel.any _
  |_=>exact O 0 0 b _ v E (λ_ e=>by cases e) (λ_ e=>by cases e)
 |succ n ih=>
  intro b s v E U;have hl:∀ (l:List SV) (vs:Array Value) (b:Nat),(∀ (j:Nat) (s:SV),l[j]? =some s->Rel F own w s (vs.getD j undef))->(∀ i id,(l.flatMap (lA h n))[i]? =some id->bo (b+i)=own id)->
    ∀ (j:Nat) (s:SV),(l.map (yo h n))[j]? =some s->wF F bo w n (b+cnt n ((l.map (yo h n)).take j)) s (vs.getD j undef):=by
   intro l vs b h1 h2 j s hj;obtain⟨x,hx2,rfl⟩:=ou hj;refine ih _ x _ (h1 j x hx2) λi id hi=>?_;have hc:cnt n ((l.map (yo h n)).take j)=((l.take j).flatMap (lA h n)).length:=by
    rw[<-List.map_take];generalize l.take j=m;induction m with
    |nil=>rfl|cons y r ihm=>grind [cnt,If]
   rw[hc,amF];refine h2 _ id ?_;have X:l=l.take j++(x::l.drop (j+1)):=by
    grind [List.getElem_cons_drop,List.take_append_drop]
   grind
  cases s with
  |os id=>exact W (n+1) b id v E U|v x=>exact E.ao_ (.v x) V|rs k l=>exact E.ao_ .rs V|rm k k2 l=>exact E.ao_ .rm V|e0=>exact E.ao_ .e0 V
  |agg l=>cases E with|agg h0 h1=>exact⟨_,rfl,by grind,hl l _ b h1 U⟩
  |tup l=>cases E with|tup h0 h1=>exact⟨_,rfl,by grind,hl l _ b h1 U⟩
  |_=>exact O (n+1) (n+1) b _ v E (λ_ e=>by cases e) (λ_ e=>by cases e)
theorem P9{own:Own}(E:Y1 F { w:=w,own:=dB} N own st a w'){s s2:SV}{u:Value}(hr:Rel F own w' s u)(hg:Cd st.h s=some s2):∃ bo,Handed F w bo w' s2 u:=by
 unfold Cd at hg;cases X:uniq (uW 3 s)&&(uW 3 s).all (λi=>Nat.blt i st.h.length)with
 |false=>grind
 |true=>
  rw[X]at hg;simp only[cond_true,alx]at hg;subst hg;rw[alt]at X;obtain⟨g1,g2,g3,g4⟩:=If (h:=st.h) 3 s;have hnd:(lA st.h 3 s).Nodup:=(Ez _ X.1).sublist g3;let bo:Own:=λi=>((lA st.h 3 s)[i]?).bind own
  have W:∀ i hd,bo i=some hd->∃ id,(lA st.h 3 s)[i]? =some id/\own id=some hd:=λi hd e=>by
   grind
  have Y:∀ b,¬df F own b->¬df F bo b:=λb X=>by
   rintro (hf| ⟨i,hd,e,V⟩);exact X (.inl hf);obtain⟨id,_,U⟩:=W i hd e;exact X (.inr ⟨id,hd,U,V⟩)
  refine⟨bo,⟨λi hd e=>?_,E.hp.aoY,λi hd b e V=>?_,λi j hi hj b e1 U hb1 hb2=>?_,λi hd b e V=>?_,λi O=>?_⟩,?_,λi hd b e V=>?_⟩;grind
  obtain⟨id,_,U⟩:=W i hd e;exact E.hp.apart id hd b U V;obtain⟨k1,p1,p2⟩:=W i hi e1;obtain⟨k2,q1,q2⟩:=W j hj U;have:=E.hp.inj k1 k2 hi hj b p2 q2 hb1 hb2;subst this;exact rY hnd p1 q1;obtain⟨id,_,U⟩:=W i hd e;exact E.hp.lt id hd b U V;rw[g1]at O |-;rw[uY]at O |-;rw[aml]at O |-;cases hi:(lA st.h 3 s)[i]? with
  |none=>grind [dI]
  |some id=>
   rw[hi]at O;simp only[amK,anK]at O |-;obtain⟨hd,e1,U⟩:=E.hp.obs id O;refine⟨hd,by grind,U.ao_ (g4 id (alH hi)) (.inl Y)⟩
  exact Sq E.hp Y 3 0 s u hr λi id hi=>by grind
  obtain⟨id,_,U⟩:=W i hd e;have:=E.fr.base id hd b U V;rcases amz b w.heap.size with hlt|hge;exact absurd ⟨hlt,λ⟨_,_,e,_⟩ =>by cases e⟩ this;exact hge
end
section
variable {P:Program}{F:Nat->Prop}{w0:Bs}{ro:Option Nat}{nd:Nat}{ts:Tis}{G:Cons}{L:vP}{N:Nat}
variable {w:World}
theorem wI{w':World}{s:SV}{u:Value}(E:∀ b,F b->b<w'.heap.size)(h:Rel F dB w' s u):Handed F w dB w' s u:=by
 refine⟨?_,Ug 3 0 h,λ_ _ _ e=>(by cases e)⟩;rw[Eg 3 h];exact zR E
variable {f:FuncId}{fn:Func}{c:Code}
theorem Ux(m:Bool) (hm:P.follows .mixedOrders=true) (hts:ts.ok P) (hG:aoI P G)    (hf:P.funcs[f]? =some fn) (hb:fn.body=some c) (hname:(fn.name== "runtime.NumGoroutine")=false)
  (hc:cV fn.ntmps c=true) {C:List SV->Option Con}
  (h:∀ l O,C l=some O->an O->l.length<=fn.ntmps/\∃ L,ak P none fn.ntmps L c/\exec ts G L c ⟨nV 0 l,[]⟩ (DX m fn.results.toList ts (dW O) (kY O))):B1 P f C:=by
 refine⟨λl O _ args w=>?_,λl O aqs hpre F w vs hF Y=>?_⟩;simp_all [callFunc];obtain⟨hlen,L,hl,hx⟩:=h l O aqs hpre;refine sA (n:=0) (callsIn_of_wp_marks hf hb trivial ?_);have hr:Y1 F { w:=w,own:=dB} fn.ntmps dB ⟨nV 0 l,[]⟩ { tmps:=vs++Array.replicate (fn.ntmps - vs.size) undef,defers:=[]} w:=
  ⟨by have:=Y.1;simp;omega,Dfr.nil,zR hF,Fr.refl _,λt=>qI Y _ t⟩
 refine wpIn_mono (rJ hm hts hG c hc hl F _ _ hx dB _ w hr) ?_;intro e a' w' hq;have key:∀ W own st,(∀ b,F b->W b)->Y1 W { w:=w,own:=dB} fn.ntmps own st a' w'->iR (dW O) (DU m fn.results.toList ts st)->LeavesInM (rd none) 0 P fn a'.tmps
   (λe w'=>(∃ s u bo,dW O s/\e=.returned u/\Handed F w bo w' s u/\Below w.heap.size w w')\/(∃ x,kY O x/\e=.panicked [{ v:=x,recovered:=false}]/\Below w.heap.size w w')) a'.defers .returning w':=by
  intro W own st hF1 hst E;refine mW hst (by simp) λw2 V=>?_;have U:=V.less hF1 rfl;unfold DU at E;cases hs:th (re ts st fn.results.toList)with
  |none=>
   cases m <;>simp only[cond_true,cond_false,DT,RL]at E <;>rw[hs]at E <;>exact E.elim
  |some s=>
   obtain⟨u,e1,e2⟩:=zQ (P:=P) hts U hs;refine⟨u,e1,.inl ?_⟩;cases m with
   |false=>
    simp only[cond_false,DT]at E;rw[hs]at E;exact⟨_,u,dB,E,rfl,wI U.hp.aoY (zN U.hp 4 s u e2),qH U.fr⟩
   |true=>
    simp only[cond_true,RL]at E;rw[hs]at E;change iR (dW O) (Cd st.h s)at E;cases hg:Cd st.h s with
    |none=>rw[hg]at E;exact E.elim
    |some s2=>
     rw[hg]at E;obtain⟨bo,hh⟩:=P9 U e2 hg;exact⟨_,u,bo,E,rfl,hh,qH U.fr⟩
 cases e with
 |normal=>obtain⟨W,own,st,X,h1,h2⟩:=hq;exact key W own st X h1 h2
 |ret=>obtain⟨W,own,st,X,h1,h2⟩:=hq;exact key W own st X h1 h2
 |exit id=>obtain⟨W,own,st,X,h1,h2⟩:=hq;exact h2.elim
 |panic ch=>
  obtain⟨x,W,own,st,X,h1,h2,rfl⟩:=hq;exact mW h1 (by simp) λw2 V=>.inr ⟨x,h2,rfl,qH V.fr⟩
 |_=>exact hq.elim
theorem Yj{js:List Nat}{n0:Nat}{own:Own}{h h':List Ob}{s s':SV}(U:Sub js n0 ⟨[(0,s)],h⟩ ⟨[(0,s')],h'⟩)(W:Hp F own w h)(O:Fr w0 own w)(V:∀ id hd,w0.own id=some hd->id<n0)(E:n0<=h'.length){u:Value}(Y:Rel F own w s u):
  Rel F (iS js h' own) w s' u:=by
 obtain⟨_,_,_,q4⟩:=JI U W O V E;obtain⟨_,⟨⟨X,k2⟩,_⟩,_⟩:=U;have e:s=ren (DW js) 5 s':=by simpa[lk]using X
 grind
variable {C:List SV->List Ob->Option ao3}
theorem EA(hm:P.follows .mixedOrders=true) (hts:ts.ok P) (hG:aoI P G)    (hf:P.funcs[f]? =some fn) (hb:fn.body=some c) (hname:(fn.name== "runtime.NumGoroutine")=false)
  (hc:cV fn.ntmps c=true) 
  (h:∀ l o O,C l o=some O->O.pre->l.length<=fn.ntmps/\∃ L Qx,ak P none fn.ntmps L c/\(∀ e st,Qx e st->Lh o.length fn.results.toList ts O e st)/\exec ts G L c ⟨nV 0 l,o⟩ Qx):ao2 P f C:=by
 refine⟨λl o O _ args w=>?_,λl o O aqs hpre F own w vs hp hvs=>?_⟩;simp_all [callFunc];obtain⟨hlen,L,Qx,hl,hQ,hx⟩:=h l o O aqs hpre;have X:∀ id hd,own id=some hd->id<o.length:=λid hd e=>hp.dom id hd e;refine sA (n:=0) (callsIn_of_wp_marks hf hb trivial ?_);have hr:Y1 F { w:=w,own:=own} fn.ntmps own ⟨nV 0 l,o⟩ { tmps:=vs++Array.replicate (fn.ntmps - vs.size) undef,defers:=[]} w:=
  ⟨by have:=hvs.1;simp;omega,Dfr.nil,hp,Fr.refl { w:=w,own:=own},λt=>qI hvs _ t⟩
 refine wpIn_mono (rJ hm hts hG c hc hl F _ _ hx own _ w hr) ?_;intro e a' w' Y
 replace Y:=uv hQ _ _ _ Y
 have key:∀ W bo st,(∀ b,F b->W b)->Y1 W { w:=w,own:=own} fn.ntmps bo st a' w'->DY o.length O (th (re ts st fn.results.toList)) st.h->LeavesInM (rd none) 0 P fn a'.tmps (λe w'=>∃ r bo,O.post r/\Jw F w own o.length e bo w' (O.res r)) a'.defers .returning w':=by
  intro W bo st hF1 hst U;refine mW hst (by simp) λw2 V=>?_;have E:=V.less hF1 rfl;cases hs:th (re ts st fn.results.toList)with
  |none=>rw[hs]at U;exact U.elim
  |some s=>
   rw[hs]at U;obtain⟨r,s',h',js,q1,q2,q3,q4⟩:=U;obtain⟨u,e1,e2⟩:=zQ (P:=P) hts E hs;obtain⟨k1,k2,_,_⟩:=JI q4 E.hp E.fr X q3;refine⟨u,e1,r,iS js h' bo,q1,?_⟩;rw[q2];exact⟨⟨u,rfl,Yj q4 E.hp E.fr X q3 e2⟩,k1,k2,q3⟩
 cases e with
 |normal=>obtain⟨W,bo,st,h0,h1,h2⟩:=Y;exact key W bo st h0 h1 h2
 |ret=>obtain⟨W,bo,st,h0,h1,h2⟩:=Y;exact key W bo st h0 h1 h2
 |exit id=>obtain⟨W,bo,st,h0,h1,h2⟩:=Y;exact h2.elim
 |panic ch=>
  obtain⟨x,W,bo,st,h0,h1,⟨r,h',js,q1,q2,q3,q4⟩,rfl⟩:=Y;refine mW h1 (by simp) λw2 V=>?_;have E:=V.less h0 rfl;obtain⟨k1,k2,_,_⟩:=JI q4 E.hp E.fr X q3;refine⟨r,iS js h' bo,q1,?_⟩;rw[q2];exact⟨rfl,k1,k2,q3⟩
 |_=>exact Y.elim
theorem ow(W:P.follows .mixedOrders=true) (U:ts.ok P) (hG:aoI P G)    (X:P.funcs[f]? =some fn) (V:fn.body=some c) (O:(fn.name== "runtime.NumGoroutine")=false)
  (hc:cV fn.ntmps c=true) 
  (h:∀ l o E,C l o=some E->E.pre->l.length<=fn.ntmps/\∃ L,ak P none fn.ntmps L c/\exec ts G L c ⟨nV 0 l,o⟩ (Lh o.length fn.results.toList ts E)):ao2 P f C:=
 EA W U hG X V O hc λl o E h1 h2=>by
  grind
theorem Y1.apZ{own:Own}{st:St}{a:Act}(h:Y1 F w0 N own st a w):∀ id hd,w0.own id=some hd->id<st.h.length:=λid hd e=>by
 obtain⟨hd',e',_⟩:=h.fr.ids id hd e;exact h.hp.dom id hd' e'
theorem wJ{ts:Tis}{G:Cons}{ro:Option Nat}{N:Nat}(hm:P.follows .mixedOrders=true)(hts:ts.ok P)(hG:aoI P G){id:Nat}(hc:cV N c=true){C:St->Option apB}
  (h:∀ st O,C st=some O->O.pre->∃ (σ:Type) (D:σ->St) (I:σ->Prop) (m:σ->Nat) (x0:σ) (js:List Nat),I x0/\st.h.length<=(D x0).h.length/\Sub js st.h.length st (D x0)/\
   ∀ x,I x->∃ L Qx,ak P ro N L c/\(∀ e st',Qx e st'->uX D I m st.h.length x id (λe st'=>∃ r js,O.post r/\O.ex r=e/\st.h.length<=(O.out r).h.length/\Sub js st.h.length st' (O.out r)) e st')/\exec ts G L c (D x) Qx):kZ P ro N id (.loop c) C:=by
 intro nd F w0 st O hC hpre own a w hr;obtain⟨σ,D,I,m,x0,js,h1,h2,h3,h4⟩:=h st O hC hpre;refine wpIn_mono (Id hm hts hG hc D I m st.h.length hr.apZ _ h4 x0 h1 _ a w (hr.sub h3 hr.apZ h2)) ?_;intro e a' w' hq;have key:∀ ex U bo st',Y1 U w0 N bo st' a' w'->(∃ r js,O.post r/\O.ex r=ex/\st.h.length<=(O.out r).h.length/\Sub js st.h.length st' (O.out r))->∃ P1 E,Y1 U w0 N P1 E a' w'/\∃ r,O.post r/\ex=O.ex r/\E=O.out r:=by
  rintro ex U bo st' hst ⟨r,js,W,V,q3,q4⟩;exact⟨_,_,hst.sub q4 hr.apZ q3,r,W,V.symm,rfl⟩
 cases e with
 |normal=>obtain⟨U,bo,st',X,Y,k2⟩:=hq;obtain⟨P1,E,W,V⟩:=key _ U bo st' Y k2;exact⟨U,P1,E,X,W,V⟩
 |exit j=>obtain⟨U,bo,st',X,Y,k2⟩:=hq;obtain⟨P1,E,W,V⟩:=key _ U bo st' Y k2;exact⟨U,P1,E,X,W,V⟩
 |ret=>obtain⟨U,bo,st',X,Y,k2⟩:=hq;obtain⟨P1,E,W,V⟩:=key _ U bo st' Y k2;exact⟨U,P1,E,X,W,V⟩
 |panic ch=>
  obtain⟨x,U,bo,st',X,Y,k2,k3⟩:=hq;obtain⟨P1,E,W,V⟩:=key _ U bo st' Y k2;exact⟨x,U,P1,E,X,W,V,k3⟩
 |_=>exact hq.elim
end
end Go.Sx
end
section
namespace Go.Sx
def Ou (k:TI->OR):Option TI->OR
 |some i=>k i|none=>.bad
section
variable {ts:Tis}{G:Cons}{L:vP}{t:List (Nat×SV)}{h:List Ob}{Q:Ex->St->Prop}{K:St->Prop}{Z:Value->St->Prop}{ops rest:List Oper}{nx:Nat}
variable {st st':St}
@[congr] theorem abV {c:Code}(e:st=st'):exec ts G L c st Q=exec ts G L c st' Q:=by rw[e]
@[congr] theorem Xv (e:st=st'):jo ts G ops rest st K Z=jo ts G ops rest st' K Z:=by rw[e]
variable {fps:List Fp}
@[congr] theorem aaC{i b:Nat}{ark:List Fp}(e0:fps=ark)(e:st=st'):jQ ts G ops K Z rest i b fps st=jQ ts G ops K Z rest i b ark st':=by rw[e,e0]
variable {d:Option Nat}{r r':OR}
@[congr] theorem aaD(e:r=r'):lJ G d st K Z r=lJ G d st K Z r':=by rw[e]
variable {g:Nat×Bool}
@[congr] theorem aaE(e:r=r'):stepG G ops g d st K Z r=stepG G ops g d st K Z r':=by rw[e]
variable {p:Prop}{r r':Option Dr}
@[congr] theorem Yk{next:List Nat->List Up->St->Prop}(e:r=r'):yO d st next p r=yO d st next p r':=by rw[e]
@[congr] theorem Yl{next:List Nat->List Up->St->Prop}(e:r=r'):ww ops g d st next p r=ww ops g d st next p r':=by rw[e]
variable {x:(Ex->St->Prop)->Prop}{c c':Option apB}
@[congr] theorem aaF{y:(Ex->St->Prop)->Prop}{Q:Ex->St->Prop}{s s':SV}(e:s=s')(e2:c=c'):DR x y Q s c=DR x y Q s' c':=by rw[e,e2]
@[congr] theorem aaG{Q:Ex->St->Prop}(e:c=c'):DS x Q c=DS x Q c':=by rw[e]
@[congr] theorem aaH(e:c=c'):rC Q c=rC Q c':=by rw[e]
def ad0:exec ts G L .skip ⟨t,h⟩ Q=Q .normal ⟨t,h⟩:=(rfl)
def aaI {id:Nat}{a:Array Oper}{d:Bool}:exec ts G L (.region id a d) ⟨t,h⟩ Q=DS (Cc ts G a d ⟨t,h⟩) Q (L (id+2000000) ⟨t,h⟩):=(rfl)
def aaJ:Cc ts G ops.toArray false ⟨t,h⟩ Q=jo ts G ops ops ⟨t,h⟩ (λst'=>Q .normal (wx ops st')) (λx st'=>Q (.pan x) st'):=(rfl)
attribute[go_sem]ad0 aaI aaJ
@[go_sem] def abW:= @DS.eq_1
variable {d:St}
def abX:inC d Q .normal ⟨t,h⟩=(h=d.h/\aqd t d.t):=(rfl)
def aiE{st:St}{x:Value}:inC d Q (.pan x) st=Q (.pan x) st:=(rfl)
attribute[go_sem]abX aiE
variable {a:Code}
def agi{b:Code}:exec ts G L (.seq a b) ⟨t,h⟩ Q=exec ts G L a ⟨t,h⟩ (Ex.then (λst'=>exec ts G L b st' Q) Q):=(rfl)
def ad1 {c:Operand}{x y:Code}:exec ts G L (.cond c x y) ⟨t,h⟩ Q=DR (exec ts G L x ⟨t,h⟩) (exec ts G L y ⟨t,h⟩) Q (raw t c) (L (TV c) ⟨t,h⟩):=(rfl)
attribute[go_sem]agi ad1
@[go_sem] def abY:= @DR.eq_1
@[go_sem] theorem agj{y:(Ex->St->Prop)->Prop}{s:SV}:DR x y Q s (some (JC d))=(zy (x (inJ d)) (y (inJ d)) s/\Q .normal d):=by
 have e:(λe st=>∃ r,(JC d).post r/\inJ ((JC d).out r) e st)=inJ d:=by
  funext e st
  exact propext ⟨λ⟨_,_,h⟩ =>h,λh=>⟨(),trivial,h⟩⟩
 show TW x y Q s (JC d)=_;unfold TW;rw[e];exact propext ⟨λh=>⟨h.1,h.2 () trivial⟩,λh=>⟨h.1,λ_ _=>h.2⟩⟩
@[go_sem] def agk:= @TV.eq_1
@[go_sem]def abZ:inJ d .normal ⟨t,h⟩=(h=d.h/\aqd t d.t):=(rfl)
@[go_sem] def agl:= @aqd.eq_1
@[go_sem] def ad2:= @aqd.eq_2
def Uy {id:Nat}{c:Code}:exec ts G L (.block id (.loop c)) ⟨t,h⟩ Q=rC Q (L id ⟨t,h⟩):=(rfl)
def Tq{id:Nat}{f:Operand}{ps:Array Tmp}{b:Code}:exec ts G L (.block id (.rangeFunc f ps a b)) ⟨t,h⟩ Q=rC Q (L id ⟨t,h⟩):=(rfl)
def Uz{id:Nat}{b:Code}:exec ts G L (.block id (.seq a b)) ⟨t,h⟩ Q=exec ts G L (.seq a b) ⟨t,h⟩ (Ex.block id Q):=(rfl)
def Tr{id:Nat}{c:Operand}{b:Code}:exec ts G L (.block id (.cond c a b)) ⟨t,h⟩ Q=exec ts G L (.cond c a b) ⟨t,h⟩ (Ex.block id Q):=(rfl)
def P_ {id j:Nat}{a:Array Oper}{d:Bool}:exec ts G L (.block id (.region j a d)) ⟨t,h⟩ Q=exec ts G L (.region j a d) ⟨t,h⟩ (Ex.block id Q):=(rfl)
def Ts {id:Nat}:exec ts G L (.block id .skip) ⟨t,h⟩ Q=exec ts G L .skip ⟨t,h⟩ (Ex.block id Q):=(rfl)
def ad3 {id:Nat}:exec ts G L (.exit id) ⟨t,h⟩ Q=Q (.exit id) ⟨t,h⟩:=(rfl)
def agm:exec ts G L .ret ⟨t,h⟩ Q=Q .ret ⟨t,h⟩:=(rfl)
def Sr {id:Nat}{c:Code}:exec ts G L (.block id (.scope c)) ⟨t,h⟩ Q=exec ts G L (.scope c) ⟨t,h⟩ (Ex.block id Q):=(rfl)
def Ss {id l:Nat}:exec ts G L (.block id (.label l)) ⟨t,h⟩ Q=exec ts G L (.label l) ⟨t,h⟩ (Ex.block id Q):=(rfl)
def ab0 {c:Code}:exec ts G L (.scope c) ⟨t,h⟩ Q=exec ts G L c ⟨t,h⟩ Q:=(rfl)
def ab1 {l:Nat}:exec ts G L (.label l) ⟨t,h⟩ Q=Q .normal ⟨t,h⟩:=(rfl)
attribute[go_sem]Uy Tq Uz Tr P_ Ts ad3 agm Sr Ss ab0 ab1
@[go_sem] def aaK:= @Ex.then.eq_1
def agn {st:St}:Ex.then K Q .ret st=Q .ret st:=(rfl)
def ad4 {st:St}{j:Nat}:Ex.then K Q (.exit j) st=Q (.exit j) st:=(rfl)
def Ym {st:St}{id:Nat}:Ex.block id Q .normal st=Q .normal st:=(rfl)
def ad5 {st:St}{id:Nat}:Ex.block id Q .ret st=Q .ret st:=(rfl)
def ago {st:St}{v:Value}:Ex.then K Q (.pan v) st=Q (.pan v) st:=(rfl)
def ad6 {st:St}{id:Nat}{v:Value}:Ex.block id Q (.pan v) st=Q (.pan v) st:=(rfl)
attribute[go_sem]agn ad4 Ym ad5 ago ad6
@[go_sem] def ab2:= @Ex.block.eq_1
@[go_sem] def aiF:= @zy.eq_1
variable {α:Type}{pre:Prop}{post:α->Prop}
def ab3{ex:α->Ex}{out:α->St}:rC Q (some ⟨α,pre,post,ex,out⟩)=(pre/\∀ r,post r->Q (ex r) (out r)):=(rfl)
def ab4:Cc ts G ops.toArray true ⟨t,h⟩ Q=jQ ts G ops (λst'=>Q .normal (wx ops st')) (λx st'=>Q (.pan x) st') ops 0 0 [] ⟨t,h⟩:=(rfl)
def aaL:jo ts G ops [] ⟨t,h⟩ K Z=K ⟨t,h⟩:=(rfl)
attribute[go_sem]ab3 ab4 aaL
variable {d:Option Nat}{ty:TypeId}{pos:String}{af:Array Edge}
def Yn{op:Op}:jo ts G ops (⟨d,op,ty,pos,af,none⟩::rest) ⟨t,h⟩ K Z=lJ G d ⟨t,h⟩ (λst'=>jo ts G ops rest st' K Z) Z (opS ⟨ts,ops,none,⟨t,h⟩,h.length⟩ op):=(rfl)
def ab5{i b:Nat}{op:Op}:jQ ts G ops K Z (⟨d,op,ty,pos,af,none⟩::rest) i b fps ⟨t,h⟩=yO d ⟨t,h⟩ (λall ups st'=>jQ ts G ops K Z rest (i+1) b (fps++[fpU op (fpO ⟨ts,ops,none,⟨t,h⟩,h.length⟩ op) all ups]) st') (sp ops b fps/\DP ops i=true/\lJ G d ⟨t,h⟩ (λst'=>jQ ts G ops K Z rest (i+1) (i+1) [] st') Z (opS ⟨ts,ops,none,⟨t,h⟩,h.length⟩ op)) (jM G h h.length (opS ⟨ts,ops,none,⟨t,h⟩,h.length⟩ op)):=(rfl)
def Yo{op:Op}:jo ts G ops (⟨d,op,ty,pos,af,some g⟩::rest) ⟨t,h⟩ K Z=stepG G ops g d ⟨t,h⟩ (λst'=>jo ts G ops rest st' K Z) Z (opS ⟨ts,ops,some g,⟨t,h⟩,h.length⟩ op):=(rfl)
def ab6{i b:Nat}{op:Op}:jQ ts G ops K Z (⟨d,op,ty,pos,af,some g⟩::rest) i b fps ⟨t,h⟩=ww ops g d ⟨t,h⟩ (λall ups st'=>jQ ts G ops K Z rest (i+1) b (fps++[fpU op (fpO ⟨ts,ops,some g,⟨t,h⟩,h.length⟩ op) all ups]) st') (sp ops b fps/\DP ops i=true/\stepG G ops g d ⟨t,h⟩ (λst'=>jQ ts G ops K Z rest (i+1) (i+1) [] st') Z (opS ⟨ts,ops,some g,⟨t,h⟩,h.length⟩ op)) (jM G h h.length (opS ⟨ts,ops,some g,⟨t,h⟩,h.length⟩ op)):=(rfl)
def ad7{i b:Nat}:jQ ts G ops K Z [] i b fps ⟨t,h⟩=(sp ops b fps/\K ⟨t,h⟩):=(rfl)
attribute[go_sem]Yn ab5 Yo ab6 ad7
variable {d:Nat}
@[go_sem]def ad8{s:SV}:lJ G (some d) ⟨t,h⟩ K Z (.val s)=K ⟨(d,s)::t,h⟩:=(rfl)
variable {c:Prop}
def ad9{s:SV}:lJ G (some d) ⟨t,h⟩ K Z (.chk c s)=(c/\K ⟨(d,s)::t,h⟩):=(rfl)
def ad_{s:SV}:lJ G (some d) ⟨t,h⟩ K Z (.asm c s)=(c->K ⟨(d,s)::t,h⟩):=(rfl)
def ab7{s:SV}:lJ G (some d) ⟨t,h⟩ K Z (.apI s)=K ⟨(d,s)::t,h⟩:=(rfl)
attribute[go_sem]ad9 ad_ ab7
variable {a:Prop}
def aea{s:SV}{ups:List Up}:lJ G (some d) ⟨t,h⟩ K Z (.eff c a ups s)=(c/\(a->K ⟨(d,s)::t,bf h ups⟩)):=(rfl)
def aeb:stepG G ops g (some d) ⟨t,h⟩ K Z .bad=(wu ops t ops.length g/\K ⟨(d,.gd g.1 g.2 .any)::t,h⟩):=(rfl)
def ab8:stepG G ops g none ⟨t,h⟩ K Z .bad=(wu ops t ops.length g/\K ⟨t,h⟩):=(rfl)
def aec{s:SV}:stepG G ops g (some d) ⟨t,h⟩ K Z (.val s)=K ⟨(d,.gd g.1 g.2 s)::t,h⟩:=(rfl)
def aed{s:SV}:stepG G ops g (some d) ⟨t,h⟩ K Z (.chk c s)=((dR ops t ops.length g->c)/\K ⟨(d,.gd g.1 g.2 s)::t,h⟩):=(rfl)
def aee{s:SV}:stepG G ops g (some d) ⟨t,h⟩ K Z (.asm c s)=K ⟨(d,.gd g.1 g.2 s)::t,h⟩:=(rfl)
def ab9{s:SV}:stepG G ops g (some d) ⟨t,h⟩ K Z (.apI s)=K ⟨(d,.gd g.1 g.2 s)::t,h⟩:=(rfl)
def aef{s:SV}{ups:List Up}:stepG G ops g (some d) ⟨t,h⟩ K Z (.eff c a ups s)=((dR ops t ops.length g->c/\(a->K ⟨(d,.gd g.1 g.2 s)::t,bf h ups⟩))/\(gC ops t ops.length g->K ⟨(d,.gd g.1 g.2 .any)::t,h⟩)):=(rfl)
attribute[go_sem]aea aeb ab8 aec aed aee ab9 aef
variable {c:Option ao3}{np:Bool}
def aeg{ids:List Nat}{s:SV}:wv np ids (some d) ⟨t,h⟩ K Z c (some (.det p s))=bif np||jm 3 s then(p/\K ⟨(d,jn 3 h.length s)::t,h++aV 3 s⟩)else ym ids (some d) ⟨t,h⟩ K Z c:=(rfl)
def aeh{ids:List Nat}{out:α->SV}:wv np ids (some d) ⟨t,h⟩ K Z c (some (.rel α pre post out))=(pre/\(bif np then ∀ r,post r->K ⟨(d,jn 3 h.length (out r))::t,h++aV 3 (out r)⟩else False)):=(rfl)
attribute[go_sem]aeg aeh
variable {x:Value}
@[go_sem]def aei{ids:List Nat}{s:SV}{ok:Bool}:wv np ids (some d) ⟨t,h⟩ K Z c (some (.may ok s x))=(bif np||jm 3 s then(ok=true->K ⟨(d,jn 3 h.length s)::t,h++aV 3 s⟩)/\(ok=false->Z x ⟨apG t,h⟩)else False):=(rfl)
variable {h':List Ob}
def agp{ids:List Nat}{s:SV}:Jc ids (some d) ⟨t,h⟩ K Z (.ret s h')=K ⟨(d,ren (rB ids h.length) 3 s)::t,mJ ids h.length h 0 h'⟩:=(rfl)
def agq{ids:List Nat}{s:SV}:RJ ids g (some d) ⟨t,h⟩ K Z (.ret s h')=K ⟨(d,.gd g.1 g.2 (ren (rB ids h.length) 3 s))::t,mJ ids h.length h 0 h'⟩:=(rfl)
attribute[go_sem]agp agq
@[go_sem] def aaM:= @yN.eq_2
variable {o:ao3}
def aaN{ids:List Nat}:yN ids ops g (some d) ⟨t,h⟩ K Z (some o)=((dR ops t ops.length g->o.pre/\∀ r,o.post r->RJ ids g (some d) ⟨t,h⟩ K Z (o.res r))/\(gC ops t ops.length g->K ⟨(d,.gd g.1 g.2 .any)::t,h⟩)):=(rfl)
def aej{ids:List Nat}{s:SV}:DQ np ids ops g (some d) ⟨t,h⟩ K Z c (some (.det p s))=((dR ops t ops.length g->p)/\(bif(np||jm 3 s)&&(aV 3 s).isEmpty then K ⟨(d,.gd g.1 g.2 s)::t,h⟩else False)):=(rfl)
attribute[go_sem]aaN aej
variable {res:α->Bool×Res}
def aek{id:Nat}:NJ id (some d) ⟨t,h⟩ K (some ⟨α,pre,post,res⟩)=(pre/\∀ r,post r->K ⟨(d,.b (res r).1)::t,cF h id (.ab (res r).2)⟩):=(rfl)
def ael{id:Nat}:Lf id ops g (some d) ⟨t,h⟩ K (some ⟨α,pre,post,res⟩)=((dR ops t ops.length g->pre/\∀ r,post r->K ⟨(d,.gd g.1 g.2 (.b (res r).1))::t,cF h id (.ab (res r).2)⟩)/\(gC ops t ops.length g->K ⟨(d,.gd g.1 g.2 .any)::t,h⟩)):=(rfl)
attribute[go_sem]aek ael
variable {K0 c:Prop}
def akf{next:List Nat->List Up->St->Prop}{s:SV}{ups:List Up}{all:List Nat}:yO (some d) ⟨t,h⟩ next K0 (some ⟨c,a,s,ups,all⟩)=(c/\(a->next all ups ⟨(d,s)::t,bf h ups⟩)):=(rfl)
def akg{next:List Nat->List Up->St->Prop}{s:SV}{ups:List Up}{all:List Nat}:ww ops g (some d) ⟨t,h⟩ next K0 (some ⟨c,a,s,ups,all⟩)=bif ups.isEmpty then(dR ops t ops.length g->c)/\next all [] ⟨(d,.gd g.1 g.2 s)::t,h⟩else ¬ (dR ops t ops.length g/\gC ops t ops.length g)/\(dR ops t ops.length g->c/\(a->next all ups ⟨(d,.gd g.1 g.2 s)::t,bf h ups⟩))/\(gC ops t ops.length g->next all [] ⟨(d,.gd g.1 g.2 s)::t,h⟩):=(rfl)
def ab_ {s:SV}:lJ G none ⟨t,h⟩ K Z (.val s)=K ⟨t,h⟩:=(rfl)
def aca{s:SV}:lJ G none ⟨t,h⟩ K Z (.chk c s)=(c/\K ⟨t,h⟩):=(rfl)
def acb{s:SV}:lJ G none ⟨t,h⟩ K Z (.asm c s)=(c->K ⟨t,h⟩):=(rfl)
def aaO {s:SV}:lJ G none ⟨t,h⟩ K Z (.apI s)=K ⟨t,h⟩:=(rfl)
def acd{s:SV}{ups:List Up}:lJ G none ⟨t,h⟩ K Z (.eff c a ups s)=(c/\(a->K ⟨t,bf h ups⟩)):=(rfl)
def ace{s:SV}:stepG G ops g none ⟨t,h⟩ K Z (.val s)=K ⟨t,h⟩:=(rfl)
def acf{s:SV}:stepG G ops g none ⟨t,h⟩ K Z (.chk c s)=((dR ops t ops.length g->c)/\K ⟨t,h⟩):=(rfl)
def acg{s:SV}:stepG G ops g none ⟨t,h⟩ K Z (.asm c s)=K ⟨t,h⟩:=(rfl)
def aaP{s:SV}:stepG G ops g none ⟨t,h⟩ K Z (.apI s)=K ⟨t,h⟩:=(rfl)
def ach{s:SV}{ups:List Up}:stepG G ops g none ⟨t,h⟩ K Z (.eff c a ups s)=((dR ops t ops.length g->c/\(a->K ⟨t,bf h ups⟩))/\(gC ops t ops.length g->K ⟨t,h⟩)):=(rfl)
attribute[go_sem]akf akg ab_ aca acb aaO acd ace acf acg aaP ach
variable {c:Option ao3}
def aci{ids:List Nat}{s:SV}:wv np ids none ⟨t,h⟩ K Z c (some (.det p s))=bif np||jm 3 s then(p/\K ⟨t,h++aV 3 s⟩)else ym ids none ⟨t,h⟩ K Z c:=(rfl)
def acj{ids:List Nat}{out:α->SV}:wv np ids none ⟨t,h⟩ K Z c (some (.rel α pre post out))=(pre/\(bif np then ∀ r,post r->K ⟨t,h++aV 3 (out r)⟩else False)):=(rfl)
def ack{ids:List Nat}{s:SV}{ok:Bool}:wv np ids none ⟨t,h⟩ K Z c (some (.may ok s x))=(bif np||jm 3 s then(ok=true->K ⟨t,h++aV 3 s⟩)/\(ok=false->Z x ⟨apG t,h⟩)else False):=(rfl)
def aem{ids:List Nat}{s:SV}:Jc ids none ⟨t,h⟩ K Z (.ret s h')=K ⟨t,mJ ids h.length h 0 h'⟩:=(rfl)
def aen{ids:List Nat}{s:SV}:RJ ids g none ⟨t,h⟩ K Z (.ret s h')=K ⟨t,mJ ids h.length h 0 h'⟩:=(rfl)
def Yp{ids:List Nat}:yN ids ops g none ⟨t,h⟩ K Z (some o)=((dR ops t ops.length g->o.pre/\∀ r,o.post r->RJ ids g none ⟨t,h⟩ K Z (o.res r))/\(gC ops t ops.length g->K ⟨t,h⟩)):=(rfl)
def acl{ids:List Nat}{s:SV}:DQ np ids ops g none ⟨t,h⟩ K Z c (some (.det p s))=((dR ops t ops.length g->p)/\(bif(np||jm 3 s)&&(aV 3 s).isEmpty then K ⟨t,h⟩else False)):=(rfl)
def acm{id:Nat}:NJ id none ⟨t,h⟩ K (some ⟨α,pre,post,res⟩)=(pre/\∀ r,post r->K ⟨t,cF h id (.ab (res r).2)⟩):=(rfl)
def acn{id:Nat}:Lf id ops g none ⟨t,h⟩ K (some ⟨α,pre,post,res⟩)=((dR ops t ops.length g->pre/\∀ r,post r->K ⟨t,cF h id (.ab (res r).2)⟩)/\(gC ops t ops.length g->K ⟨t,h⟩)):=(rfl)
def aiG{next:List Nat->List Up->St->Prop}{c:Prop}{s:SV}{ups:List Up}{all:List Nat}:yO none ⟨t,h⟩ next K0 (some ⟨c,a,s,ups,all⟩)=(c/\(a->next all ups ⟨t,bf h ups⟩)):=(rfl)
def aiH{next:List Nat->List Up->St->Prop}{c:Prop}{s:SV}{ups:List Up}{all:List Nat}:ww ops g none ⟨t,h⟩ next K0 (some ⟨c,a,s,ups,all⟩)=bif ups.isEmpty then(dR ops t ops.length g->c)/\next all [] ⟨t,h⟩else ¬ (dR ops t ops.length g/\gC ops t ops.length g)/\(dR ops t ops.length g->c/\(a->next all ups ⟨t,bf h ups⟩))/\(gC ops t ops.length g->next all [] ⟨t,h⟩):=(rfl)
attribute[go_sem]aci acj ack aem aen Yp acl acm acn aiG aiH
@[go_sem] def aaQ:= @yO.eq_2
@[go_sem] def aaR:= @ww.eq_2
variable {d:Option Nat}{f:FuncId}{args:List SV}
def aco:lJ G d ⟨t,h⟩ K Z (.call f args)=wv (args.all (dA 3)) (reach h 64 (args.flatMap (fH 3)) []) d ⟨t,h⟩ K Z (G.o f (args.map (ren (inN (reach h 64 (args.flatMap (fH 3)) [])) 6)) (rF h (reach h 64 (args.flatMap (fH 3)) []))) (G.p f (args.map (gw h 6))):=(rfl)
def acp:stepG G ops g d ⟨t,h⟩ K Z (.call f args)=DQ (args.all (dA 3)) (reach h 64 (args.flatMap (fH 3)) []) ops g d ⟨t,h⟩ K Z (G.o f (args.map (ren (inN (reach h 64 (args.flatMap (fH 3)) [])) 6)) (rF h (reach h 64 (args.flatMap (fH 3)) []))) (G.p f (args.map (gw h 6))):=(rfl)
def aeo{id:Nat}:lJ G d ⟨t,h⟩ K Z (.yld id args)=bif args.all (dA 3)then NJ id d ⟨t,h⟩ K (Jd G args (aq h id))else False:=(rfl)
def aep{id:Nat}:stepG G ops g d ⟨t,h⟩ K Z (.yld id args)=bif args.all (dA 3)then Lf id ops g d ⟨t,h⟩ K (Jd G args (aq h id))else False:=(rfl)
attribute[go_sem]aco acp aeo aep
@[go_sem] def aiI:= @Jd.eq_1
@[go_sem]def aeq{id:Nat}:lJ G d ⟨t,h⟩ K Z (.nxt id)=XX id d ⟨t,h⟩ K (aq h id):=(rfl)
variable {left:List Nat}
def aiJ{id mid n:Nat}{cur:Option Nat}:XX id d ⟨t,h⟩ K (.mi (some mid) n left cur)=TT id mid n left d ⟨t,h⟩ K (aq h mid):=(rfl)
def aiK{d id mid n it:Nat}{kk vk:Tag}{l:List (kk.T×vk.T)}:TT id mid n left (some d) ⟨t,h⟩ K (.mp kk vk l (some (it,none)))=((it=id/\n=l.length)/\(left=[]->K ⟨(d,.tup [.v (.bool false)])::t,h⟩)/\∀ j,j∈left->K ⟨(d,.tup [.v (.bool true),svT kk (l.getD j (eC kk,eC vk)).1,svT vk (l.getD j (eC kk,eC vk)).2])::t,cF h id (.mi (some mid) n (left.erase j) (some j))⟩):=(rfl)
def agr {id:Nat}:jM G h nx (.nxt id)=none:=(rfl)
attribute[go_sem]aiJ aiK agr
variable {p:Bool->Prop}
def ags:jM G h nx (.amb p)=none:=(rfl)
def aer{d:Nat}:lJ G (some d) ⟨t,h⟩ K Z (.amb p)= ∀ b,p b->K ⟨(d,.v (.bool b))::t,h⟩:=(rfl)
def aes:lJ G d ⟨t,h⟩ K Z (.pan x)=Z x ⟨apG t,h⟩:=(rfl)
def aet{ids:List Nat}:wv np ids d ⟨t,h⟩ K Z c none=ym ids d ⟨t,h⟩ K Z c:=(rfl)
def acq{ids:List Nat}:ym ids d ⟨t,h⟩ K Z (some o)=(o.pre/\∀ r,o.post r->Jc ids d ⟨t,h⟩ K Z (o.res r)):=(rfl)
def agt{ids:List Nat}:Jc ids d ⟨t,h⟩ K Z (.pan x h')=Z x ⟨apG t,mJ ids h.length h 0 h'⟩:=(rfl)
def agu{ids:List Nat}:RJ ids g d ⟨t,h⟩ K Z (.pan x h')=Z x ⟨apG t,mJ ids h.length h 0 h'⟩:=(rfl)
def aeu{ids:List Nat}:DQ np ids ops g d ⟨t,h⟩ K Z c none=yN ids ops g d ⟨t,h⟩ K Z c:=(rfl)
attribute[go_sem]ags aer aes aet acq agt agu aeu
@[go_sem] def agv:= @jM.eq_7
@[go_sem] def agw:= @jM.eq_1
@[go_sem] def agx:= @jM.eq_2
@[go_sem] def agy:= @jM.eq_3
@[go_sem] def aev:= @jM.eq_4
@[go_sem] def agz:= @jM.eq_5
@[go_sem] def aew:= @jM.eq_6
def agA{id:Nat}:jM G h nx (.yld id args)=none:=(rfl)
def agB:jM G h nx (.pan x)=none:=(rfl)
attribute[go_sem]agA agB
@[go_sem] def aiL:= @drC.eq_1
@[go_sem] def aiM:= @drR.eq_1
@[go_sem] def aiN:= @drR.eq_2
def aiO{rd:List Nat}{s:SV}{p:Prop}{o1 o2:Ob}{l:List Ob}:drR np rd nx p s (o1::o2::l)=none:=(rfl)
def aiP{rd:List Nat}{out:α->SV}:drC np rd nx (some (.rel α pre post out))=none:=(rfl)
def aiQ{rd:List Nat}{s:SV}{ok:Bool}:drC np rd nx (some (.may ok s x))=none:=(rfl)
def agC{rd:List Nat}:drC np rd nx none=none:=(rfl)
attribute[go_sem]aiO aiP aiQ agC
@[go_sem] def aex:= @sp.eq_1
variable {g:Option (Nat×Bool)}
@[go_sem]def akh {x:Operand}:val ⟨ts,ops,g,⟨t,h⟩,nx⟩ x=bF ops g (raw t x):=(rfl)
variable {cx:Cx}{x y a b:Operand}{ty n f:Nat}
@[go_sem] def agD:= @opS.eq_1
@[go_sem] def acr:= @opS.eq_2
variable {c:Operand}
def agE:opS ⟨ts,ops,g,⟨t,h⟩,nx⟩ (.pick c a b)=DH a b (bF ops g (raw t c)) (kA ops g c true (raw t a)) (kA ops g c false (raw t b)):=(rfl)
def aey:opS ⟨ts,ops,g,⟨t,h⟩,nx⟩ (.alloc ty)=aI ts ty λti=>I6 nx (some ti.zero):=(rfl)
def aiR:opS ⟨ts,ops,g,⟨t,h⟩,nx⟩ (.box ty x)=I6 nx (pf (bF ops g (raw t x))):=(rfl)
attribute[go_sem]agE aey aiR
variable {parts:List (Nat×Operand)}
def aez:opS ⟨ts,ops,g,⟨t,h⟩,nx⟩ (.build ty parts.toArray)=aI ts ty λti=>bif ti.apK then aI ts ti.elem λte=>NF (lI (λi=>some (i*te.size,te.size)) ti.zero (iK ⟨ts,ops,g,⟨t,h⟩,nx⟩ parts))else bif ti.agg then NF (lI (λi=>(nth ti.fields i).map λf=>(f.1,f.2.1)) ti.zero (iK ⟨ts,ops,g,⟨t,h⟩,nx⟩ parts))else .bad:=(rfl)
def UA:opS ⟨ts,ops,g,⟨t,h⟩,nx⟩ (.buildSlice ty n parts.toArray)=aI ts ty λti=>aI ts ti.elem λte=>GI (I7 ty ops g) nx te (bsS ti te n (iK ⟨ts,ops,g,⟨t,h⟩,nx⟩ parts)):=(rfl)
def agF:opS ⟨ts,ops,g,⟨t,h⟩,nx⟩ (.load ty a)=aI ts ty λti=>qy ti h (bF ops g (raw t a)):=(rfl)
def aeA:opS ⟨ts,ops,g,⟨t,h⟩,nx⟩ (.store ty a x)=aI ts ty λti=>ra ti.size nx h (bF ops g (raw t a)) (bF ops g (raw t x)):=(rfl)
def Yq:opS ⟨ts,ops,g,⟨t,h⟩,nx⟩ (.nilCheck x)=Tx (bF ops g (raw t x)):=(rfl)
def aeB {op:BinOp}:opS ⟨ts,ops,g,⟨t,h⟩,nx⟩ (.binOp op ty x y n)=I2 ts op ty (bF ops g (raw t x)) (bF ops g (raw t y)):=(rfl)
def agG {op:UnOp}:opS ⟨ts,ops,g,⟨t,h⟩,nx⟩ (.unOp op ty x)=unS op (bF ops g (raw t x)):=(rfl)
def aaS:opS ⟨ts,ops,g,⟨t,h⟩,nx⟩ (.convert n ty x)=aI ts n λ_=>aI ts ty λti=>K_ ti.int (bF ops g (raw t x)):=(rfl)
def Yr {fn:Fn}{first caps:List Operand}:opS cx (.makeFunc fn first.toArray caps.toArray)=Lc fn (dx cx first) (dx cx caps):=(rfl)
attribute[go_sem]aez UA agF aeA Yq aeB agG aaS Yr
def aaT (k:SV):Option (Nat×Nat×Bool)->OR
 |some (o,n,_) =>bif Nat.ble 1 n then AS o k else .bad|none=>.bad
@[go_sem] def acs:= @aaT.eq_1
def Xw:opS ⟨ts,ops,g,⟨t,h⟩,nx⟩ (.fieldAddr ty x f)=aI ts ty λti=>aaT (bF ops g (raw t x)) (nth ti.fields f):=(rfl)
def aeC:opS ⟨ts,ops,g,⟨t,h⟩,nx⟩ (.field ty x f)=aI ts ty λti=>sn (nth ti.fields f) (zr (bF ops g (raw t x))):=(rfl)
def Xx:opS ⟨ts,ops,g,⟨t,h⟩,nx⟩ (.indexAddr ty x y)=aI ts ty λti=>aI ts ti.elem λte=>iv ti te.size h (bF ops g (raw t x)) (bF ops g (raw t y)):=(rfl)
def aeD:opS ⟨ts,ops,g,⟨t,h⟩,nx⟩ (.panic x)=TF (bF ops g (raw t x)):=(rfl)
def Qa:opS ⟨ts,ops,g,⟨t,h⟩,nx⟩ (.makeInterface ty x)=aI ts ty λti=>bif ti.iface then .bad else DK ty (bF ops g (raw t x)):=(rfl)
def UB {ok:Bool}:opS ⟨ts,ops,g,⟨t,h⟩,nx⟩ (.typeAssert x n ty ok)=aI ts ty λti=>taS ty ok ti (bF ops g (raw t x)):=(rfl)
def aaU:opS ⟨ts,ops,g,⟨t,h⟩,nx⟩ (.extract x n)=TE n (bF ops g (raw t x)):=(rfl)
def Xy:opS ⟨ts,ops,g,⟨t,h⟩,nx⟩ (.makeSlice ty x y)=aI ts ty λti=>aI ts ti.elem λte=>bif ti.isSlice then(bif te.isSlice then aI ts te.elem λtr=>GJ nx te tr (bF ops g (raw t x)) (bF ops g (raw t y))else mkS nx te (bF ops g (raw t x)) (bF ops g (raw t y)))else .bad:=(rfl)
attribute[go_sem]Xw aeC Xx aeD Qa UB aaU Xy
variable {lo hi:Option Operand}
def aeE:opS ⟨ts,ops,g,⟨t,h⟩,nx⟩ (.slice ty x lo hi none)=aI ts ty λti=>aI ts ti.elem λte=>mL ti te.size nx h (ol ⟨ts,ops,g,⟨t,h⟩,nx⟩ lo) (ol ⟨ts,ops,g,⟨t,h⟩,nx⟩ hi) (HR hi&&Lb ops) (bF ops g (raw t x)):=(rfl)
def agH{m:Operand}:opS ⟨ts,ops,g,⟨t,h⟩,nx⟩ (.slice ty x lo hi (some m))=aI ts ty λti=>aI ts ti.elem λ_=>DN ti (ol ⟨ts,ops,g,⟨t,h⟩,nx⟩ lo) (ol ⟨ts,ops,g,⟨t,h⟩,nx⟩ hi) (bF ops g (raw t m)) (bF ops g (raw t x)):=(rfl)
def aaV:opS ⟨ts,ops,g,⟨t,h⟩,nx⟩ (.makeMap ty none)=aI ts ty λti=>mmR nx ti.mkt ti.mvt:=(rfl)
def act {ok:Bool}:opS ⟨ts,ops,g,⟨t,h⟩,nx⟩ (.lookup ty x y ok)=aI ts ty λti=>tx ti h ok (bF ops g (raw t y)) (bF ops g (raw t x)):=(rfl)
def Xz:opS ⟨ts,ops,g,⟨t,h⟩,nx⟩ (.mapUpdate ty x y a)=aI ts ty λti=>CG ti h (bF ops g (raw t y)) (bF ops g (raw t a)) (bF ops g (raw t x)):=(rfl)
def acu:opS ⟨ts,ops,g,⟨t,h⟩,nx⟩ (.insert ty x y a)=aI ts ty λti=>CG ti h (bF ops g (raw t y)) (bF ops g (raw t a)) (bF ops g (raw t x)):=(rfl)
def Ys:opS ⟨ts,ops,g,⟨t,h⟩,nx⟩ (.mapEntry ty x y)=aI ts ty λti=>xS ti nx h (bF ops g (raw t y)) (bF ops g (raw t x)):=(rfl)
def UC:opS ⟨ts,ops,g,⟨t,h⟩,nx⟩ (.entryStore ty x y a)=aI ts ty λti=>I_ ti h (bF ops g (raw t a)) (bF ops g (raw t x)) (bF ops g (raw t y)):=(rfl)
attribute[go_sem]aeE agH aaV act Xz acu Ys UC
variable {args:List Operand}
def agI{tys:Array TypeId}:opS ⟨ts,ops,g,⟨t,h⟩,nx⟩ (.call ⟨.value x,args.toArray,tys⟩)=zu (dx ⟨ts,ops,g,⟨t,h⟩,nx⟩ args) (bF ops g (raw t x)):=(rfl)
def aiS:opS ⟨ts,ops,g,⟨t,h⟩,nx⟩ (.call ⟨.builtin .len,args.toArray,[ty].toArray⟩)=aI ts ty λti=>tU ti h (dx ⟨ts,ops,g,⟨t,h⟩,nx⟩ args):=(rfl)
def acv:opS ⟨ts,ops,g,⟨t,h⟩,nx⟩ (.call ⟨.builtin .append,args.toArray,[ty,n].toArray⟩)=aI ts ty λti=>aI ts n λti2=>aI ts ti.elem λte=>bif ti.isSlice&&ti2.isSlice then mt te nx h (dx ⟨ts,ops,g,⟨t,h⟩,nx⟩ args)else .bad:=(rfl)
def acw{tys:List TypeId}:opS ⟨ts,ops,g,⟨t,h⟩,nx⟩ (.call ⟨.builtin .delete,args.toArray,(ty::tys).toArray⟩)=aI ts ty λti=>yL ti h (dx ⟨ts,ops,g,⟨t,h⟩,nx⟩ args):=(rfl)
def aeF:opS ⟨ts,ops,g,⟨t,h⟩,nx⟩ (.call ⟨.builtin .clear,args.toArray,[ty].toArray⟩)=aI ts ty λti=>aI ts ti.elem λte=>yK ti te h (dx ⟨ts,ops,g,⟨t,h⟩,nx⟩ args):=(rfl)
attribute[go_sem]agI aiS acv acw aeF
variable {tys:Array TypeId}
def aiT:opS cx (.call ⟨.builtin .min,args.toArray,tys⟩)=I8 (dx cx args):=(rfl)
def aiU:opS cx (.call ⟨.builtin .max,args.toArray,tys⟩)=I9 (dx cx args):=(rfl)
def aeG:opS ⟨ts,ops,g,⟨t,h⟩,nx⟩ (.range ty x)=aI ts ty λti=>DO ti nx h (bF ops g (raw t x)):=(rfl)
def agJ:opS ⟨ts,ops,g,⟨t,h⟩,nx⟩ (.next x false)=TN (bF ops g (raw t x)):=(rfl)
def aeH:opS ⟨ts,ops,g,⟨t,h⟩,nx⟩ (.entry x)=Cb h (bF ops g (raw t x)):=(rfl)
def aeI:fpO ⟨ts,ops,g,⟨t,h⟩,nx⟩ (.range ty x)=(fX (bF ops g (raw t x)),[]):=(rfl)
def agK {s:Bool}:fpO cx (.next x s)=([],[]):=(rfl)
def aeJ:fpO ⟨ts,ops,g,⟨t,h⟩,nx⟩ (.entry x)=(fX (bF ops g (raw t x))++TQ h (bF ops g (raw t x)),[]):=(rfl)
def agL:fpO ⟨ts,ops,g,⟨t,h⟩,nx⟩ (.load ty a)=(fX (bF ops g (raw t a)),[]):=(rfl)
def aeK:fpO ⟨ts,ops,g,⟨t,h⟩,nx⟩ (.store ty a x)=(fX (bF ops g (raw t a))++fX (bF ops g (raw t x)),[]):=(rfl)
def XA:fpO ⟨ts,ops,g,⟨t,h⟩,nx⟩ (.indexAddr ty x y)=(fX (bF ops g (raw t x)),[]):=(rfl)
def aeL{mx:Option Operand}:fpO ⟨ts,ops,g,⟨t,h⟩,nx⟩ (.slice ty x lo hi mx)=(fX (bF ops g (raw t x)),[]):=(rfl)
def acx {ok:Bool}:fpO ⟨ts,ops,g,⟨t,h⟩,nx⟩ (.lookup ty x y ok)=bif ok then(fX (bF ops g (raw t x)),[])else([],fX (bF ops g (raw t x))):=(rfl)
def XB:fpO ⟨ts,ops,g,⟨t,h⟩,nx⟩ (.mapUpdate ty x y a)=(fX (bF ops g (raw t x)),[]):=(rfl)
def acy:fpO ⟨ts,ops,g,⟨t,h⟩,nx⟩ (.insert ty x y a)=(fX (bF ops g (raw t x)),[]):=(rfl)
def Yt:fpO ⟨ts,ops,g,⟨t,h⟩,nx⟩ (.mapEntry ty x y)=(fX (bF ops g (raw t x)),[]):=(rfl)
def UD:fpO ⟨ts,ops,g,⟨t,h⟩,nx⟩ (.entryStore ty x y a)=(fX (bF ops g (raw t x)),[]):=(rfl)
def aiV:fpO ⟨ts,ops,g,⟨t,h⟩,nx⟩ (.call ⟨.builtin .len,args.toArray,tys⟩)=(pg (dx ⟨ts,ops,g,⟨t,h⟩,nx⟩ args),[]):=(rfl)
def acz:fpO ⟨ts,ops,g,⟨t,h⟩,nx⟩ (.call ⟨.builtin .append,args.toArray,tys⟩)=(pg (dx ⟨ts,ops,g,⟨t,h⟩,nx⟩ args),[]):=(rfl)
def acA:fpO ⟨ts,ops,g,⟨t,h⟩,nx⟩ (.call ⟨.builtin .delete,args.toArray,tys⟩)=(pg (dx ⟨ts,ops,g,⟨t,h⟩,nx⟩ args),[]):=(rfl)
def aeM:fpO ⟨ts,ops,g,⟨t,h⟩,nx⟩ (.call ⟨.builtin .clear,args.toArray,tys⟩)=(pg (dx ⟨ts,ops,g,⟨t,h⟩,nx⟩ args),[]):=(rfl)
def agM:fpO cx (.move x)=([],[]):=(rfl)
def acB:fpO cx (.assign x)=([],[]):=(rfl)
def agN:fpO cx (.pick x a b)=([],[]):=(rfl)
def aeN:fpO cx (.alloc ty)=([],[]):=(rfl)
def aiW:fpO cx (.box ty x)=([],[]):=(rfl)
attribute[go_sem]aiT aiU aeG agJ aeH aeI agK aeJ agL aeK XA aeL acx XB acy Yt UD aiV acz acA aeM agM acB agN aeN aiW
variable {parts:Array (Nat×Operand)}
def aeO:fpO cx (.build ty parts)=([],[]):=(rfl)
def UE:fpO cx (.buildSlice ty n parts)=([],[]):=(rfl)
def Yu:fpO cx (.nilCheck x)=([],[]):=(rfl)
def aeP {op:BinOp}:fpO cx (.binOp op ty x y n)=([],[]):=(rfl)
def agO {op:UnOp}:fpO cx (.unOp op ty x)=([],[]):=(rfl)
def aaW:fpO cx (.convert n ty x)=([],[]):=(rfl)
def Yv {fn:Fn}{first caps:Array Operand}:fpO cx (.makeFunc fn first caps)=([],[]):=(rfl)
def XC:fpO cx (.fieldAddr ty x f)=([],[]):=(rfl)
def aeQ:fpO cx (.field ty x f)=([],[]):=(rfl)
def aeR:fpO cx (.panic x)=([],[]):=(rfl)
def Qb:fpO cx (.makeInterface ty x)=([],[]):=(rfl)
def UF {ok:Bool}:fpO cx (.typeAssert x n ty ok)=([],[]):=(rfl)
def aaX:fpO cx (.extract x n)=([],[]):=(rfl)
def XD:fpO cx (.makeSlice ty x y)=([],[]):=(rfl)
def aaY {o:Option Operand}:fpO cx (.makeMap ty o)=([],[]):=(rfl)
attribute[go_sem]aeO UE Yu aeP agO aaW Yv XC aeQ aeR Qb UF aaX XD aaY
variable {args:Array Operand}
def agP:fpO cx (.call ⟨.value x,args,tys⟩)=([],[]):=(rfl)
def aiX:fpO cx (.call ⟨.builtin .min,args,tys⟩)=([],[]):=(rfl)
def aiY:fpO cx (.call ⟨.builtin .max,args,tys⟩)=([],[]):=(rfl)
attribute[go_sem]agP aiX aiY
@[go_sem] theorem aeS {k:TI->OR}:aI ts ty k=Ou k (ts ty):=by unfold aI Ou;cases ts ty <;>rfl
@[go_sem] def acC:= @Ou.eq_1
@[go_sem] def aaZ:= @kA.eq_1
variable {want:Bool}
def Yw:kA ops g c want .any=.any:=(rfl)
def acD{v:Value}:kA ops g c want (.v v)=.v v:=(rfl)
attribute[go_sem]Yw acD
@[go_sem] def aiZ:= @DH.eq_1
@[go_sem] def ai0:= @DH.eq_2
@[go_sem] def ai1:= @DH.eq_3
@[go_sem] def aeT:= @wx.eq_1
@[go_sem]def aeU {t:List (Nat×SV)}{h:List Ob}:ap8 ⟨t,h⟩=bif oo h then ⟨NK h t,yn h⟩else ⟨t,h⟩:=(rfl)
@[go_sem] def ai2:= @raw.eq_1
@[go_sem] def aeV:= @raw.eq_2
@[go_sem] def agQ:= @raw.eq_3
@[go_sem] theorem aki {n:Nat}{s:SV}{r:List (Nat×SV)}:lk n ((n,s)::r)=s:=by simp[lk]
@[go_sem] def ai3:= @lk.eq_2
@[go_sem] def akj:= @lk.eq_1
@[go_sem] def ai4:= @bF.eq_3
@[go_sem] def aeW:= @bF.eq_2
@[go_sem] def aeX:= @bF.eq_4
@[go_sem] def agR:= @bF.eq_5
@[go_sem] def agS:= @bF.eq_21
@[go_sem] def agT:= @bF.eq_6
@[go_sem] def agU:= @bF.eq_7
@[go_sem] def agV:= @bF.eq_8
@[go_sem] def agW:= @bF.eq_9
@[go_sem] def agX:= @bF.eq_10
@[go_sem] def agY:= @bF.eq_11
@[go_sem] def agZ:= @bF.eq_12
@[go_sem] def ag0:= @bF.eq_13
@[go_sem] def ag1:= @bF.eq_14
@[go_sem] def aeY:= @bF.eq_15
@[go_sem] def aeZ:= @bF.eq_16
@[go_sem] def ag2:= @bF.eq_17
@[go_sem] def ag3:= @bF.eq_1
end
section
variable {ti te:TI}{esz nx id id2 off:Nat}{h:List Ob}{k k2:Tag}{i j n c:Int}{kk kj:IntKind}{lo hi:Option SV}{key s:SV}{ok:Bool}{ts:Tis}{op:BinOp}{ty:Nat}
@[go_sem] def asD:= @one.eq_1
@[go_sem]def asG {α:Type}{x y:α}{l:List α}:one (x::y::l)=false:=(rfl)
@[go_sem] def ai5:= @GI.eq_1
variable {g:Option (Nat×Bool)}
def ai6{s:Nat}{l:List SV}:GI g nx te (.apI (.ls s l))=.apI (.ls s l):=(rfl)
def ai7:GI g nx te (.apI .e0)=.apI .e0:=(rfl)
def ag4 {a b:Int}:I2 ts op ty (.v (.int kk a)) (.v (.int kj b))=bif Ca op kk kj then ue op kk a b else .bad:=(rfl)
attribute[go_sem]ai6 ai7 ag4
variable {l:List k.T}
def ai8:I2 ts op ty (.rs k l) (.v (.slice none 0 0))=aI ts ty λti=>bif ti.isSlice then XJ op (l=[])else .bad:=(rfl)
def ag5 {a b:ByteArray}:I2 ts op ty (.v (.string a)) (.v (.string b))=aI ts ty λti=>bif Nat.beq ti.sc 2 then Pv op a b else .bad:=(rfl)
def ae0 {a b:Bool}:I2 ts op ty (.v (.bool a)) (.v (.bool b))=aI ts ty λti=>bif Nat.beq ti.sc 3 then I1 op a b else .bad:=(rfl)
def ag6 {a b:List SV}:I2 ts op ty (.agg a) (.agg b)=aI ts ty λti=>eqT op a b ti:=(rfl)
attribute[go_sem]ai8 ag5 ae0 ag6
@[go_sem] def ae1:= @iv.eq_1
@[go_sem] def ae2:= @iv.eq_2
@[go_sem] def ae3:= @iv.eq_3
@[go_sem] def ae4:= @iv.eq_4
@[go_sem] def acE:= @iv.eq_5
@[go_sem] def ae5:= @iv.eq_6
@[go_sem] def ae6:= @iv.eq_7
@[go_sem] def ai9:= @tU.eq_1
@[go_sem] def ag7:= @tU.eq_2
@[go_sem] def ai_:= @tU.eq_4
@[go_sem] def aja:= @tU.eq_3
@[go_sem] def ajb:= @tU.eq_5
@[go_sem] def ajc:= @tU.eq_6
@[go_sem] def ajd:= @tU.eq_7
def ag8{a b:Int}:DN ti none (some (.v (.int .i64 a))) (.v (.int .i64 b)) (.rs k l)=bif ti.isSlice then .chk (a=(l.length:Int)/\b=(l.length:Int)) (.rc k l)else .bad:=(rfl)
def ae7:DN ti none (some (.v (.int .i64 0))) (.v (.int .i64 0)) (.v (.slice none 0 0))=bif ti.isSlice then .val (.v (.slice none 0 0))else .bad:=(rfl)
attribute[go_sem]ag8 ae7
@[go_sem] def ae8:= @mL.eq_1
@[go_sem] def ae9:= @mL.eq_2
@[go_sem] def acF:= @TK.eq_1
@[go_sem] def ag9:= @bnd.eq_1
@[go_sem] def ag_:= @bnd.eq_2
@[go_sem] def ae_:= @XR.eq_1
@[go_sem] def afa:= @XS.eq_1
@[go_sem] def aje:= @mkS.eq_1
@[go_sem] def ajf:= @mt.eq_1
@[go_sem] def ajg:= @mt.eq_2
def afb:mt te nx h [.os id,(.rs k l)]=vZ te nx [(id,.dead)] h (.rs k l) (aq h id):=(rfl)
def afc:mt te nx h [.v (.slice none 0 0),(.rs k l)]=uU te nx h (.rs k l) te.tag:=(rfl)
attribute[go_sem]afb afc
@[go_sem] def ajh:= @mt.eq_7
@[go_sem] def aji:= @XO.eq_1
def afd:mt te nx h [.e0,(.rs k l)]=uU te nx h (.rs k l) te.tag:=(rfl)
def acG:mt te nx h [.os id,(.v (.slice none 0 0))]=vZ te nx [(id,.dead)] h (.v (.slice none 0 0)) (aq h id):=(rfl)
def acH:mt te nx h [.v (.slice none 0 0),(.v (.slice none 0 0))]=uU te nx h (.v (.slice none 0 0)) te.tag:=(rfl)
def acI:mt te nx h [.e0,(.v (.slice none 0 0))]=uU te nx h (.v (.slice none 0 0)) te.tag:=(rfl)
def afe:mt te nx h [.os id,.e0]=vZ te nx [(id,.dead)] h .e0 (aq h id):=(rfl)
def aff:mt te nx h [.v (.slice none 0 0),.e0]=uU te nx h .e0 te.tag:=(rfl)
def afg:mt te nx h [.e0,.e0]=uU te nx h .e0 te.tag:=(rfl)
def afh {s:Nat}{lo hi:Int}:mt te nx h [.os id,(.vw s id2 lo hi)]=vZ te nx [(id,.dead)] h (.vw s id2 lo hi) (aq h id):=(rfl)
def afi {s:Nat}{lo hi:Int}:mt te nx h [.v (.slice none 0 0),(.vw s id2 lo hi)]=uU te nx h (.vw s id2 lo hi) te.tag:=(rfl)
def afj {s:Nat}{lo hi:Int}:mt te nx h [.e0,(.vw s id2 lo hi)]=uU te nx h (.vw s id2 lo hi) te.tag:=(rfl)
attribute[go_sem]afd acG acH acI afe aff afg afh afi afj
@[go_sem] def afk:= @mt.eq_3
@[go_sem] def aha:= @XN.eq_1
def afl:mt te nx h [.v (.slice none 0 0),(.os id2)]=uU te nx h (.os id2) te.tag:=(rfl)
def afm:mt te nx h [.e0,(.os id2)]=uU te nx h (.os id2) te.tag:=(rfl)
attribute[go_sem]afl afm
@[go_sem] theorem acJ:zv k k l=some l:=by simp[zv]
@[go_sem] def ajj:= @ug.eq_1
@[go_sem] def ahb:= @ug.eq_2
@[go_sem] def ajk:= @ug.eq_3
@[go_sem] def ajl:= @ug.eq_4
@[go_sem] def ajm:= @ug.eq_5
@[go_sem] def ahc:= @tx.eq_1
@[go_sem] def ahd:= @tx.eq_2
@[go_sem] def afn:= @tx.eq_3
@[go_sem] def ajn:= @I_.eq_1
def ahe:AQ (.v (.int kk n))=some [(.v (.int kk n))]:=(rfl)
def ahf {b:ByteArray}:AQ (.v (.string b))=some [.v (.string b)]:=(rfl)
def afo {b:Bool}:AQ (.v (.bool b))=some [.v (.bool b)]:=(rfl)
def ajo:AQ (.rs k l)=some [.rs k l]:=(rfl)
def ajp {l:List (k.T×k2.T)}:AQ (.rm k k2 l)=some [.rm k k2 l]:=(rfl)
def ajq:AQ .e0=some [.e0]:=(rfl)
def ahg:AQ (.v (.slice none 0 0))=some [.v (.slice none 0 0)]:=(rfl)
def afp:AQ (.v (.map none))=some [.v (.map none)]:=(rfl)
attribute[go_sem]ahe ahf afo ajo ajp ajq ahg afp
@[go_sem] def afq:= @taS.eq_1
end
@[go_sem]def asL (a b:Nat):Nat.beq a b=(a==b):=by
 rw[amj];simp
@[go_sem]def asQ (a b:Nat):Nat.ble a b=decide (a<=b):=by
 rw[amj];simp
@[go_sem]def asO (a b:Nat):Nat.blt a b=decide (a<b):=by
 rw[amj];simp[Nat.blt];omega
section
variable {σ:Type}{D:σ->St}{I:σ->Prop}{m:σ->Nat}{x:σ}{id n0:Nat}{Q:Ex->St->Prop}{st:St}{rs:List ResultVar}{post:SV->Prop}{ts:Tis}{pp:Value->Prop}{C:ao3}{md:Bool}
@[go_sem] def XE:= @uX.eq_1
@[go_sem] def aa0:= @uX.eq_2
@[go_sem] def acK:= @uX.eq_3
@[go_sem] def acL:= @uX.eq_4
@[go_sem] def XF:= @iR.eq_1
@[go_sem] def afr:= @DX.eq_3
@[go_sem] def Yx:= @DX.eq_2
@[go_sem] def afs:= @DX.eq_4
@[go_sem] def Yy:= @Lh.eq_2
@[go_sem] def aft:= @Lh.eq_3
@[go_sem] def afu:= @Lh.eq_4
@[go_sem] def acM:= @DY.eq_1
@[go_sem]def akk {js:List Nat}{t t2:List (Nat×SV)}{h h2:List Ob}:Sub js n0 ⟨t,h⟩ ⟨t2,h2⟩=((uniq (mu js h2)=true/\AU 0 js n0=true/\js.all (λj=>Nat.blt j h.length)=true)/\RM (DW js) h2.length t t2/\GK (DW js) h2.length h js h2):=(rfl)
end
attribute [go_sem] TJ NH
attribute [go_sem] decide_true decide_false cond_true cond_false List.any_cons List.any_nil Option.isSome_none Option.isSome_some Bool.or_false Bool.false_or Bool.or_true Bool.true_or Bool.and_true Bool.true_and Bool.and_false Bool.false_and Bool.not_true Bool.not_false List.length_cons List.length_nil List.map_cons List.map_nil List.flatMap_cons List.flatMap_nil List.append_nil List.isEmpty_nil List.isEmpty_cons Option.map_some Option.map_none Option.bind_some Option.getD_some Option.getD_none Option.toList_some Option.toList_none List.cons_append List.nil_append Nat.zero_add Nat.add_zero Nat.zero_mul Nat.mul_one Nat.one_mul
 rE CE nth K9 ue Ca XJ Pv I1 eqV yJ eqL eqO eqT abr kN zr unS uf qy zt DI AR AS I3 Nx Ny lI rA CF sn NA I4 NB NC ND q_ ra DJ Tw I5 GJ XQ XP oo PE yn abK NK TU abJ Tx K_ I6 NF Tz lsS bsT bsU aga osL osV XK aby aat bsG bsS noG TE zu XL abA abz I8 I9 TF DK Lc TG abB TL TH vZ DL DM XM uU mkT XT HQ lz HR noE PA TM abD abE CG RE RG xS abF abG abH abI yL abC yK Pz mmR zsO svT B_ unT oi af2
 dR gC wu XV PD TR frz XW RH gw apG dA jm aV rb jn fH TS reach CH yM zx ren uV NI inN rF rB j9 mJ aq cF bf ft fX Ja pg kB RI zw af6 af7 TA Pw TB af8 abu NG Px La TC abv Lb af9 abw TD abx af_ Py aas I7 fpU HS pf cut K8 sz qZ DG gS cellsOf oj vO dN fit ub toI toB toS toF fnV t7 wj wl t8 wn zn wo DB K1 yH AM AN K2 vM HN K3 zo yj t_ Pr B8 tu tw K4 zp B9 HO HP DC vN yk ua Ps lH ke wp
 at0 mkE K5 xR AO yI zm eC aa isTrue isFalse dx iK ol XY RK Lg re th agd DT wy yo Cd aaw uW uniq RL DU XU DO TN TO PB Cb TQ TP am6 Nz uT List.all_cons List.all_nil aoX KZ RM GK Je PH wkL DV unp dI vQ mK mu AU DW
end Go.Sx
end
section
namespace Go.Sx
open IntKind (i64)
open Go.RowKit
universe u
variable {P:Program}
theorem Tis.Q1 {n:Nat}{x:TI}(h:ca P n=some x):Tis.ok (λt=>bif Nat.beq t n then some x else none) P:=λt i hi=>by
 grind [Nat.eq_of_beq_eq_true]
theorem Tis.S1 {n:Nat}{f g:Tis}(U:Tis.ok f P)(O:Tis.ok g P):Tis.ok (λt=>bif Nat.ble t n then f t else g t) P:=λt i hi=>by
 change (bif Nat.ble t n then f t else g t)=some i at hi;cases E:Nat.ble t n with
 |false=>rw[E]at hi;exact O t i hi|true=>rw[E]at hi;exact U t i hi
def ae (f:Func):Code:=match f.body with|some c=>c|none=>.skip
def L0:vP:=λ_ _=>none
@[go_sem] def ajr:= @L0.eq_1
def mkP:List (Nat×(List SV->Option Con))->FuncId->List SV->Option Con
 | [],_,_=>none|(n,C)::r,f,l=>bif Nat.beq n f then C l else mkP r f l
def mkO:List (Nat×(List SV->List Ob->Option ao3))->FuncId->List SV->List Ob->Option ao3
 | [],_,_,_=>none|(n,C)::r,f,l,h=>bif Nat.beq n f then C l h else mkO r f l h
theorem Ov:∀ (E:List (Nat×(List SV->Option Con))),(∀ x∈E,B1 P x.1 x.2)->∀ f,B1 P f (mkP E f)
 | [],_,f=>⟨λl c h=>(by cases h),λl c h=>(by cases h)⟩
 |(n,C)::r,h,f=>by
  have U:=Ov r (λx O=>h x (by simp[O])) f;cases V:Nat.beq n f with
  |false=>
   simp_all [mkP]
  |true=>
   simp_all [mkP]
theorem Ow:∀ (E:List (Nat×(List SV->List Ob->Option ao3))),(∀ x∈E,ao2 P x.1 x.2)->∀ f,ao2 P f (mkO E f)
 | [],_,f=>⟨λl h c hc=>(by cases hc),λl h c hc=>(by cases hc)⟩
 |(n,C)::r,h,f=>by
  have U:=Ow r (λx O=>h x (by simp[O])) f;cases V:Nat.beq n f with
  |false=>
   simp_all [mkO]
  |true=>
   simp_all [mkO]
def noY:List SV->Res->Option ap_:=λ_ _=>none
theorem acN:YOk P noY:=λl r c h=>(by cases h)
def mkG (ps:List (Nat×(List SV->Option Con)))(os:List (Nat×(List SV->List Ob->Option ao3))):Cons:=⟨mkP ps,mkO os,noY⟩
def ox {E:List (Nat×(List SV->Option Con))}{O:List (Nat×(List SV->List Ob->Option ao3))}(h1:∀ x∈E,B1 P x.1 x.2)(h2:∀ x∈O,ao2 P x.1 x.2):aoI P (mkG E O):=⟨Ov E h1,Ow O h2,acN⟩
variable {ps:List (Nat×(List SV->Option Con))}{os:List (Nat×(List SV->List Ob->Option ao3))}
def arn:(mkG ps os).p=mkP ps:=(rfl)
def arH:(mkG ps os).o=mkO os:=(rfl)
attribute[go_sem]arn arH
@[go_sem] def ajs:= @mkP.eq_1
@[go_sem] def ahh:= @mkP.eq_2
@[go_sem] def ajt:= @mkO.eq_1
@[go_sem] def ahi:= @mkO.eq_2
section
variable {α:Type u}
def pI (k:Int->List SV->Option α):List SV->Option α
 | .v (.int .i64 n)::r=>k n r|_=>none
def pU (k:Int->List SV->Option α):List SV->Option α
 | .v (.int .u64 n)::r=>k n r|_=>none
def pB (k:Bool->List SV->Option α):List SV->Option α
 | .v (.bool b)::r=>k b r|_=>none
def pS (k:ByteArray->List SV->Option α):List SV->Option α
 | .v (.string b)::r=>k b r|_=>none
def Ig (t:Tag)(k:List t.T->List SV->Option α)(r:List SV)(k':Tag)(l:List k'.T):Option α:=if h:k'=t then k (h▸l) r else none
def pR (t:Tag)(k:List t.T->List SV->Option α):List SV->Option α
 | .rs k' l::r=>Ig t k r k' l|_=>none
def pDo {T:Type}(k:T->List SV->Option α)(r:List SV):Option T->Option α
 |some x=>k x r|none=>none
def pD (t:Tag)(k:t.T->List SV->Option α):List SV->Option α
 | .agg l::r=>pDo k r (vO t l)|_=>none
def pX (t:Tag)(k:t.T->List SV->Option α):List SV->Option α
 | .ep l 0::r=>pDo k r (vO t l)|_=>none
def UG (t t2:Tag)(k:List (t.T×t2.T)->List SV->Option α)(r:List SV)(k' k2:Tag)(l:List (k'.T×k2.T)):Option α:=if h:k'=t/\k2=t2 then k (h.1▸h.2▸l) r else none
def pM (t t2:Tag)(k:List (t.T×t2.T)->List SV->Option α):List SV->Option α
 | .rm k' k2 l::r=>UG t t2 k r k' k2 l|_=>none
def pE (c:α):List SV->Option α
 | [] =>some c|_=>none
variable {k:Int->List SV->Option α}{kb:Bool->List SV->Option α}{ks:ByteArray->List SV->Option α}{r:List SV}{c:α}{t:Tag}
@[go_sem] def aju:= @pI.eq_1
@[go_sem] def ajv:= @pU.eq_1
@[go_sem] def ajw:= @pB.eq_1
@[go_sem] def ajx:= @pS.eq_1
@[go_sem] theorem ajy {kr:List t.T->List SV->Option α}{l:List t.T}:pR t kr (.rs t l::r)=kr l r:=by simp[pR,Ig]
@[go_sem] def ajz:= @pD.eq_1
@[go_sem] def ajA:= @pX.eq_1
@[go_sem] theorem ajB {t2:Tag}{kr:List (t.T×t2.T)->List SV->Option α}{l:List (t.T×t2.T)}:pM t t2 kr (.rm t t2 l::r)=kr l r:=by simp[pM,UG]
@[go_sem] def ahj:= @pDo.eq_1
@[go_sem] def akl:= @pE.eq_1
variable {l:List SV}
theorem UH{c:α}(h:pI k l=some c):∃ n r,l=.v (.int .i64 n)::r/\k n r=some c:=by
 unfold pI at h;grind
theorem JJ{c:α}(h:pU k l=some c):∃ n r,l=.v (.int .u64 n)::r/\k n r=some c:=by
 unfold pU at h;grind
theorem acO{c:α}(h:pB kb l=some c):∃ n r,l=.v (.bool n)::r/\kb n r=some c:=by
 unfold pB at h;grind
theorem wK{c E:α}(h:pE E l=some c):l=[]/\c=E:=by
 grind [pE]
theorem acP{kr:List t.T->List SV->Option α}{c:α}(h:pR t kr l=some c):∃ x r,l=.rs t x::r/\kr x r=some c:=by
 unfold pR at h;grind [Ig]
variable {kd:t.T->List SV->Option α}
theorem UJ{c:α}(h:pX t kd l=some c):∃ x r,l=.ep (cellsOf t x) 0::r/\kd x r=some c:=by
 unfold pX at h;split at h;rename_i l' r;cases E:vO t l' with
 |none=>rw[E]at h;cases h
 |some x=>rw[E]at h;exact⟨x,r,by rw[qE E],h⟩
 cases h
theorem UK{t2:Tag}{kr:List (t.T×t2.T)->List SV->Option α}{c:α}(h:pM t t2 kr l=some c):∃ x r,l=.rm t t2 x::r/\kr x r=some c:=by
 unfold pM at h;split at h;rename_i k' k2 l' r;unfold UG at h;grind
 cases h
theorem JK{c:α}(h:pD t kd l=some c):∃ x r,l=.agg (cellsOf t x)::r/\kd x r=some c:=by
 unfold pD at h;split at h;rename_i l' r;cases E:vO t l' with
 |none=>rw[E]at h;cases h
 |some x=>rw[E]at h;exact⟨x,r,by rw[qE E],h⟩
 cases h
end
section
variable {F:Nat->Prop}{own:Own}{w:World}
theorem EB {p:Pk}{s:SV}{v:Value}(h:Rel F own w s v):Rel F own w (AO p s) v:=by
 unfold AO;split;cases h with
 |agg V h1=>
  refine .agg (by grind [zB]) λj s U=>?_;obtain⟨s0,O,E| ⟨k,E⟩⟩:=uk _ _ _ _ U;grind
  subst E;exact ot (h1 j _ O)
 exact ot h;exact ot h;exact h
theorem EC:∀ (E:List Pk) (l:List SV),(yI E l).length=l.length
 | [],l=>by simp[yI]
 |k::ks,[] =>by simp[yI]
 |k::ks,s::r=>by simp[yI,EC ks r]
theorem ED:∀ (E:List Pk) (l:List SV) (j:Nat) (s:SV),(yI E l)[j]? =some s->∃ s0,l[j]? =some s0/\(s=s0\/∃ p,s=AO p s0)
 | [],l,j,s,h=>⟨s,by grind [yI],.inl rfl⟩
 |k::ks,[],j,s,h=>by simp[yI]at h
 |k::ks,x::r,0,s,h=>by grind [yI]
 |k::ks,x::r,j+1,s,h=>by simp[yI]at h;simpa using ED ks r j s h
theorem B1.norm {f:FuncId}{C:List SV->Option Con}(X:List Pk)(h:B1 P f C):B1 P f (λl=>C (yI X l)):=
 ⟨λl c hc=>h.enter _ c hc,λl c hc O F w vs W E=>h.calls _ c hc O F w vs W ⟨by rw[EC];exact E.1,λj s Y=>by
  obtain⟨s0,V,U| ⟨p,U⟩⟩:=ED _ _ _ _ Y;subst U;exact E.2 j _ V;subst U;exact EB (E.2 j _ V)⟩⟩
end
attribute [go_sem] dW kY nV
attribute [go_sem] vO
def noH {α:Type 1}:List Ob->Option α->Option α
 | [],x=>x|_,_=>none
@[go_sem] def ajC:= @noH.eq_1
theorem Qc {α:Type 1}{h:List Ob}{x:Option α}{c:α}(E:noH h x=some c):h=[]/\x=some c:=by
 cases h with
 |nil=>exact⟨rfl,E⟩|cons=>cases E
theorem az {n:Int}(h1: -9223372036854775808<=n)(h2:n<9223372036854775808):i64.wrap n=n:=by
 simp[IntKind.wrap,IntKind.bits,IntKind.signed];omega
end Go.Sx
end
section
namespace Go.Sx
open Go.RowKit
def aj {ρ σ:Type}(step:Nat->σ->ρ⊕σ):Nat->Nat->σ->ρ⊕σ
 |0,_,s=>.inr s
 |n+1,i,s=>match step i s with
  | .inl r=>.inl r| .inr s'=>aj step n (i+1) s'
def dC {ρ σ τ:Type}(step:τ->σ->ρ⊕σ):List τ->σ->ρ⊕σ
 | [],s=>.inr s
 |x::l,s=>match step x s with
  | .inl r=>.inl r| .inr s'=>dC step l s'
theorem Ih {ρ σ τ:Type}(f:τ->σ->ρ⊕σ)(d:τ):∀ (l pre:List τ) (s:σ),aj (λi s=>f ((pre++l).getD i d) s) l.length pre.length s=dC f l s
 | [],_,_=>rfl
 |x::l,pre,s=>by
  simp only[aly,aj,dC];have e:(pre++x::l).getD pre.length d=x:=by simp
  rw[e];cases f x s with
  |inl r=>rfl
  |inr s'=>
   have:=Ih f d l (pre++[x]) s';grind
def rK {ρ σ τ:Type}(f:τ->σ->ρ⊕σ)(d:τ)(l:List τ)(s:σ):aj (λi s=>f (l.getD i d) s) l.length 0 s=dC f l s:=Ih f d l [] s
def LC {ρ σ:Type}(pre:Prop)(run:ρ⊕σ)(exE:ρ->Ex)(W1:ρ->St)(ao0:σ->St):apB:=
 {α:=ρ⊕σ,pre:=pre,post:=λr=>r=run,ex:=λr=>match r with| .inl x=>exE x| .inr _=>.normal,out:=λr=>match r with| .inl x=>W1 x| .inr s=>ao0 s}
@[go_sem] theorem LR {ρ σ:Type}{pre:Prop}{run:ρ⊕σ}{exE:ρ->Ex}{W1:ρ->St}{ao0:σ->St}{Q:Ex->St->Prop}:
  rC Q (some (LC pre run exE W1 ao0))=(pre/\(∀ x,run=.inl x->Q (exE x) (W1 x))/\∀ s,run=.inr s->Q .normal (ao0 s)):=by
 apply propext;constructor
 rintro⟨h1,h2⟩;exact⟨h1,λx hx=>h2 (.inl x) hx.symm,λs hs=>h2 (.inr s) hs.symm⟩;rintro⟨h1,h2,h3⟩;refine⟨h1,λr hr=>?_⟩;cases r with
 |inl x=>exact h2 x hr.symm|inr s=>exact h3 s hr.symm
section
variable {P:Program}{ρ σ:Type}
def Yz (step:Nat->σ->ρ⊕σ)(n:Nat)(exE:ρ->Ex)(W1:ρ->St)(ao0:σ->St)(n0 k:Nat)(s:σ)(e:Ex)(st:St):Prop:=
 (∃ js,n<=k/\e=.normal/\n0<=(ao0 s).h.length/\Sub js n0 st (ao0 s))\/∃ x js,k<n/\step k s=.inl x/\exE x=e/\n0<=(W1 x).h.length/\Sub js n0 st (W1 x)
def JM (step:Nat->σ->ρ⊕σ)(n:Nat)(exE:ρ->Ex)(W1:ρ->St)(ao0:σ->St)(D:Nat->σ->St)(J:Nat->σ->Prop)(n0 id k:Nat)(s:σ):Ex->St->Prop
 | .normal,st=>k<n/\∃ s' js,step k s=.inr s'/\J (k+1) s'/\n0<=(D (k+1) s').h.length/\Sub js n0 st (D (k+1) s')| .exit j,st=>bif Nat.beq j id then Yz step n exE W1 ao0 n0 k s .normal st else Yz step n exE W1 ao0 n0 k s (.exit j) st| .ret,st=>Yz step n exE W1 ao0 n0 k s .ret st| .pan x,st=>Yz step n exE W1 ao0 n0 k s (.pan x) st
variable {step:Nat->σ->ρ⊕σ}{n n0 id k j:Nat}{exE:ρ->Ex}{W1:ρ->St}{ao0:σ->St}{D:Nat->σ->St}{J:Nat->σ->Prop}{s:σ}{st:St}{x:Value}
@[go_sem] def XG:= @JM.eq_1
@[go_sem] def aa1:= @JM.eq_2
@[go_sem] def acQ:= @JM.eq_3
@[go_sem] def acR:= @JM.eq_4
end
def itY (items:List (List SV))(r:Nat->Res):List SV->Res->Option ap_:=λargs x=>
 some { α:=Bool,pre:=x=r x.n/\1<=x.n/\items[x.n - 1]? =some args,post:=λ_=>True,res:=λb=>(b,r (if b then x.n+1 else 0))}
def zS (P:Program)(f:FuncId)(mk:SV->List SV)(hs:List Ob)(items:List (List SV)):Prop:=
 (∀ (args:Array Value) (w:World),(callFunc f args).run P w=.ok (.enter f args) w)/\
 ∀ r:Nat->Res,(∀ k,(r k).n=k)->YOk P (itY items r)->∀ (F:Nat->Prop) (own:Own) (w:World) (vs:Array Value),Hp F own w (.ab (r 1)::hs)->api F own w (mk (.os 0)) vs->
  Calls P f vs w (λe w'=>∃ u bo j h',e=.returned u/\(j=0\/j=items.length+1)/\Hp F bo w' (.ab (r j)::h')/\Fr { w:=w,own:=own} bo w')
variable {items:List (List SV)}
theorem Qd{P:Program}{f:FuncId}{V:SV->List SV}{U:List Ob}
  (h:∀ r:Nat->Res,(∀ k,(r k).n=k)->YOk P (itY items r)->∃ C,ao2 P f C/\∃ c,C (V (.os 0)) (.ab (r 1)::U)=some c/\c.pre/\∀ x,c.post x->∃ s j h',c.res x=.ret s (.ab (r j)::h')/\(j=0\/j=items.length+1))
  (he:∀ (args:Array Value) (w:World),(callFunc f args).run P w=.ok (.enter f args) w):zS P f V U items:=by
 refine⟨he,λr hr hy F own w vs W E=>?_⟩;obtain⟨C,Y,c,h1,h2,h3⟩:=h r hr hy;refine(Y.calls _ _ c h1 h2 F own w vs W E).mono ?_;rintro e w' ⟨x,bo,q1,O⟩;obtain⟨s,j,h',X,k2⟩:=h3 x q1;rw[X]at O;obtain⟨⟨u,rfl,_⟩,q3,q4,_⟩:=O;grind
def LS (pre:Prop)(r:Nat->Res)(m:Nat):ap_:= { α:=Bool,pre:=pre,post:=λ_=>True,res:=λb=>(b,r (if b then m else 0))}
theorem EE{r:Nat->Res}(E:∀ k,(r k).n=k)(k:Nat)(args:List SV):itY items r args (r (k+1))=some (LS (items[k]? =some args) r (k+2)):=by
 grind [itY,LS]
section
variable {id m:Nat}{t:List (Nat×SV)}{h:List Ob}{K:St->Prop}{pre:Prop}{r:Nat->Res}{ops:List Oper}{g:Nat×Bool}
theorem two {p:Bool->Prop}:(∀ b,p b)=(p true/\p false):=propext ⟨λh=>⟨h true,h false⟩,λh b=>by
 cases b <;>grind⟩
@[go_sem] theorem ajD {d:Nat}:NJ id (some d) ⟨t,h⟩ K (some (LS pre r m))=(pre/\K ⟨(d,.b true)::t,cF h id (.ab (r m))⟩/\K ⟨(d,.b false)::t,cF h id (.ab (r 0))⟩):=by
 show(pre/\∀ b:Bool,True->K ⟨(d,.b b)::t,cF h id (.ab (r (if b then m else 0)))⟩)=_;grind
@[go_sem] theorem ajE {d:Nat}:Lf id ops g (some d) ⟨t,h⟩ K (some (LS pre r m))=((dR ops t ops.length g->pre/\K ⟨(d,.gd g.1 g.2 (.b true))::t,cF h id (.ab (r m))⟩/\K ⟨(d,.gd g.1 g.2 (.b false))::t,cF h id (.ab (r 0))⟩)/\(gC ops t ops.length g->K ⟨(d,.gd g.1 g.2 .any)::t,h⟩)):=by
 show((dR ops t ops.length g->pre/\∀ b:Bool,True->K ⟨(d,.gd g.1 g.2 (.b b))::t,cF h id (.ab (r (if b then m else 0)))⟩)/\(gC ops t ops.length g->K ⟨(d,.gd g.1 g.2 .any)::t,h⟩))=_;grind
end
def YA (own:Own)(n:Nat):List Nat:=(List.range n).flatMap λid=>match own id with|some hd=>hd.bs|none=>[]
theorem EF {own:Own}{n:Nat}(hd:∀ id hd,own id=some hd->id<n)(b:Nat):b∈YA own n↔∃ id hd,own id=some hd/\b∈hd.bs:=by
 grind [YA]
section
variable {P:Program}{w0:Bs}{ts:Tis}{G:Cons}{L:vP}{N:Nat}
def Fw (F:Nat->Prop)(l:Nat)(w:World)(b:Nat):Prop:=(F b/\b<w.heap.size)\/b=l
structure aqF where
 l:Nat
 fn:FuncId
 tmps:Array Value
 ps:Array Tmp
 assign:Code
 body:Code
 D:Nat
def aqF.obj (x:aqF)(s:LoopState)(p:Option Code):Obj:=.loop { state:=s,pending:=p,fn:=x.fn,tmps:=x.tmps,params:=x.ps,assign:=x.assign,body:=x.body,defers:=x.D}
structure Pack (x:aqF)(T:List (Nat×SV))(dB:Own)(n0:Nat)(H:List Ob)(o:Obj)(bo:Own)(F:Nat->Prop)(bs:List Nat)(w:World):Prop where
 hp:Hp (Fw F x.l w) bo w H
 slots:∀ t,Rel (Fw F x.l w) bo w (lk t T) (x.tmps.getD t undef)
 bs:∀ b,b∈bs↔b=x.l\/∃ id hd,bo id=some hd/\b∈hd.bs
 ids:∀ id hd,dB id=some hd->∃ hd',bo id=some hd'/\hd.like hd'
 nl:¬F x.l
 rcd:w.heap[x.l]? =some o
 le:n0<=H.length
variable {x:aqF}{n0:Nat}
theorem Pack.loc{T:List (Nat×SV)}{dB:Own}{H:List Ob}{o:Obj}{bo:Own}{F F':Nat->Prop}{bs:List Nat}{w w':World}(h:Pack x T dB n0 H o bo F bs w)(V:w.heap.size<=w'.heap.size)
  (Y:∀ b,b<w.heap.size->¬F b->w'.heap[b]? =w.heap[b]?) (hF:∀ b,b<w.heap.size->F' b->F b):Pack x T dB n0 H o bo F' bs w':=by
 have hl:=rG h.rcd;have hc:apk (Fw F x.l w) bo w (Fw F' x.l w') bo w':=⟨λ_ hd e=>⟨hd,e,.refl _⟩,λb O hn=>⟨λho=>hn (ho.imp (λq=>q.imp (λ⟨q1,_⟩ =>⟨hF b O q1,O⟩) (λe=>e)) (λe=>e)),Y b O λW=>hn (.inl (.inl ⟨W,O⟩))⟩⟩;have hob:∀ id hd b,bo id=some hd->b∈hd.bs->w'.heap[b]? =w.heap[b]?:=λid hd b e E=>Y b (h.hp.lt id hd b e E) λW=>h.hp.apart id hd b e E (.inl ⟨W,h.hp.lt id hd b e E⟩);refine⟨⟨h.hp.dom,λb U=>?_,λid hd b e E U=>?_,h.hp.inj,λid hd b e E=>alG (h.hp.lt id hd b e E) V,λid X=>?_⟩,λt=>(h.slots t).carry hc,h.bs,h.ids,λW=>h.nl (hF _ hl W),by rw[Y _ hl h.nl];exact h.rcd,h.le⟩;rcases U with⟨_,q⟩ |rfl <;>grind;have hlt:=h.hp.lt id hd b e E;rcases U with⟨q,_⟩ |q;exact h.hp.apart id hd b e E (.inl ⟨hF b hlt q,hlt⟩);exact h.hp.apart id hd b e E (.inr q);obtain⟨hd,e1,e2⟩:=h.hp.obs id X;exact⟨hd,e1,e2.carry hc V λb E=>hob id hd b e1 E⟩
def psT:List Nat->List SV->List (Nat×SV)
 |p::ps,s::r=>(p,s)::psT ps r|_,_=>[]
def itQ {σ:Type}(T:List (Nat×SV))(Hx:σ->List Ob)(I:Nat->σ->Prop)(S:Ex->σ->Prop)(n0 k:Nat):Ex->St->Prop
 | .normal,st=>∃ y js,I (k+1) y/\n0<=(Hx y).length/\Sub js n0 ⟨T,st.h⟩ ⟨T,Hx y⟩| .exit j,st=>∃ y js,S (.exit j) y/\n0<=(Hx y).length/\Sub js n0 ⟨T,st.h⟩ ⟨T,Hx y⟩| .ret,st=>∃ y js,S .ret y/\n0<=(Hx y).length/\Sub js n0 ⟨T,st.h⟩ ⟨T,Hx y⟩| .pan _,_=>False
def Ox:Ex->Option Code
 | .exit j=>some (.exit j)| .ret=>some .ret|_=>none
def itR {σ:Type}(x:aqF)(T:List (Nat×SV))(dB:Own)(n0:Nat)(Hx:σ->List Ob)(I:Nat->σ->Prop)(S:Ex->σ->Prop):Nat->Res
 |0=>{ yv:=.func (.yield x.l) #[] #[],n:=0,R:=λF bs w=>∃ e y bo,S e y/\(Ox e).isSome=true/\Pack x T dB n0 (Hx y) (x.obj .done (Ox e)) bo F bs w,loc:=λF F' bs w w' ⟨e,y,bo,h0,h1,h2⟩ hsz hb hF=>⟨e,y,bo,h0,h1,h2.loc hsz hb hF⟩}
 |k+1=>{ yv:=.func (.yield x.l) #[] #[],n:=k+1,R:=λF bs w=>∃ y bo,I k y/\Pack x T dB n0 (Hx y) (x.obj .ready none) bo F bs w,loc:=λF F' bs w w' ⟨y,bo,h0,h2⟩ hsz hb hF=>⟨y,bo,h0,h2.loc hsz hb hF⟩}
def aa2{σ:Type}{T:List (Nat×SV)}{dB:Own}{E:σ->List Ob}{I:Nat->σ->Prop}{S:Ex->σ->Prop}:∀ k,(itR x T dB n0 E I S k).n=k/\(itR x T dB n0 E I S k).yv=.func (.yield x.l) #[] #[]
 |0=>⟨rfl,rfl⟩|_+1=>⟨rfl,rfl⟩
theorem UL:∀ (O:List Nat) (args:List SV) (T:List (Nat×SV)) (tmps:Array Value) (vs:List Value) (t:Nat) {F:Nat->Prop} {own:Own} {w:World},O.Nodup->(∀ p∈O,p<tmps.size)->args.length=O.length->vs.length=O.length->
  (∀ (j:Nat) (s:SV) (v:Value),args[j]? =some s->vs[j]? =some v->Rel F own w s v)->Rel F own w (lk t T) (tmps.getD t undef)->Rel F own w (lk t (psT O args++T)) (((O.zip vs).foldl (λtmps (t,a) =>tmps.setIfInBounds t a) tmps).getD t undef)
 | [],args,T,tmps,vs,t,_,_,_,_,_,W,_,_,Y=>by
  cases args with
  |nil=>exact Y|cons=>simp at W
 |p::O,[],T,tmps,vs,t,_,_,_,_,_,W,_,_,_=>by simp at W
 |p::O,s::args,T,tmps,[],t,_,_,_,_,_,_,hv,_,_=>by simp at hv
 |p::O,s::args,T,tmps,v::vs,t,F,own,w,hn,hp,W,hv,hr,Y=>by
  rw[al6]at hn;have U:∀ (l:List (Nat×Value)) (tm:Array Value),(∀ x∈l,x.1≠p)->(l.foldl (λtmps (t,a) =>tmps.setIfInBounds t a) tm).getD p undef=tm.getD p undef:=by
   intro l;induction l with
   |nil=>grind
   |cons y r ih=>
    simp_all <;>grind
  have hlkp:∀ (V:List Nat) (E:List SV),p ∉ V->lk p (psT V E++T)=lk p T:=by
   intro V;induction V with
   |nil=>intro E _;rfl
   |cons q r ih=>
    intro E X;cases E with
    |nil=>rfl
    |cons a E=>
     simp only[alD,not_or]at X;simp only[psT,alU];rw[pw,if_neg (λe=>X.1 e.symm)];grind
  simp only[List.zip_cons_cons,aon,psT,alU];rw[pw];by_cases ht:p=t
  subst ht;rw[if_pos rfl,U _ _ λx hx=>by
   have:=List.of_mem_zip hx;grind]
  simp only[alW,anO];simp only[if_true];rw[if_pos (hp p (by simp))];exact hr 0 s v rfl rfl;rw[if_neg ht];refine UL O args T (tmps.setIfInBounds p v) vs t hn.2 (λq X=>by grind) (by grind) (by grind) (λj s v h1 h2=>hr (j+1) s v (by grind) (by grind)) ?_;simp_all
theorem Su (l:List (Nat×Value)):∀ (E:Array Value),(l.foldl (λtmps (t,a) =>tmps.setIfInBounds t a) E).size=E.size:=by
 induction l <;>grind
theorem acS(W:P.follows .mixedOrders=true)(hts:ts.ok P)(hG:aoI P G){σ:Type}{T:List (Nat×SV)}{dB:Own}{Hx:σ->List Ob}{I:Nat->σ->Prop}{S:Ex->σ->Prop}{items:List (List SV)}
  (hsz:x.tmps.size=N) (hn0:∀ id hd,dB id=some hd->id<n0) (hpn:x.ps.toList.Nodup) (hpN:∀ p∈x.ps.toList,p<N) (hca:cV N x.assign=true) (hcb:cV N x.body=true)
  (aqH:∀ k y args,items[k]? =some args->I k y->args.length=x.ps.size/\∃ L Qx,(∀ l,ak P (some l) N L x.assign)/\(∀ l,ak P (some l) N L x.body)/\(∀ e st,Qx e st->itQ T Hx I S n0 k e st)/\exec ts G L x.assign ⟨psT x.ps.toList args++T,Hx y⟩ (λe st1=>e=.normal/\exec ts G L x.body st1 Qx)):
  YOk P (itY items (itR x T dB n0 Hx I S)):=by
 intro args rr c hc hpre F bs w vs hR hF hbs hvs;simp only[itY,alx]at hc;subst hc;obtain⟨h1,h2,h3⟩:=hpre;generalize hk:rr.n=kk at h1 h2 h3;obtain⟨k,rfl⟩:∃ k,kk=k+1:=⟨kk - 1,by omega⟩;simp only[anY]at h3;subst h1;obtain⟨y,bo,hI,pk⟩:=hR;obtain⟨hal,L,Qx,hla,hlb,hQx,hex⟩:=aqH k y args h3 hI;have hvl:vs.size=x.ps.size:=by rw[hvs.1];exact hal
 have hl:=rG pk.rcd;right;have hpfs:∀ b,Fw F x.l w b->b<w.heap.size:=λb hb=>pk.hp.aoY b hb;refine⟨x.l,x.fn,(x.ps.zip vs).foldl (λtmps (t,a) =>tmps.setIfInBounds t a) x.tmps,x.assign,x.body,?_,roundIn_of_wpIn trivial ?_⟩;show(Sg (.func (.yield x.l) #[] #[]) vs).run P w=_;have hy:=run_yield (P:=P) (w:=w) (l:=x.l) (args:=vs) pk.rcd hvl;grind [Sg,Deferred.ofValue,invoke]
 ·
  generalize htm:(x.ps.zip vs).foldl (λtmps (t,a) =>tmps.setIfInBounds t a) x.tmps=tmps';have hFw:∀ b,F b->Fw F x.l w b:=λb hb=>.inl ⟨hb,hF b hb⟩;have hargs:api (Fw F x.l w) bo w args vs:=⟨hvs.1,λj s hj=>(hvs.2 j s hj).ao_ (px (hvs.2 j s hj)) λb hb ho=>hb (by
   left;rcases ho with(⟨q,_⟩ |q) | ⟨id,hd,e,W⟩;exact .inl q;exact .inr ((pk.bs b).2 (.inl q));exact .inr ((pk.bs b).2 (.inr ⟨id,hd,e,W⟩)))⟩
  have hstart:Y1 (Fw F x.l w) { w:=w,own:=bo} N bo ⟨psT x.ps.toList args++T,Hx y⟩ { tmps:=tmps',defers:=[]} w:=by
   refine⟨?_,Dfr.nil,pk.hp,Fr.refl { w:=w,own:=bo},λt=>?_⟩;rw[<-htm,<-aoB,Su];exact hsz;rw[<-htm,<-aoB,Array.toList_zip];refine UL x.ps.toList args T x.tmps vs.toList t hpn (λp hp=>by grind) (by omega) (by omega) (λj s v h1 h2=>?_) (pk.slots t);have:=hargs.2 j s h1;simp_all
  refine wpIn_mono (rJ (ro:=some x.l) (nd:=0) W hts hG x.assign hca (hla x.l) _ _ _ hex bo _ w hstart) ?_;intro e a1 w1 hq;cases e with
  |normal=>
   obtain⟨F1,own1,st1,hF1,O,_,hex1⟩:=hq;have hl1:F1 x.l:=hF1 _ (.inr rfl);have hno1:∀ id hd,bo id=some hd->x.l ∉ hd.bs:=λid hd e W=>pk.hp.apart id hd _ e W (.inr rfl);have hrec1:w1.heap[x.l]? =some (x.obj .ready none):=by
    rw[O.fr.block x.l ⟨hl,λ⟨id,hd,e,W⟩ =>hno1 id hd e W⟩];exact pk.rcd
   refine⟨w1.putObj x.l (x.obj .busy none),run_beginRound hrec1 rfl,?_⟩;have g1:apx F1 own1 w1 own1 (w1.putObj x.l (x.obj .busy none)):=⟨λ_ hd e=>⟨hd,e,.refl _⟩,λb _ hn=>⟨hn,World.putObj_heap_other λe=>hn (.inl (e▸hl1))⟩,by simp⟩;have hst2:Y1 F1 { w:=w.putObj x.l (x.obj .busy none),own:=bo} N own1 st1 a1 (w1.putObj x.l (x.obj .busy none)):=by
    refine⟨O.size,?_,O.hp.apD g1 λid hd b e W=>World.putObj_heap_other λe'=>O.hp.apart id hd b e W (e'▸hl1),⟨O.fr.ids,λid hd b e W ho=>O.fr.base id hd b e W ⟨by have:=ho.1;simp_all,ho.2⟩,O.fr.os,O.fr.tape,O.fr.output,by simpa using O.fr.size,λb hb=>?_⟩,λt=>(O.slots t).mono g1⟩;obtain⟨ms,Ds,q0,q1,q2,q3⟩:=O.defers;refine⟨ms,Ds,q0,q1,q2,λD hD=>⟨by simp_all,(q3 D hD).2.1,?_⟩⟩;grind [World.putObj_heap_other]
    by_cases e:b=x.l
    grind [World.putObj_heap_same]
    rw[World.putObj_heap_other e,World.putObj_heap_other e];exact O.fr.block b ⟨by have:=hb.1;simp_all,hb.2⟩
   refine wpIn_mono (rJ (ro:=some x.l) (nd:=0) W hts hG x.body hcb (hlb x.l) _ _ _ hex1 own1 _ _ hst2) ?_;intro e a2 w2 hq
   replace hq:=uv hQx _ _ _ hq
   have key:∀ (F2:Nat->Prop) (P1:Own) (st2:St) (y2:σ) (js:List Nat) (b:Bool) (U:Option Code),(∀ c,F1 c->F2 c)->Y1 F2 { w:=w.putObj x.l (x.obj .busy none),own:=bo} N P1 st2 a2 w2->n0<=(Hx y2).length->Sub js n0 ⟨T,st2.h⟩ ⟨T,Hx y2⟩->b=U.isNone->
     (∀ E bs' Y,Pack x T dB n0 (Hx y2) (x.obj (if U.isNone then .ready else .done) U) E F bs' Y->(itR x T dB n0 Hx I S (if b then k+1+1 else 0)).R F bs' Y)->
     ∃ v Y,(Instr.endRound x.l U).run P w2=.ok v Y/\∃ a bs',True/\(Ending.returned v)=.returned (.bool ((a,itR x T dB n0 Hx I S (if a then k+1+1 else 0)):Bool×Res).1)/\(itR x T dB n0 Hx I S (if a then k+1+1 else 0)).R F bs' Y/\(itR x T dB n0 Hx I S (if a then k+1+1 else 0)).yv=.func (.yield x.l) #[] #[]/\YFr bs bs' w Y:=by
    intro F2 P1 st2 y2 js b U hF2 V hle X hb hR3;subst hb;have hl2:F2 x.l:=hF2 _ hl1;have hrec2:w2.heap[x.l]? =some (x.obj .busy none):=by
     rw[V.fr.block x.l ⟨by simpa using hl,λ⟨id,hd,e,W⟩ =>hno1 id hd e W⟩];exact World.putObj_heap_same hl
    have hsz2:w.heap.size<=w2.heap.size:=by have:=V.fr.size;simp_all
    have hl2s:=alG hl hsz2;obtain⟨q1,q2,q3,q4⟩:=Oo X V.hp hle;let E:=iS js (Hx y2) P1
    let Y:=w2.putObj x.l (x.obj (if U.isNone then .ready else .done) U)
    have hF2w:∀ c,Fw F x.l Y c->F2 c:=λc hc=>by
     rcases hc with⟨hc,_⟩ |rfl <;>grind
    have hoth:∀ c,c≠x.l->Y.heap[c]? =w2.heap[c]?:=λc hc=>World.putObj_heap_other hc;have hcar:apk F2 E w2 (Fw F x.l Y) E Y:=⟨λ_ hd e=>⟨hd,e,.refl _⟩,λc hcl hn=>⟨λho=>hn (ho.imp (hF2w c) (λe=>e)),hoth c λe=>hn (.inl (e▸hl2))⟩⟩;have hblk:∀ c,c<w.heap.size->c≠x.l->(¬ ∃ id hd,bo id=some hd/\c∈hd.bs)->w2.heap[c]? =w.heap[c]?:=λc h1 h2 h3=>by
     rw[V.fr.block c ⟨by simpa using h1,h3⟩];exact World.putObj_heap_other h2
    have hown2:∀ id hd c,P1 id=some hd->c∈hd.bs->(∃ id hd,bo id=some hd/\c∈hd.bs)\/w.heap.size<=c:=λid hd c e W=>by
     have:=V.fr.base id hd c e W;by_cases hc:c<w.heap.size
     exact .inl (al2 λhn=>this ⟨by simpa using hc,hn⟩);omega
    have gall:apx (Fw F x.l w) bo w P1 w2:=⟨V.fr.ids,λc hcl hn=>by
     have h2:c≠x.l:=λe=>hn (.inl (.inr e));have h3:¬ ∃ id hd,bo id=some hd/\c∈hd.bs:=λh=>hn (.inr h);refine⟨?_,hblk c hcl h2 h3⟩;rintro (hf| ⟨id,hd,e,W⟩);exact hn (.inl hf);grind,hsz2⟩
    have hcar2:apk (Fw F x.l w) E w2 (Fw F x.l Y) E Y:=⟨λ_ hd e=>⟨hd,e,.refl _⟩,λc hcl hn=>⟨λho=>hn (ho.imp (λhc=>by
     rcases hc with⟨hc,_⟩ |rfl;grind
     exact .inr rfl) (λe=>e)),hoth c λe=>hn (.inl (.inr e))⟩⟩
    have hpk:Pack x T dB n0 (Hx y2) (x.obj (if U.isNone then .ready else .done) U) E F (x.l::YA E (Hx y2).length) Y:=by
     refine⟨⟨q1.dom,λc hc=>?_,λid hd c e W hc=>q1.apart id hd c e W (hF2w c hc),q1.inj,λid hd c e W=>by have:=q1.lt id hd c e W;simpa[Y]using this,λid hdd=>?_⟩,λt=>?_,λc=>?_,λid hd e=>?_,pk.nl,World.putObj_heap_same hl2s,hle⟩;rcases hc with⟨_,hc⟩ |rfl;exact hc;simpa[Y]using hl2s;obtain⟨hd,e1,e2⟩:=q1.obs id hdd;exact⟨hd,e1,e2.carry hcar (by simp[Y]) λc W=>hoth c λe=>q1.apart id hd c e1 W (e▸hl2)⟩;rcases Do t _ X.2.1 with e| ⟨e1,e2⟩;rw[e];exact .any _;have h1:=(pk.slots t).mono gall;have h1':Rel (Fw F x.l w) P1 w2 (ren (DW js) 5 (lk t T)) (x.tmps.getD t undef):=e1▸h1;exact(q3 (Fw F x.l w) 5 _ _ e2 h1').carry hcar2;rw[alD,EF q1.dom];obtain⟨hd1,e1,l1⟩:=pk.ids id hd e;obtain⟨hd2,e2,l2⟩:=V.fr.ids id hd1 e1;obtain⟨hd3,e3,l3⟩:=q4 id hd2 (hn0 id hd e) e2;exact⟨hd3,e3,(l1.trans l2).trans l3⟩
    refine⟨_,Y,run_endRound U hrec2,U.isNone,_,trivial,rfl,hR3 _ _ _ hpk,(aa2 _).2,V.fr.os,V.fr.tape,V.fr.output,by simpa[Y]using hsz2,λc hc hn=>?_,λc hc=>?_⟩;have h2:c≠x.l:=λe=>hn ((pk.bs c).2 (.inl e));rw[hoth c h2];exact hblk c hc h2 λh=>hn ((pk.bs c).2 (.inr h));rcases alD.1 hc with rfl|hc;exact⟨by simpa[Y]using hl2s,.inl ((pk.bs _).2 (.inl rfl))⟩;obtain⟨id,hd,e,W⟩:=(EF q1.dom c).1 hc;refine⟨by have:=q1.lt id hd c e W;simpa[Y]using this,?_⟩;obtain⟨_,j,hd0,_,e2,_,e4⟩:=jp e;obtain⟨_,rfl⟩:=e4 c W;rcases hown2 j hd c e2 W with h|h;exact .inl ((pk.bs c).2 (.inr h));omega
   cases e with
   |normal=>
    obtain⟨F2,P1,st2,h0,V,y2,js,hI2,hle,X⟩:=hq;exact key F2 P1 st2 y2 js true none h0 V hle X rfl λE bs' Y hp=>⟨y2,E,hI2,hp⟩
   |ret=>
    obtain⟨F2,P1,st2,h0,V,y2,js,hS2,hle,X⟩:=hq;exact key F2 P1 st2 y2 js false (some .ret) h0 V hle X rfl λE bs' Y hp=>⟨.ret,y2,E,hS2,rfl,hp⟩
   |exit j=>
    obtain⟨F2,P1,st2,h0,V,y2,js,hS2,hle,X⟩:=hq;exact key F2 P1 st2 y2 js false (some (.exit j)) h0 V hle X rfl λE bs' Y hp=>⟨.exit j,y2,E,hS2,rfl,hp⟩
   |panic ch=>obtain⟨x',F2,P1,st2,_,_,h,_⟩:=hq;exact h.elim
   |_=>exact hq.elim
  |exit j=>obtain⟨F1,own1,st1,_,_,h,_⟩:=hq;cases h
  |ret=>obtain⟨F1,own1,st1,_,_,h,_⟩:=hq;cases h
  |panic ch=>obtain⟨x',F1,own1,st1,_,_,⟨h,_⟩,_⟩:=hq;cases h
  |_=>exact hq.elim
end
end Go.Sx
end
