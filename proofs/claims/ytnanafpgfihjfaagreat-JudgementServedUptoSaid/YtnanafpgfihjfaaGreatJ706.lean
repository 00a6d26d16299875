/- Part of the proof that the law JudgementServed returns true and leaves its arguments as they were, for all arguments of bulk at most 1048576 (the Upto form). -/
import Derived.Test.YtnanafpgfihjfaaGreatJ705
import Derived.Sort.LoopGhostIn
import Derived.RangeFuncLeaves
import Derived.RangeFuncRecord
import Derived.Test.YtnanafpgfihjfaaGreatJ701
import Derived.Attr
import Derived.RangeFuncIn
import Derived.TacticsIn
set_option linter.all false
set_option maxHeartbeats 4000000
set_option maxRecDepth 100000
section
namespace Go.Sx
open Go.RowKit
section
variable {P:Program}{F:Nat->Prop}{own own2:Own}{w:World}{w0:Bs}{ro:Option Nat}{nd:Nat}{ts:Tis}{G:Cons}{L:wF}{N:Nat}
structure Un (m:Nat->Option Nat)(n:Nat)(own own2:Own):Prop where
 ids:∀ k,k<n->∀ hd,(m k).bind own=some hd->∃ hd',own2 k=some hd'/\hd.like hd'
theorem X8 {m:Nat->Option Nat}{n:Nat}(hm:Un m n own own2)(hk:∀ k,k<n->(m k).isSome=true)(ho:∀ b,¬cm F own b->¬cm F own2 b):∀ (f:Nat) (s:SV) (v:Value),oV f n s=true->Rel F own w (ren m f s) v->Rel F own2 w s v:=by
 have base:∀ (f:Nat) (s:SV) (v:Value),oV f n s=true->Rel F own w (ren m f s) v->(∀ l o,s≠ .ep l o)->(∀ l,s≠ .ls l)->(∀ l,s≠ .agg l)->(∀ l,s≠ .tup l)->(∀ f l l2,s≠ .fn f l l2)->Rel F own2 w s v:=by
  intro f s v hi hr n1 n2 n3 n4 n5;have hlt:∀ {id},Nat.blt id n=true->∃ j,m id=some j/\id<n:=fun {id} h=>by
   have hl:id<n:=nbl h;have:=hk id hl;cases hm':m id <;>grind
  cases s with
  |any=>exact .any _|v x=>cases f <;>(have hr':Rel F own w (.v x) v:=hr) <;>rw[bR hr'] <;>exact .v _|e0=>cases f <;>(have hr':Rel F own w .e0 v:=hr) <;>cases hr' <;>exact .e0|rs k l=>cases f <;>(have hr':Rel F own w (.rs k l) v:=hr) <;>exact hr'.over (.rs) ho|rc k l=>cases f <;>(have hr':Rel F own w (.rc k l) v:=hr) <;>exact hr'.over (.rc) ho|rm k k2 l=>cases f <;>(have hr':Rel F own w (.rm k k2 l) v:=hr) <;>exact hr'.over (.rm) ho
  |ptr id off=>
   have hb:Nat.blt id n=true:=by cases f <;>exact hi
   obtain⟨j,e,hl⟩:=hlt hb;have hr':Rel F own w (.ptr j off) v:=by grind [ren,Bq]
   cases hr' with
   |ptr h1 h2=>
    obtain⟨hd',q1,q2⟩:=hm.ids id hl _ (by rw[e];exact h1);exact .ptr q1 (by rw[q2.1];exact h2)
  |os id=>
   have hb:Nat.blt id n=true:=by cases f <;>exact hi
   obtain⟨j,e,hl⟩:=hlt hb;have hr':Rel F own w (.os j) v:=by grind [ren,Bq]
   cases hr' with
   |os h1 h2=>
    obtain⟨hd',q1,q2⟩:=hm.ids id hl _ (by rw[e];exact h1);rw[<-q2.2.1];exact .os q1 (by rw[q2.2.1];exact h2)
  |rp sz id i off=>
   have hb:Nat.blt id n=true:=by cases f <;>exact hi
   obtain⟨j,e,hl⟩:=hlt hb;have hr':Rel F own w (.rp sz j i off) v:=by grind [ren,Bq]
   cases hr' with
   |rp h1 h2 h3=>
    obtain⟨hd',q1,q2⟩:=hm.ids id hl _ (by rw[e];exact h1);exact .rp q1 (by rw[q2.2.1];exact h2) h3
  |vw sz id lo hh=>
   have hb:Nat.blt id n=true:=by cases f <;>exact hi
   obtain⟨j,e,hl⟩:=hlt hb;have hr':Rel F own w (.vw sz j lo hh) v:=by grind [ren,Bq]
   cases hr' with
   |vw h1 h2 h3=>
    obtain⟨hd',q1,q2⟩:=hm.ids id hl _ (by rw[e];exact h1);exact .vw q1 (by rw[q2.2.1];exact h2) h3
  |gr id i=>
   have hb:Nat.blt id n=true:=by cases f <;>exact hi
   obtain⟨j,e,hl⟩:=hlt hb;have hr':Rel F own w (.gr j i) v:=by grind [ren,Bq]
   cases hr' with
   |gr h1 h2 h3=>
    obtain⟨hd',q1,q2⟩:=hm.ids id hl _ (by rw[e];exact h1);exact .gr q1 (by rw[q2.2.2];exact h2) h3
  |gp sz id i i2 off=>
   have hb:Nat.blt id n=true:=by cases f <;>exact hi
   obtain⟨j,e,hl⟩:=hlt hb;have hr':Rel F own w (.gp sz j i i2 off) v:=by grind [ren,Bq]
   cases hr' with
   |gp h1 h2 h3=>
    obtain⟨hd',q1,q2⟩:=hm.ids id hl _ (by rw[e];exact h1);exact .gp q1 (by rw[q2.2.2];exact h2) h3
  |ep l o=>grind|ls l=>grind|agg l=>grind|tup l=>grind|fn f l l2=>grind|_=>cases f <;>simp[oV]at hi
 intro f;induction f with
 |zero=>
  intro s v hi hr;refine base 0 s v hi hr ?_ ?_ ?_ ?_ ?_ <;>intros <;>(intro e;subst e;simp[oV]at hi)
 |succ f ih=>
  intro s v hi hr;cases s with
  |ep l o=>
   simp only[oV,aiL]at hi;simp only[ren]at hr;cases hr with
   |ep c h1 h2=>
    have hg:∀ (j:Nat) (s:SV),l[j]? =some s->(l.map (ren m f))[j]? =some (ren m f s):=fun j s hj=>by simp[hj]
    exact .ep c (fun j s hj=>⟨ho _ (h1 j _ (hg j s hj)).1,(h1 j _ (hg j s hj)).2⟩) fun j s hj=>ih s _ (hi s (aiw hj)) (h2 j _ (hg j s hj))
  |ls l=>
   simp only[oV,aiL]at hi;simp only[ren]at hr;generalize hq:l.map (ren m f)=l' at hr;cases hr with
   |ls c h0 h1 h2=>
    subst hq;have hg:∀ (j:Nat) (s:SV),l[j]? =some s->(l.map (ren m f))[j]? =some (ren m f s):=fun j s hj=>by simp[hj]
    rw[ajn]at h0 |-;exact .ls c h0 (fun j s hj=>⟨ho _ (h1 j _ (hg j s hj)).1,(h1 j _ (hg j s hj)).2⟩) fun j s hj=>ih s _ (hi s (aiw hj)) (h2 j _ (hg j s hj))
  |agg l=>
   simp only[oV,aiL]at hi;simp only[ren]at hr;cases hr with
   |agg h0 h1=>exact .agg (by grind) fun j s hj=>ih s _ (hi s (aiw hj)) (h1 j _ (by simp[hj]))
  |tup l=>
   simp only[oV,aiL]at hi;simp only[ren]at hr;cases hr with
   |tup h0 h1=>exact .tup (by grind) fun j s hj=>ih s _ (hi s (aiw hj)) (h1 j _ (by simp[hj]))
  |fn g l l2=>
   simp only[oV,aim,aiL]at hi;simp only[ren]at hr;cases hr with
   |fn h0 h0' h1 h2=>exact .fn (by grind) (by grind) (fun j s hj=>ih s _ (hi.1 s (aiw hj)) (h1 j _ (by simp[hj]))) fun j s hj=>ih s _ (hi.2 s (aiw hj)) (h2 j _ (by simp[hj]))
  |_=>refine base (f+1) _ v hi hr ?_ ?_ ?_ ?_ ?_ <;>intros <;>(intro e;cases e)
theorem Ot:∀ a l:List SV,(wkL a l).length=l.length
 | [],[] =>rfl| [],_::_=>rfl|_::_,[] =>rfl
 |_::r,_::s=>by simp[wkL,Ot r s]
theorem Ou:∀ (a l:List SV) (j:Nat) (s:SV),(wkL a l)[j]? =some s->s=.any\/l[j]? =some s
 | [],l,j,s,h=>.inr (by cases l <;>exact h)
 |_::_,[],j,s,h=>.inr h
 |a::r,x::l,0,s,h=>by
  grind [wkL]
 |a::r,x::l,j+1,s,h=>by
  have h:(wkL r l)[j]? =some s:=by grind [wkL]
  rcases Ou r l j s h with h|h <;>grind
theorem K7:∀ l:List SV,wkL l l=l
 | [] =>rfl
 |x::l=>by
  have:(bif N_ x then SV.any else x)=x:=by cases x <;>rfl
  simp[wkL,this,K7 l]
attribute [go_sem] K7
theorem QI (a o:Ob):dg (EV a o)=dg o:=by
 unfold EV;split <;>rfl
theorem SC (a:Ob){hd:Hd}{o:Ob}(h:ObRel F own w hd o):ObRel F own w hd (EV a o):=by
 unfold EV;split
 rename_i kk vk l p;obtain⟨b,es,clk,h1,h2,h3,h4,h5,h6⟩:=h;match p,h4,h6 with
 |none,h4,h6=>exact⟨b,es,clk,h1,h2,h3,h4,h5,h6⟩|some (i,none),h4,h6=>exact⟨b,es,clk,h1,h2,h3,h4,h5,trivial⟩|some (i,some x),h4,h6=>exact⟨b,es,clk,h1,h2,h3,h4,h5,h6⟩
 rename_i a l;obtain⟨b,cs,ty,h1,h2,h3,h4,h5⟩:=h;exact⟨b,cs,ty,h1,h2,h3,by grind [Ot],fun j s hj=>by
  rcases Ou a l j s hj with rfl|hj;exact .any _;grind⟩
 exact h
theorem Zi {m:Nat->Option Nat}{n:Nat}(hm:Un m n own own2)(hk:∀ k,k<n->(m k).isSome=true)(ho:∀ b,¬cm F own b->¬cm F own2 b){hd:Hd}{o:Ob}(hi:xZ n o=true)(h:ObRel F own w hd (xz m o)):ObRel F own2 w hd o:=by
 cases o with
 |cells l=>
  simp only[xZ,aiL]at hi;obtain⟨b,cs,ty,h1,h2,h3,h4,h5⟩:=h;exact⟨b,cs,ty,h1,h2,h3,by grind,fun j s hj=>X8 hm hk ho 3 s _ (hi s (aiw hj)) (h5 j _ (by simp[hj]))⟩
 |dead=>trivial|row k l=>exact RowRel.over h (.inl ho)|fz k l=>exact Rel.over h .rs ho
 |mp kk vk l pend=>
  have key:∀ q,ObRel F own w hd (.mp kk vk l q)->(∃ b es clk,hd.v=.map (some b)/\hd.bs=[b]/\w.heap[b]? =some (.map es clk)/\MpAt F own2 w kk vk (fj kk vk l q) es/\Stamped es clk/\PendOk own kk vk l es clk q):=fun q h=>by
   obtain⟨b,es,clk,h1,h2,h3,h4,h5,h6⟩:=h;exact⟨b,es,clk,h1,h2,h3,⟨h4.1,fun i x hi=>by
    obtain⟨e,e1,e2,e3,e4⟩:=h4.2 i x hi;exact⟨e,e1,e2,e3.over (wd _ _) ho,e4.over (wd _ _) ho⟩⟩,h5,h6⟩
  match pend,hi,h with
  |none,_,h=>obtain⟨b,es,clk,h1,h2,h3,h4,h5,h6⟩:=key _ h;exact⟨b,es,clk,h1,h2,h3,h4,h5,trivial⟩
  |some (i,q),hi,h=>
   have hlt:i<n:=by grind [xZ,Nat.blt_eq]
   have hs:=hk i hlt;change ObRel F own w hd (Mt kk vk l q (m i))at h;cases hmi:m i with
   |none=>grind
   |some j=>
    rw[hmi]at h;change ObRel F own w hd (Mt kk vk l q (some j))at h;have h':ObRel F own w hd (.mp kk vk l (some (j,q))):=by cases q <;>exact h
    obtain⟨b,es,clk,h1,h2,h3,h4,h5,h6⟩:=key _ h';cases q with
    |none=>
     obtain⟨hd2,t1,t2⟩:=h6;obtain⟨hd',e1,e2⟩:=hm.ids i hlt hd2 (by grind);exact⟨b,es,clk,h1,h2,h3,h4,h5,hd',e1,e2.2.2.trans t2⟩
    |some x=>
     obtain⟨hd2,e,t1,t2,t3⟩:=h6;obtain⟨hd',e1,e2⟩:=hm.ids i hlt hd2 (by grind);exact⟨b,es,clk,h1,h2,h3,h4,h5,hd',e,e1,t2,e2.2.1.trans t3⟩
 |grid k l=>
  rcases h with h| ⟨b,o,cap,cs,ty,bs,h1,h2,h3,h4,h5,h6,h7,h8,h9⟩;exact .inl h;exact .inr ⟨b,o,cap,cs,ty,bs,h1,h2,h3,h4,h5,h6,h7,h8,h9.over (.inl ho)⟩
 |ab r=>
  refine⟨h.1,r.loc _ _ _ w w h.2 (aio _) (fun b hbl hn=>rfl) (fun b hbl hn=>⟨aiO fun hc=>ho b hc hn.1,hn.2⟩)⟩
 |raw o=>exact h
 |mi mid n0 left cur=>
  obtain⟨b,h1,h2,h3⟩:=h;refine⟨b,h1,h2,fun i hj=>?_⟩;subst hj;simp only[xZ]at hi;have hlt:i<n:=by simp_all
  have hs:=hk i hlt;cases hmi:m i with
  |none=>grind
  |some j=>
   obtain⟨hdm,bm,seen,c0,ss,k1,k2,k3,k4⟩:=h3 j (by simp[hmi]);obtain⟨hd',e1,e2⟩:=hm.ids i hlt hdm (by grind);exact⟨hd',bm,seen,c0,ss,e1,e2.2.1.trans k2,k3,k4⟩
 |fwd n0=>
  intro i hj;subst hj;simp only[xZ]at hi;have hlt:i<n:=by simp_all
  have hs:=hk i hlt;cases hmi:m i with
  |none=>grind
  |some j=>
   obtain⟨hdm,k1,k2,k3⟩:=h j (by simp[hmi]);obtain⟨hd',e1,e2⟩:=hm.ids i hlt hdm (by grind);exact⟨hd',e1,e2.2.1.trans k2,k3⟩
theorem Ef {m:Nat->Option Nat}{t:List (Nat×SV)}{n:Nat}(i:Nat):∀ t2,Qe m n t t2->lk i t2=.any\/(lk i t=ren m 5 (lk i t2)/\oV 5 n (lk i t2)=true)
 | [],_=>.inl rfl
 |(j,s)::r,h=>by
  obtain⟨⟨h1,h2⟩,h3⟩:=h;rw[pV];by_cases hj:j=i
  grind
  rw[if_neg hj];exact Ef i r h3
theorem K8 {m:Nat->Option Nat}{n:Nat}{h:List Ob}:∀ (js:List Nat) (h2:List Ob),GS m n h js h2->js.length=h2.length/\∀ (i j:Nat),js[i]? =some j->I3 m n h j (ar h2 i)
 | [],[],_=>⟨rfl,fun i j hj=>by simp at hj⟩
 | [],_::_,hs=>hs.elim|_::_,[],hs=>hs.elim
 |j::js,o::r,hs=>by
  obtain⟨q1,q2⟩:=K8 js r hs.2;refine⟨by simp[q1],fun i j' hj=>?_⟩;cases i with
  |zero=>simp at hj;subst hj;exact hs.1
  |succ i=>exact q2 i j' (by grind)
theorem yM:∀ (js:List Nat) (h:List Ob) (i j:Nat),js[i]? =some j->dg (ar h i)=false->j∈oG js h
 | [],h,i,j,hj,_=>by simp at hj
 |j0::js,[],i,j,_,hl=>by simp[ar,dg]at hl
 |j0::js,o::r,0,j,hj,hl=>by
  simp_all [ar,oG]
 |j0::js,o::r,i+1,j,hj,hl=>by
  have:=yM js r i j (by grind) (by grind [ar]);grind [oG]
theorem HQ:∀ (js:List Nat) (h:List Ob) (i i2 j:Nat),uniq (oG js h)=true->js[i]? =some j->js[i2]? =some j->dg (ar h i)=false->dg (ar h i2)=false->i=i2
 | [],h,i,i2,j,_,hj,_,_,_=>by simp at hj
 |j0::js,[],i,i2,j,_,_,_,hl,_=>by simp[ar,dg]at hl
 |j0::js,o::r,i,i2,j,hu,h1,h2,l1,l2=>by
  have hu2:uniq (oG js r)=true:=by
   simp only[oG]at hu;cases hd:dg o <;>rw[hd]at hu;simp_all [uniq];exact hu
  have hno:dg o=false->j0 ∉ oG js r:=fun hd=>by
   simp only[oG,hd,cond_false,uniq,aim]at hu;grind [yL]
  cases i with
  |zero=>
   simp at h1;subst h1;cases i2 with
   |zero=>rfl
   |succ i2=>exact absurd (yM js r i2 j0 (by simpa using h2) (by simpa[ar]using l2)) (hno (by simpa[ar]using l1))
  |succ i=>
   cases i2 with
   |zero=>simp at h2;subst h2;exact absurd (yM js r i j0 (by simpa using h1) (by simpa[ar]using l1)) (hno (by simpa[ar]using l2))
   |succ i2=>rw[HQ js r i i2 j hu2 (by simpa using h1) (by simpa using h2) (by simpa[ar]using l1) (by simpa[ar]using l2)]
theorem AS:∀ (js:List Nat) (i n:Nat),AJ i js n=true->∀ k j,js[k]? =some j->i+k<n->j=i+k
 | [],i,n,_,k,j,hj,_=>by simp at hj
 |j0::js,i,n,h,k,j,hj,hlt=>by
  simp only[AJ,aim,aiV]at h;cases k with
  |zero=>
   simp at hj;subst hj;rcases h.1 with h1|h1;simp_all;have:=nbl h1;omega
  |succ k=>
   have:=AS js (i+1) n h.2 k j (by grind) (by omega);omega
def i9 (js:List Nat)(h2:List Ob)(own:Own):Own:=fun k=>if k<h2.length then((js[k]?).bind own).map (fun hd=>if dg (ar h2 k)then { hd with bs:=[]}else hd)else none
theorem jx {js:List Nat}{h2:List Ob}{k:Nat}{hd:Hd}(h:i9 js h2 own k=some hd):k<h2.length/\∃ j hd0,js[k]? =some j/\own j=some hd0/\hd0.like hd/\(∀ b∈hd.bs,dg (ar h2 k)=false/\hd=hd0):=by
 unfold i9 at h;split at h
 rename_i hlt;rw[ajl]at h;obtain⟨hd0,h1,h2'⟩:=h;rw[akz]at h1;obtain⟨j,e1,e2⟩:=h1;refine⟨hlt,j,hd0,e1,e2,?_,?_⟩;split at h2' <;>subst h2' <;>exact⟨rfl,rfl,rfl⟩
 grind
 cases h
theorem SD {js:List Nat}{h2:List Ob}{b:Nat}(hb:¬cm F own b):¬cm F (i9 js h2 own) b:=by
 rintro (hf| ⟨k,hd,e,hm⟩);exact hb (.inl hf);obtain⟨_,j,hd0,_,e2,_,e4⟩:=jx e;obtain⟨_,rfl⟩:=e4 b hm;exact hb (.inr ⟨j,hd,e2,hm⟩)
theorem M_ {js:List Nat}{n0:Nat}{st st2:St}(hs:Sub js n0 st st2)(hp:Hp F own w st.h)(hle:n0<=st2.h.length):
  Hp F (i9 js st2.h own) w st2.h/\(∀ F b,¬cm F own b->¬cm F (i9 js st2.h own) b)/\(∀ (F:Nat->Prop) (f:Nat) (s:SV) (v:Value),oV f st2.h.length s=true->Rel F own w (ren (EW js) f s) v->Rel F (i9 js st2.h own) w s v)/\∀ id hd,id<n0->own id=some hd->∃ hd',i9 js st2.h own id=some hd'/\hd.like hd':=by
 obtain⟨⟨hu,hk,hlt⟩,_,hh⟩:=hs;obtain⟨hlen,hob⟩:=K8 js st2.h hh;have hjs:∀ k,k<st2.h.length->(EW js k).isSome=true:=fun k hkl=>by
  show(nth js k).isSome=true;grind [ip]
 have hun:Un (EW js) st2.h.length own (i9 js st2.h own):=⟨fun k hkl hd e=>by
  have e':(js[k]?).bind own=some hd:=by rw[<-ip];exact e
  refine⟨if dg (ar st2.h k)then { hd with bs:=[]}else hd,?_,?_⟩;simp_all [i9];split <;>exact⟨rfl,rfl,rfl⟩⟩
 have hown:∀ (F:Nat->Prop) b,¬cm F own b->¬cm F (i9 js st2.h own) b:=fun F b hb=>SD hb;refine⟨⟨fun id hd e=>(jx e).1,hp.foreign,fun id hd b e hb=>?_,fun i j hi hj b e1 e2 hb1 hb2=>?_,fun id hd b e hb=>?_,fun id hdd=>?_⟩,hown,fun F f s v=>X8 hun hjs (hown F) f s v,fun id hd hid e=>?_⟩;obtain⟨_,j,hd0,_,e2,_,e4⟩:=jx e;obtain⟨_,rfl⟩:=e4 b hb;exact hp.apart j hd b e2 hb;obtain⟨_,j1,hd1,p1,p2,_,p4⟩:=jx e1;obtain⟨_,j2,hd2,q1,q2,_,q4⟩:=jx e2;obtain⟨l1,rfl⟩:=p4 b hb1;obtain⟨l2,rfl⟩:=q4 b hb2;have:=hp.inj j1 j2 hi hj b p2 q2 hb1 hb2;subst this;exact HQ js st2.h i j j1 hu p1 q1 l1 l2;obtain⟨_,j,hd0,_,e2,_,e4⟩:=jx e;obtain⟨_,rfl⟩:=e4 b hb;exact hp.lt j hd b e2 hb;have hidl:id<st2.h.length:=by
  rcases ajk id st2.h.length with h|h;exact h;rw[qE h]at hdd;cases hdd
 have hj:∃ j,js[id]? =some j:=⟨js[id]'(by omega),by simp⟩;obtain⟨j,hj⟩:=hj;have ho:=hob id j hj;unfold I3 at ho;rw[hdd]at ho;simp only[cond_false]at ho;obtain⟨ho1,ho2⟩:=ho;have hd1:dg (ar st.h j)=false:=by grind [QI,xI]
 obtain⟨hd,e1,e2⟩:=hp.obs j hd1
 replace e2:=SC (ar st2.h id) e2
 refine⟨hd,?_,?_⟩;simp_all [i9];rw[ho1]at e2;exact Zi hun hjs (hown F) ho2 e2;have hjid:js[id]? =some id:=by
  have hj:∃ j,js[id]? =some j:=⟨js[id]'(by omega),by simp⟩;obtain⟨j,hj⟩:=hj;have:=AS js 0 n0 hk id j hj (by omega);grind
 refine⟨if dg (ar st2.h id)then { hd with bs:=[]}else hd,?_,?_⟩;unfold i9;grind;split <;>exact⟨rfl,rfl,rfl⟩
theorem Fz {js:List Nat}{n0:Nat}{st st2:St}(hs:Sub js n0 st st2)(hp:Hp F own w st.h)(hfr:Fr w0 own w)(hn:∀ id hd,w0.own id=some hd->id<n0)(hle:n0<=st2.h.length):
  Hp F (i9 js st2.h own) w st2.h/\Fr w0 (i9 js st2.h own) w/\(∀ b,¬cm F own b->¬cm F (i9 js st2.h own) b)/\∀ (f:Nat) (s:SV) (v:Value),oV f st2.h.length s=true->Rel F own w (ren (EW js) f s) v->Rel F (i9 js st2.h own) w s v:=by
 obtain⟨q1,q2,q3,q4⟩:=M_ hs hp hle;refine⟨q1,⟨fun id hd e=>?_,fun id hd b e hb=>?_,hfr.os,hfr.tape,hfr.output,hfr.size,hfr.block⟩,q2 F,q3 F⟩;obtain⟨hd1,e1,l1⟩:=hfr.ids id hd e;obtain⟨hd2,e2,l2⟩:=q4 id hd1 (hn id hd e) e1;exact⟨hd2,e2,l1.trans l2⟩;obtain⟨_,j,hd0,_,e2,_,e4⟩:=jx e;obtain⟨_,rfl⟩:=e4 b hb;exact hfr.base j hd b e2 hb
theorem StRel.sub {st st2:St}{a:Act}{w:World}(h:StRel F w0 N own st a w){js:List Nat}{n0:Nat}(hs:Sub js n0 st st2)(hn:∀ id hd,w0.own id=some hd->id<n0)(hle:n0<=st2.h.length):StRel F w0 N (i9 js st2.h own) st2 a w:=by
 obtain⟨q1,q2,q3,q4⟩:=Fz hs h.hp h.fr hn hle;refine⟨h.size,h.defers,q1,q2,fun t=>?_⟩;rcases Ef t _ hs.2.1 with e| ⟨e1,e2⟩;rw[e];exact .any _;have:=h.slots t;grind
theorem HR (hm:P.follows .mixedOrders=true)(hts:ts.ok P)(hG:ConsOk P G){id:Nat}{c:Code}(hc:cD N c=true){σ:Type}(D:σ->St)(I:σ->Prop)(m:σ->Nat)(n0:Nat)(hn:∀ id hd,w0.own id=some hd->id<n0)(Q:Ex->St->Prop)
  (hround:∀ x,I x->∃ L Qx,ap P ro N L c/\(∀ e st',Qx e st'->xB D I m n0 x id Q e st')/\exec ts G L c (D x) Qx):
  ∀ x,I x->∀ own a w,StRel F w0 N own (D x) a w->(Code.block id (.loop c)).wpIn (rd ro) nd P (Fx F w0 N Q) a w:=by
 intro x hx own a w hr;refine wpIn_block (wpIn_loop_ghost (fun n a w=>∃ x F1 own,I x/\m x=n/\(∀ b,F b->F1 b)/\StRel F1 w0 N own (D x) a w) (m x) ⟨x,F,own,hx,rfl,fun _ h=>h,hr⟩ ?_);rintro n a w ⟨x,F2,own,hx,rfl,hF2,hr⟩;obtain⟨L,Qx,hl,hQx,hex⟩:=hround x hx;refine wpIn_mono (wpIn_mono (oK hm hts hG c hc hl F2 (D x) _ hex own a w hr) (wS hQx)) ?_;intro e a' w' hq;cases e with
 |normal=>
  obtain⟨F1,own',st',h0,h1,y,js,h2,h3,h5,h4⟩:=hq;exact⟨m y,h3,y,F1,_,h2,rfl,fun b hb=>h0 b (hF2 b hb),h1.sub h4 hn h5⟩
 |exit j=>
  obtain⟨F1,own',st',h0,h1,h2⟩:=hq;have h2':(bif Nat.beq j id then Q .normal st' else Q (.exit j) st'):=h2;show if j=id then _ else _;by_cases hj:j=id
  subst hj;rw[if_pos rfl];simp only[ak9,cond_true]at h2';exact⟨F1,own',st',fun b hb=>h0 b (hF2 b hb),h1,h2'⟩;rw[if_neg hj];have:Nat.beq j id=false:=by cases hb:Nat.beq j id <;>simp_all
  rw[this]at h2';exact⟨F1,own',st',fun b hb=>h0 b (hF2 b hb),h1,h2'⟩
 |ret=>
  obtain⟨F1,own',st',h0,h1,h2⟩:=hq;exact⟨F1,own',st',fun b hb=>h0 b (hF2 b hb),h1,h2⟩
 |panic ch=>
  obtain⟨x,F1,own',st',h0,h1,h2,h3⟩:=hq;exact⟨x,F1,own',st',fun b hb=>h0 b (hF2 b hb),h1,h2,h3⟩
 |_=>exact hq.elim
end
section
variable {P:Program}{F:Nat->Prop}{w0:Bs}{ro:Option Nat}{nd:Nat}{ts:Tis}{G:Cons}{L:wF}{N:Nat}
theorem K9:∀ (l:List SV) (n t:Nat),lk t (nN n l)=if n<=t then(l[t - n]?).getD .any else .any
 | [],n,t=>by simp[nN,lk]
 |s::r,n,t=>by
  rw[nN,pV,K9 r (n+1) t];grind
def SE (tmps:Array Value):ResultVar->Sem Value
 | .tmp t=>pure (tmps.getD t undef)| .cell q t=>do loadVar t (<-asAddr (tmps.getD q undef))
theorem Na (fn:Func)(tmps:Array Value):results fn tmps=(do let vs <-fn.results.mapM (SE tmps);pure (if h:vs.size=1 then vs[0]else .tuple vs)):=by
 rfl
structure Shut (Ds:List Nat)(w w':World):Prop where
 size:w'.heap.size=w.heap.size
 block:∀ k,k ∉ Ds->w'.heap[k]? =w.heap[k]?
 os:w'.os=w.os
 tape:w'.tape=w.tape
 output:w'.output=w.output
theorem wT {fn:Func}{tmps:Array Value}{R:Ending->World->Prop}{u:FrameMode}(hu:u≠ .run){bs:List Deferred}:∀ (Ds:List Nat) (ds:List Deferred) (w:World),ds.map (·.target)=Ds.map .collected->Ds.Nodup->
  (∀ D∈Ds,w.heap[D]? =some (.deferred (some [])))->(∀ w2,Shut Ds w w2->LeavesInM (rd none) nd P fn tmps R bs u w2)->LeavesInM (rd none) nd P fn tmps R (ds++bs) u w
 | [],[],w,_,_,_,h=>h w ⟨rfl,fun _ _=>rfl,rfl,rfl,rfl⟩
 | [],_::_,w,hm,_,_,_=>by simp at hm
 |_::_,[],w,hm,_,_,_=>by simp at hm
 |D::Ds,d::ds,w,hm,hn,hD,h=>by
  simp only[aiW,aje]at hm;obtain⟨hd,hm⟩:=hm;rw[ai1]at hn;have hlt:=qC (hD D (by simp));refine⟨hu,.inl ⟨D,_,hd,run_takeDeferred (hD D (by simp)),?_⟩⟩;refine wT hu Ds ds _ hm hn.2 (fun D' hD'=>?_) fun w2 hs=>?_;rw[World.putObj_heap_other (by grind)];grind
  refine h w2 ⟨?_,fun k hk=>?_,hs.os,hs.tape,hs.output⟩;rw[hs.size];simp_all;simp only[aiu,not_or]at hk;rw[hs.block k hk.2,World.putObj_heap_other hk.1]
theorem StRel.shut {own:Own}{st:St}{a:Act}{w w2:World}{Ds:List Nat}(h:StRel F w0 N own st a w)(hD:∀ D∈Ds,w0.w.heap.size<=D/\F D/\w.heap[D]? =some (.deferred (some [])))(hs:Shut Ds w w2):
  StRel F w0 N own st { a with defers:=w0.ds} w2:=by
 have g:Goes F own w own w2:=⟨fun _ hd e=>⟨hd,e,.refl _⟩,fun b _ hn=>⟨hn,hs.block b fun hb=>hn (.inl (hD b hb).2.1)⟩,by rw[hs.size];omega⟩;refine⟨h.size,Dfr.nil,h.hp.goes g fun id hd b e hb=>hs.block b fun hm=>h.hp.apart id hd b e hb (hD b hm).2.1,⟨h.fr.ids,h.fr.base,hs.os.trans h.fr.os,hs.tape.trans h.fr.tape,hs.output.trans h.fr.output,by rw[hs.size];exact h.fr.size,fun k hk=>?_⟩,fun t=>(h.slots t).mono g⟩;rw[hs.block k fun hb=>by have:=(hD k hb).1;have:=hk.1;omega];exact h.fr.block k hk
theorem StRel.less {F1:Nat->Prop}(hF:∀ b,F b->F1 b){own:Own}{st:St}{a:Act}{w:World}(h:StRel F1 w0 N own st a w)(hd:a.defers=w0.ds):StRel F w0 N own st a w:=by
 have hc:Carries F1 own w F own w:=⟨fun _ hd e=>⟨hd,e,.refl _⟩,fun b _ hn=>⟨fun ho=>hn (ho.imp (hF b) id),rfl⟩⟩;refine⟨h.size,by rw[hd];exact Dfr.nil,⟨h.hp.dom,fun b hb=>h.hp.foreign b (hF b hb),fun id hd b e hb hf=>h.hp.apart id hd b e hb (hF b hf),h.hp.inj,h.hp.lt,fun id hdd=>?_⟩,h.fr,fun t=>(h.slots t).carry hc⟩;obtain⟨hd,e1,e2⟩:=h.hp.obs id hdd;exact⟨hd,e1,e2.carry hc (aio _) fun _ _=>rfl⟩
theorem QJ (hts:ts.ok P){own:Own}{st:St}{a:Act}{w:World}(hr:StRel F w0 N own st a w){x:ResultVar}{s:SV}(h:Qc ts st x=some s):
  ∃ v,(SE a.tmps x).run P w=.ok v w/\Rel F own w s v:=by
 cases x with
 |tmp n=>
  simp only[Qc,aip]at h;subst h;exact⟨_,rfl,hr.slots n⟩
 |cell q t=>
  simp only[Qc]at h;cases hg:aG ts t fun ti=>sJ ti st.h (lk q st.t)with
  |val s'=>
   rw[hg]at h;simp only[VM,aip]at h;subst h;obtain⟨ti,ht,he⟩:=bS hts hg (by simp);obtain⟨u,e1,e2⟩:=Kz (P:=P) hr.hp ht (hr.slots q) he;refine⟨u,?_,e2⟩;show(do loadVar t (<-asAddr (a.tmps.getD q undef)):Sem Value).run P w=.ok u w;generalize a.tmps.getD q undef=vq at e1 |-;unfold Instr.loadAt at e1;rw[aiJ]at e1 |-;have hsure:∀ x w',(Instr.sureAddr vq).run P w=.ok x w'->(asAddr vq).run P w=.ok x w':=by
    intro x w' h;unfold Instr.sureAddr at h;split at h
    exact h;simp_all
   cases hsa:(Instr.sureAddr vq).run P w <;>simp_all
  |_=>rw[hg]at h;simp[VM]at h
theorem HS (hts:ts.ok P){own:Own}{st:St}{a:Act}{w:World}(hr:StRel F w0 N own st a w):∀ (rs:List ResultVar) (l:List SV),k9 ts st rs=some l->
  ∃ vs:List Value,(rs.mapM (SE a.tmps):Sem (List Value)).run P w=.ok vs w/\vs.length=l.length/\∀ (j:Nat) (s:SV),l[j]? =some s->∃ v,vs[j]? =some v/\Rel F own w s v
 | [],l,h=>by
  simp_all [k9]
 |x::r,l,h=>by
  simp only[k9]at h;cases hv:Qc ts st x with
  |none=>grind [Kw]
  |some s0=>
   cases hl:k9 ts st r with
   |none=>grind [Kw]
   |some l'=>
    rw[hv,hl]at h;simp only[Kw,aip]at h;subst h;obtain⟨v0,f1,f2⟩:=QJ (P:=P) hts hr hv;obtain⟨vs,e1,e2,e3⟩:=HS hts hr r l' hl;refine⟨v0::vs,?_,by simp[e2],fun j s hj=>?_⟩;simp_all;grind
theorem xK (hts:ts.ok P){fn:Func}{own:Own}{st:St}{a:Act}{w:World}(hr:StRel F w0 N own st a w){s:SV}(h:mz (k9 ts st fn.results.toList)=some s):∃ u,(results fn a.tmps).run P w=.ok u w/\Rel F own w s u:=by
 cases hl:k9 ts st fn.results.toList with
 |none=>rw[hl]at h;cases h
 |some l=>
  obtain⟨vs,e1,e2,e3⟩:=HS (P:=P) hts hr _ l hl;rw[hl]at h;have hres:(results fn a.tmps).run P w=.ok (if h:vs.toArray.size=1 then vs.toArray[0]else .tuple vs.toArray) w:=by
   grind [Na,Array.mapM_eq_mapM_toList,Sem.run_bind,Sem.run_map,Result.andThen_ok,Sem.run_pure]
  have hlen:vs.toArray.size=l.length:=by omega
  match l,h,e2,e3,hlen with
  | [s0],h,e2,e3,hlen=>
   simp only[mz,aip]at h;subst h;obtain⟨v,hv,hrel⟩:=e3 0 s0 rfl;grind
  | [],h,e2,e3,hlen=>
   simp only[mz,aip]at h;subst h;refine⟨.tuple vs.toArray,by grind,.tup (by omega) fun j s hj=>by simp at hj⟩
  |s0::s1::r,h,e2,e3,hlen=>
   simp only[mz,aip]at h;subst h;refine⟨.tuple vs.toArray,by grind,.tup (by omega) fun j s hj=>?_⟩;obtain⟨v,hv,hrel⟩:=e3 j s hj;simp_all
theorem j_ {fn:Func}{own:Own}{st:St}{a:Act}{w:World}{R:Ending->World->Prop}(hr:StRel F w0 N own st a w){u:FrameMode}(hu:u≠ .run)
  (h:∀ w2,StRel F w0 N own st { a with defers:=w0.ds} w2->LeavesInM (rd none) nd P fn a.tmps R w0.ds u w2):LeavesInM (rd none) nd P fn a.tmps R a.defers u w:=by
 obtain⟨ms,Ds,h0,h1,h2,h3⟩:=hr.defers;rw[h0];exact wT hu Ds ms w h1 h2 (fun D hD=>(h3 D hD).2.2) fun w2 hs=>h w2 (hr.shut h3 hs)
theorem qH {w w':World}{own:Own}(h:Fr { w:=w,own:=cF} own w'):Below w.heap.size w w':=
 ⟨h.os,h.tape,h.output,h.size,fun k hk=>h.block k ⟨hk,fun⟨_,_,e,_⟩ =>by cases e⟩⟩
theorem nR {own:Own}{w:World}{l:List SV}{vs:Array Value}(hvs:RelL F own w l vs)(n t:Nat):Rel F own w (lk t (nN 0 l)) ((vs++Array.replicate n undef).getD t undef):=by
 rw[K9,if_pos (aiX t),Nat.sub_zero];cases ht:l[t]? with
 |none=>exact .any _
 |some s=>
  have hlt:t<vs.size:=by rw[hvs.1];grind
  have:=hvs.2 t s ht;grind [vC]
theorem xL {w:World}(hF:∀ b,F b->b<w.heap.size):Hp F cF w []:=
 ⟨fun _ _ h=>(by cases h),hF,fun _ _ _ h=>(by cases h),fun _ _ _ _ _ h=>(by cases h),fun _ _ _ h=>(by cases h),fun id h=>(by simp[ar,dg]at h)⟩
def nF (h:List Ob):Nat->SV->List Nat
 |_,.os id=>match aS 0 (yC (ar h id))with| [] =>[] |_=>[id]
 |n+1,.agg l=>l.flatMap (nF h n)|n+1,.tup l=>l.flatMap (nF h n)|_,_=>[]
theorem Dx (o:Ob):(∃ (k:Tag) (l:List k.T),o=.row k l/\yC o=.nw k l)\/(∃ (k k2:Tag) (l:List (k.T×k2.T)),o=.mp k k2 l none/\yC o=.nm k k2 l)\/(∃ (k:Tag) (l:List (List k.T)),o=.grid k l/\yC o=.ng k l)\/yC o=.any:=by
 cases o with
 |row k l=>exact .inl ⟨k,l,rfl,rfl⟩
 |mp k k2 l p=>
  cases p with
  |none=>exact .inr (.inl ⟨k,k2,l,rfl,rfl⟩)|some x=>exact .inr (.inr (.inr rfl))
 |grid k l=>exact .inr (.inr (.inl ⟨k,l,rfl,rfl⟩))|_=>exact .inr (.inr (.inr rfl))
theorem Nb:∀ (n:Nat) (s:SV),da n s=true->∀ m,aS m s=[]:=by
 intro n;induction n with
 |zero=>intro s h m;cases s <;>simp[da]at h <;>cases m <;>rfl
 |succ n ih=>
  intro s h m;have hl:∀ (l:List SV) m,l.all (da n)=true->l.flatMap (aS m)=[]:=fun l m hl=>by
   simp_all
  cases s with
  |agg l=>cases m with
   |zero=>rfl|succ m=>exact hl l m h
  |tup l=>cases m with
   |zero=>rfl|succ m=>exact hl l m h
  |_=>first|(cases m <;>rfl) |simp[da]at h
theorem HT {h:List Ob}:∀ (n:Nat) (s:SV),aS n (Ah h n s)=(nF h n s).map (ar h)/\nF h n s ⊆ xA n s/\(nF h n s).Sublist (xA n s)/\∀ id∈nF h n s,KV (ar h id):=by
 have hos:∀ (n id:Nat),aS n (yC (ar h id))=(nF h n (.os id)).map (ar h)/\nF h n (.os id) ⊆ [id]/\(nF h n (.os id)).Sublist [id]/\∀ i∈nF h n (.os id),KV (ar h i):=by
  intro n id;have e:nF h n (.os id)=match aS 0 (yC (ar h id))with| [] =>[] |_=>[id]:=by cases n <;>rfl
  rw[e];rcases Dx (ar h id)with⟨k,l,e1,e2⟩ | ⟨k,k2,l,e1,e2⟩ | ⟨k,l,e1,e2⟩ |e2;rw[e2];refine⟨?_,by simp[aS],by simp[aS],fun i hi=>?_⟩;grind [aS]
  simp[aS]at hi;subst hi;exact .inl ⟨k,l,e1⟩;rw[e2];refine⟨?_,by simp[aS],by simp[aS],fun i hi=>?_⟩;grind [aS]
  simp[aS]at hi;subst hi;exact .inr (.inl ⟨k,k2,l,e1⟩);rw[e2];refine⟨?_,by simp[aS],by simp[aS],fun i hi=>?_⟩;grind [aS]
  simp[aS]at hi;subst hi;exact .inr (.inr ⟨k,l,e1⟩);grind [aS]
 have hleaf:∀ (n m:Nat) (s:SV),aS n (bif da m s then s else .any)=[]:=fun n m s=>by
  cases hb:da m s with
  |true=>exact Nb m s hb n|false=>cases n <;>rfl
 intro n;induction n with
 |zero=>
  intro s;cases s with
  |os id=>exact hos 0 id
  |_=>first|exact⟨rfl,by simp[nF,xA],by simp[nF,xA],fun i hi=>by simp[nF]at hi⟩ |exact⟨hleaf _ _ _,by simp[nF,xA],by simp[nF,xA],fun i hi=>by simp[nF]at hi⟩
 |succ n ih=>
  intro s;have hl:∀ l:List SV,(l.map (Ah h n)).flatMap (aS n)=(l.flatMap (nF h n)).map (ar h)/\l.flatMap (nF h n) ⊆ l.flatMap (xA n)/\(l.flatMap (nF h n)).Sublist (l.flatMap (xA n))/\∀ id∈l.flatMap (nF h n),KV (ar h id):=by
   intro l;induction l <;>grind
  cases s with
  |os id=>exact hos (n+1) id|agg l=>exact hl l|tup l=>exact hl l
  |_=>first|exact⟨rfl,by simp[nF,xA],by simp[nF,xA],fun i hi=>by simp[nF]at hi⟩ |exact⟨hleaf _ _ _,by simp[nF,xA],by simp[nF,xA],fun i hi=>by simp[nF]at hi⟩
theorem FA:∀ l:List Nat,uniq l=true->l.Nodup
 | [],_=>ajC
 |a::r,h=>by
  simp only[uniq,aim]at h;rw[ai1];refine⟨fun hm=>?_,FA r h.2⟩;grind [yL]
theorem QK {own own':Own}{w:World}{h:List Ob}(hp:Hp F own w h)(hsh:∀ b,¬cm F own b->¬cm F own' b):∀ (n b:Nat) (s:SV) (v:Value),Rel F own w s v->(∀ i id,(nF h n s)[i]? =some id->own' (b+i)=own id)->x4 F own' w n b (Ah h n s) v:=by
 have hx:∀ c,¬cm F own c->¬cm (cm F own') cF c:=fun c hc=>by
  rintro (hf| ⟨_,_,e,_⟩);grind
  cases e
 have hos:∀ (n b id:Nat) (v:Value),Rel F own w (.os id) v->(∀ i j,(nF h n (.os id))[i]? =some j->own' (b+i)=own j)->x4 F own' w n b (yC (ar h id)) v:=by
  intro n b id v hr hg;have e:nF h n (.os id)=match aS 0 (yC (ar h id))with| [] =>[] |_=>[id]:=by cases n <;>rfl
  rw[e]at hg;cases hr with
  |os h1 h2=>
   rcases Dx (ar h id)with⟨k,l,e1,e2⟩ | ⟨k,k2,l,e1,e2⟩ | ⟨k,l,e1,e2⟩ |e2;all_goals rw[e2]at hg |-
   have:=hg 0 id (by simp[aS]);rw[ajP]at this;cases n <;>exact⟨_,by rw[this];exact h1,rfl,h2⟩;have:=hg 0 id (by simp[aS]);rw[ajP]at this;cases n <;>exact⟨_,by rw[this];exact h1,rfl,h2⟩;have:=hg 0 id (by simp[aS]);rw[ajP]at this;cases n <;>exact⟨_,by rw[this];exact h1,rfl,h2⟩;cases n <;>exact Rel.any _
 have hleaf:∀ (n m b:Nat) (s:SV) (v:Value),Rel F own w s v->(∀ l,s≠ .agg l)->(∀ l,s≠ .tup l)->x4 F own' w n b (bif da m s then s else .any) v:=by
  intro n m b s v hr n1 n2;cases hb:da m s with
  |false=>cases n <;>exact Rel.any _
  |true=>
   have hr2:Rel (cm F own') cF w s v:=hr.over (iI m s hb) hx;simp only[cond_true];cases s with
   |agg l=>grind|tup l=>grind|nw k l=>cases hr|nm k k2 l=>cases hr|ng k l=>cases hr|_=>cases n <;>exact hr2
 intro n;induction n with
 |zero=>
  intro b s v hr hg;cases s with
  |os id=>exact hos 0 b id v hr hg|v x=>exact hr.over (.v x) hx|rs k l=>exact hr.over .rs hx|rm k k2 l=>exact hr.over .rm hx|e0=>exact hr.over .e0 hx|agg l=>exact Rel.any _|tup l=>exact Rel.any _
  |_=>exact hleaf 0 0 b _ v hr (fun _ e=>by cases e) (fun _ e=>by cases e)
 |succ n ih=>
  intro b s v hr hg;have hl:∀ (l:List SV) (vs:Array Value) (b:Nat),(∀ (j:Nat) (s:SV),l[j]? =some s->Rel F own w s (vs.getD j undef))->(∀ i id,(l.flatMap (nF h n))[i]? =some id->own' (b+i)=own id)->
    ∀ (j:Nat) (s:SV),(l.map (Ah h n))[j]? =some s->x4 F own' w n (b+cnt n ((l.map (Ah h n)).take j)) s (vs.getD j undef):=by
   intro l vs b h1 h2 j s hj;obtain⟨x,hx2,rfl⟩:=iW hj;refine ih _ x _ (h1 j x hx2) fun i id hi=>?_;have hc:cnt n ((l.map (Ah h n)).take j)=((l.take j).flatMap (nF h n)).length:=by
    rw[<-List.map_take];generalize l.take j=m;induction m with
    |nil=>rfl|cons y r ihm=>grind [cnt,HT]
   rw[hc,ajB];refine h2 _ id ?_;have hsplit:l=l.take j++(x::l.drop (j+1)):=by
    grind [List.getElem_cons_drop,List.take_append_drop]
   grind
  cases s with
  |os id=>exact hos (n+1) b id v hr hg|v x=>exact hr.over (.v x) hx|rs k l=>exact hr.over .rs hx|rm k k2 l=>exact hr.over .rm hx|e0=>exact hr.over .e0 hx
  |agg l=>cases hr with|agg h0 h1=>exact⟨_,rfl,by grind,hl l _ b h1 hg⟩
  |tup l=>cases hr with|tup h0 h1=>exact⟨_,rfl,by grind,hl l _ b h1 hg⟩
  |_=>exact hleaf (n+1) (n+1) b _ v hr (fun _ e=>by cases e) (fun _ e=>by cases e)
theorem Ov {own:Own}{st:St}{a:Act}{w w':World}(hst:StRel F { w:=w,own:=cF} N own st a w'){s s2:SV}{u:Value}(hr:Rel F own w' s u)(hg:Do st.h s=some s2):∃ own',Handed F w own' w' s2 u:=by
 unfold Do at hg;cases hb:uniq (xA 3 s)&&(xA 3 s).all (fun i=>Nat.blt i st.h.length)with
 |false=>grind
 |true=>
  rw[hb]at hg;simp only[cond_true,aip]at hg;subst hg;rw[aim]at hb;obtain⟨g1,g2,g3,g4⟩:=HT (h:=st.h) 3 s;have hnd:(nF st.h 3 s).Nodup:=(FA _ hb.1).sublist g3;let own':Own:=fun i=>((nF st.h 3 s)[i]?).bind own
  have ho:∀ i hd,own' i=some hd->∃ id,(nF st.h 3 s)[i]? =some id/\own id=some hd:=fun i hd e=>by
   grind
  have hsh:∀ b,¬cm F own b->¬cm F own' b:=fun b hb=>by
   rintro (hf| ⟨i,hd,e,hm⟩);exact hb (.inl hf);obtain⟨id,_,e2⟩:=ho i hd e;exact hb (.inr ⟨id,hd,e2,hm⟩)
  refine⟨own',⟨fun i hd e=>?_,hst.hp.foreign,fun i hd b e hm=>?_,fun i j hi hj b e1 e2 hb1 hb2=>?_,fun i hd b e hm=>?_,fun i hdd=>?_⟩,?_,fun i hd b e hm=>?_⟩;grind
  obtain⟨id,_,e2⟩:=ho i hd e;exact hst.hp.apart id hd b e2 hm;obtain⟨k1,p1,p2⟩:=ho i hi e1;obtain⟨k2,q1,q2⟩:=ho j hj e2;have:=hst.hp.inj k1 k2 hi hj b p2 q2 hb1 hb2;subst this;exact uc hnd p1 q1;obtain⟨id,_,e2⟩:=ho i hd e;exact hst.hp.lt id hd b e2 hm;rw[g1]at hdd |-;rw[tV]at hdd |-;rw[ai7]at hdd |-;cases hi:(nF st.h 3 s)[i]? with
  |none=>grind [dg]
  |some id=>
   rw[hi]at hdd;simp only[ajt,aky]at hdd |-;obtain⟨hd,e1,e2⟩:=hst.hp.obs id hdd;refine⟨hd,by grind,e2.over (g4 id (aiw hi)) (.inl hsh)⟩
  exact QK hst.hp hsh 3 0 s u hr fun i id hi=>by grind
  obtain⟨id,_,e2⟩:=ho i hd e;have:=hst.fr.base id hd b e2 hm;rcases ajk b w.heap.size with hlt|hge;exact absurd ⟨hlt,fun⟨_,_,e,_⟩ =>by cases e⟩ this;exact hge
end
section
variable {P:Program}{F:Nat->Prop}{w0:Bs}{ro:Option Nat}{nd:Nat}{ts:Tis}{G:Cons}{L:wF}{N:Nat}
theorem vJ {w w':World}{s:SV}{u:Value}(hF:∀ b,F b->b<w'.heap.size)(h:Rel F cF w' s u):Handed F w cF w' s u:=by
 refine⟨?_,So 3 0 h,fun _ _ _ e=>(by cases e)⟩;rw[Fd 3 h];exact xL hF
theorem Jt (m:Bool) (hm:P.follows .mixedOrders=true) (hts:ts.ok P) (hG:ConsOk P G) {f:FuncId} {fn:Func} {c:Code} (hf:P.funcs[f]? =some fn) (hb:fn.body=some c) (hname:(fn.name== "runtime.NumGoroutine")=false)
  (hc:cD fn.ntmps c=true) {C:List SV->Option Con}
  (h:∀ l con,C l=some con->aw con->l.length<=fn.ntmps/\∃ L,ap P none fn.ntmps L c/\exec ts G L c ⟨nN 0 l,[]⟩ (Kx m fn.results.toList ts (dw con) (nQ con))):FnOk P f C:=by
 refine⟨fun l con _ args w=>?_,fun l con hcon hpre F w vs hF hvs=>?_⟩;simp_all [callFunc];obtain⟨hlen,L,hl,hx⟩:=h l con hcon hpre;refine pW (n:=0) (callsIn_of_wp_marks hf hb trivial ?_);have hr:StRel F { w:=w,own:=cF} fn.ntmps cF ⟨nN 0 l,[]⟩ { tmps:=vs++Array.replicate (fn.ntmps - vs.size) undef,defers:=[]} w:=
  ⟨by have:=hvs.1;simp;omega,Dfr.nil,xL hF,Fr.refl _,fun t=>nR hvs _ t⟩
 refine wpIn_mono (oK hm hts hG c hc hl F _ _ hx cF _ w hr) ?_;intro e a' w' hq;have key:∀ F1 own st,(∀ b,F b->F1 b)->StRel F1 { w:=w,own:=cF} fn.ntmps own st a' w'->fh (dw con) (AI m fn.results.toList ts st)->LeavesInM (rd none) 0 P fn a'.tmps
   (fun e w'=>(∃ s u own',dw con s/\e=.returned u/\Handed F w own' w' s u/\Below w.heap.size w w')\/(∃ x,nQ con x/\e=.panicked [{ v:=x,recovered:=false}]/\Below w.heap.size w w')) a'.defers .returning w':=by
  intro F1 own st hF1 hst hdone;refine j_ hst (by simp) fun w2 hst2=>?_;have hst3:=hst2.less hF1 rfl;unfold AI at hdone;cases hs:mz (k9 ts st fn.results.toList)with
  |none=>
   cases m <;>simp only[cond_true,cond_false,yB,Qd]at hdone <;>rw[hs]at hdone <;>exact hdone.elim
  |some s=>
   obtain⟨u,e1,e2⟩:=xK (P:=P) hts hst3 hs;refine⟨u,e1,.inl ?_⟩;cases m with
   |false=>
    simp only[cond_false,yB]at hdone;rw[hs]at hdone;exact⟨_,u,cF,hdone,rfl,vJ hst3.hp.foreign (vG hst3.hp 4 s u e2),qH hst3.fr⟩
   |true=>
    simp only[cond_true,Qd]at hdone;rw[hs]at hdone;change fh (dw con) (Do st.h s)at hdone;cases hg:Do st.h s with
    |none=>rw[hg]at hdone;exact hdone.elim
    |some s2=>
     rw[hg]at hdone;obtain⟨own',hh⟩:=Ov hst3 e2 hg;exact⟨_,u,own',hdone,rfl,hh,qH hst3.fr⟩
 cases e with
 |normal=>obtain⟨F1,own,st,h0,h1,h2⟩:=hq;exact key F1 own st h0 h1 h2
 |ret=>obtain⟨F1,own,st,h0,h1,h2⟩:=hq;exact key F1 own st h0 h1 h2
 |exit id=>obtain⟨F1,own,st,h0,h1,h2⟩:=hq;exact h2.elim
 |panic ch=>
  obtain⟨x,F1,own,st,h0,h1,h2,rfl⟩:=hq;exact j_ h1 (by simp) fun w2 hst2=>.inr ⟨x,h2,rfl,qH hst2.fr⟩
 |_=>exact hq.elim
theorem V6 {js:List Nat}{n0:Nat}{own:Own}{h h':List Ob}{s s':SV}{w:World}(hs:Sub js n0 ⟨[(0,s)],h⟩ ⟨[(0,s')],h'⟩)(hp:Hp F own w h)(hfr:Fr w0 own w)(hn:∀ id hd,w0.own id=some hd->id<n0)(hle:n0<=h'.length){u:Value}(hr:Rel F own w s u):
  Rel F (i9 js h' own) w s' u:=by
 obtain⟨_,_,_,q4⟩:=Fz hs hp hfr hn hle;obtain⟨_,⟨⟨k1,k2⟩,_⟩,_⟩:=hs;have e:s=ren (EW js) 5 s':=by simpa[lk]using k1
 grind
theorem FB (hm:P.follows .mixedOrders=true) (hts:ts.ok P) (hG:ConsOk P G) {f:FuncId} {fn:Func} {c:Code} (hf:P.funcs[f]? =some fn) (hb:fn.body=some c) (hname:(fn.name== "runtime.NumGoroutine")=false)
  (hc:cD fn.ntmps c=true) {C:List SV->List Ob->Option HCon}
  (h:∀ l o con,C l o=some con->con.pre->l.length<=fn.ntmps/\∃ L Qx,ap P none fn.ntmps L c/\(∀ e st,Qx e st->Ky o.length fn.results.toList ts con e st)/\exec ts G L c ⟨nN 0 l,o⟩ Qx):FnOkO P f C:=by
 refine⟨fun l o con _ args w=>?_,fun l o con hcon hpre F own w vs hp hvs=>?_⟩;simp_all [callFunc];obtain⟨hlen,L,Qx,hl,hQ,hx⟩:=h l o con hcon hpre;have hn0:∀ id hd,own id=some hd->id<o.length:=fun id hd e=>hp.dom id hd e;refine pW (n:=0) (callsIn_of_wp_marks hf hb trivial ?_);have hr:StRel F { w:=w,own:=own} fn.ntmps own ⟨nN 0 l,o⟩ { tmps:=vs++Array.replicate (fn.ntmps - vs.size) undef,defers:=[]} w:=
  ⟨by have:=hvs.1;simp;omega,Dfr.nil,hp,Fr.refl { w:=w,own:=own},fun t=>nR hvs _ t⟩
 refine wpIn_mono (oK hm hts hG c hc hl F _ _ hx own _ w hr) ?_;intro e a' w' hq
 replace hq:=wS hQ _ _ _ hq
 have key:∀ F1 own' st,(∀ b,F b->F1 b)->StRel F1 { w:=w,own:=own} fn.ntmps own' st a' w'->Bt o.length con (mz (k9 ts st fn.results.toList)) st.h->LeavesInM (rd none) 0 P fn a'.tmps (fun e w'=>∃ r own',con.post r/\Ji F w own o.length e own' w' (con.res r)) a'.defers .returning w':=by
  intro F1 own' st hF1 hst hdone;refine j_ hst (by simp) fun w2 hst2=>?_;have hst3:=hst2.less hF1 rfl;cases hs:mz (k9 ts st fn.results.toList)with
  |none=>rw[hs]at hdone;exact hdone.elim
  |some s=>
   rw[hs]at hdone;obtain⟨r,s',h',js,q1,q2,q3,q4⟩:=hdone;obtain⟨u,e1,e2⟩:=xK (P:=P) hts hst3 hs;obtain⟨k1,k2,_,_⟩:=Fz q4 hst3.hp hst3.fr hn0 q3;refine⟨u,e1,r,i9 js h' own',q1,?_⟩;rw[q2];exact⟨⟨u,rfl,V6 q4 hst3.hp hst3.fr hn0 q3 e2⟩,k1,k2,q3⟩
 cases e with
 |normal=>obtain⟨F1,own',st,h0,h1,h2⟩:=hq;exact key F1 own' st h0 h1 h2
 |ret=>obtain⟨F1,own',st,h0,h1,h2⟩:=hq;exact key F1 own' st h0 h1 h2
 |exit id=>obtain⟨F1,own',st,h0,h1,h2⟩:=hq;exact h2.elim
 |panic ch=>
  obtain⟨x,F1,own',st,h0,h1,⟨r,h',js,q1,q2,q3,q4⟩,rfl⟩:=hq;refine j_ h1 (by simp) fun w2 hst2=>?_;have hst3:=hst2.less h0 rfl;obtain⟨k1,k2,_,_⟩:=Fz q4 hst3.hp hst3.fr hn0 q3;refine⟨r,i9 js h' own',q1,?_⟩;rw[q2];exact⟨rfl,k1,k2,q3⟩
 |_=>exact hq.elim
theorem FC (hm:P.follows .mixedOrders=true) (hts:ts.ok P) (hG:ConsOk P G) {f:FuncId} {fn:Func} {c:Code} (hf:P.funcs[f]? =some fn) (hb:fn.body=some c) (hname:(fn.name== "runtime.NumGoroutine")=false)
  (hc:cD fn.ntmps c=true) {C:List SV->List Ob->Option HCon}
  (h:∀ l o con,C l o=some con->con.pre->l.length<=fn.ntmps/\∃ L,ap P none fn.ntmps L c/\exec ts G L c ⟨nN 0 l,o⟩ (Ky o.length fn.results.toList ts con)):FnOkO P f C:=
 FB hm hts hG hf hb hname hc fun l o con h1 h2=>by
  grind
theorem StRel.base_lt {own:Own}{st:St}{a:Act}{w:World}(h:StRel F w0 N own st a w):∀ id hd,w0.own id=some hd->id<st.h.length:=fun id hd e=>by
 obtain⟨hd',e',_⟩:=h.fr.ids id hd e;exact h.hp.dom id hd' e'
theorem BH {ts:Tis}{G:Cons}{ro:Option Nat}{N:Nat}(hm:P.follows .mixedOrders=true)(hts:ts.ok P)(hG:ConsOk P G){id:Nat}{c:Code}(hc:cD N c=true){C:St->Option LCon}
  (h:∀ st lc,C st=some lc->lc.pre->∃ (σ:Type) (D:σ->St) (I:σ->Prop) (m:σ->Nat) (x0:σ) (js:List Nat),I x0/\st.h.length<=(D x0).h.length/\Sub js st.h.length st (D x0)/\
   ∀ x,I x->∃ L Qx,ap P ro N L c/\(∀ e st',Qx e st'->xB D I m st.h.length x id (fun e st'=>∃ r js,lc.post r/\lc.ex r=e/\st.h.length<=(lc.out r).h.length/\Sub js st.h.length st' (lc.out r)) e st')/\exec ts G L c (D x) Qx):mP P ro N id (.loop c) C:=by
 intro nd F w0 st lc hC hpre own a w hr;obtain⟨σ,D,I,m,x0,js,h1,h2,h3,h4⟩:=h st lc hC hpre;refine wpIn_mono (HR hm hts hG hc D I m st.h.length hr.base_lt _ h4 x0 h1 _ a w (hr.sub h3 hr.base_lt h2)) ?_;intro e a' w' hq;have key:∀ ex F1 own' st',StRel F1 w0 N own' st' a' w'->(∃ r js,lc.post r/\lc.ex r=ex/\st.h.length<=(lc.out r).h.length/\Sub js st.h.length st' (lc.out r))->∃ own2 st2,StRel F1 w0 N own2 st2 a' w'/\∃ r,lc.post r/\ex=lc.ex r/\st2=lc.out r:=by
  rintro ex F1 own' st' hst ⟨r,js,q1,q2,q3,q4⟩;exact⟨_,_,hst.sub q4 hr.base_lt q3,r,q1,q2.symm,rfl⟩
 cases e with
 |normal=>obtain⟨F1,own',st',h0,k1,k2⟩:=hq;obtain⟨own2,st2,q1,q2⟩:=key _ F1 own' st' k1 k2;exact⟨F1,own2,st2,h0,q1,q2⟩
 |exit j=>obtain⟨F1,own',st',h0,k1,k2⟩:=hq;obtain⟨own2,st2,q1,q2⟩:=key _ F1 own' st' k1 k2;exact⟨F1,own2,st2,h0,q1,q2⟩
 |ret=>obtain⟨F1,own',st',h0,k1,k2⟩:=hq;obtain⟨own2,st2,q1,q2⟩:=key _ F1 own' st' k1 k2;exact⟨F1,own2,st2,h0,q1,q2⟩
 |panic ch=>
  obtain⟨x,F1,own',st',h0,k1,k2,k3⟩:=hq;obtain⟨own2,st2,q1,q2⟩:=key _ F1 own' st' k1 k2;exact⟨x,F1,own2,st2,h0,q1,q2,k3⟩
 |_=>exact hq.elim
end
end Go.Sx
end
section
namespace Go.Sx
def Nc (k:TI->OR):Option TI->OR
 |some i=>k i|none=>.bad
section
variable {ts:Tis}{G:Cons}{L:wF}{t:List (Nat×SV)}{h:List Ob}{Q:Ex->St->Prop}{K:St->Prop}{Z:Value->St->Prop}{ops rest:List Oper}{nx:Nat}
variable {st st':St}
@[congr] theorem Zj {c:Code}(e:st=st'):exec ts G L c st Q=exec ts G L c st' Q:=by rw[e]
@[congr] theorem Vk (e:st=st'):j7 ts G ops rest st K Z=j7 ts G ops rest st' K Z:=by rw[e]
@[congr] theorem X9 {i b:Nat}{fps fps':List Fp}(e0:fps=fps')(e:st=st'):kZ ts G ops K Z rest i b fps st=kZ ts G ops K Z rest i b fps' st':=by rw[e,e0]
@[congr] theorem X_ {d:Option Nat}{r r':OR}(e:r=r'):nL G d st K Z r=nL G d st K Z r':=by rw[e]
@[congr] theorem Ya {d:Option Nat}{g:Nat×Bool}{r r':OR}(e:r=r'):stepG G ops g d st K Z r=stepG G ops g d st K Z r':=by rw[e]
@[congr] theorem V7 {d:Option Nat}{next:List Nat->List Up->St->Prop}{p:Prop}{r r':Option Dr}(e:r=r'):AH d st next p r=AH d st next p r':=by rw[e]
@[congr] theorem V8 {d:Option Nat}{g:Nat×Bool}{next:List Nat->List Up->St->Prop}{p:Prop}{r r':Option Dr}(e:r=r'):yz ops g d st next p r=yz ops g d st next p r':=by rw[e]
@[congr] theorem Yb {x y:(Ex->St->Prop)->Prop}{Q:Ex->St->Prop}{s s':SV}{c c':Option LCon}(e:s=s')(e2:c=c'):ET x y Q s c=ET x y Q s' c':=by rw[e,e2]
@[congr] theorem Yc {x:(Ex->St->Prop)->Prop}{Q:Ex->St->Prop}{c c':Option LCon}(e:c=c'):EU x Q c=EU x Q c':=by rw[e]
@[congr] theorem Yd {c c':Option LCon}(e:c=c'):tI Q c=tI Q c':=by rw[e]
@[go_sem] theorem aa3:exec ts G L .skip ⟨t,h⟩ Q=Q .normal ⟨t,h⟩:=(rfl)
@[go_sem] theorem Ye {id:Nat}{a:Array Oper}{d:Bool}:exec ts G L (.region id a d) ⟨t,h⟩ Q=EU (Dn ts G a d ⟨t,h⟩) Q (L (id+2000000) ⟨t,h⟩):=(rfl)
@[go_sem] theorem Yf:Dn ts G ops.toArray false ⟨t,h⟩ Q=j7 ts G ops ops ⟨t,h⟩ (fun st'=>Q .normal (yA ops st')) (fun x st'=>Q (.pan x) st'):=(rfl)
@[go_sem] theorem Zk {x:(Ex->St->Prop)->Prop}:EU x Q none=x Q:=(rfl)
@[go_sem] theorem Zl {d:St}:inC d Q .normal ⟨t,h⟩=(h=d.h/\subJ t d.t):=(rfl)
@[go_sem] theorem afG {d st:St}{x:Value}:inC d Q (.pan x) st=Q (.pan x) st:=(rfl)
@[go_sem] theorem adl {a b:Code}:exec ts G L (.seq a b) ⟨t,h⟩ Q=exec ts G L a ⟨t,h⟩ (Ex.then (fun st'=>exec ts G L b st' Q) Q):=(rfl)
@[go_sem] theorem aa4 {c:Operand}{x y:Code}:exec ts G L (.cond c x y) ⟨t,h⟩ Q=ET (exec ts G L x ⟨t,h⟩) (exec ts G L y ⟨t,h⟩) Q (raw t c) (L (R6 c) ⟨t,h⟩):=(rfl)
@[go_sem] theorem Zm {x y:(Ex->St->Prop)->Prop}{s:SV}:ET x y Q s none=Ag (x Q) (y Q) s:=(rfl)
@[go_sem] theorem adm {x y:(Ex->St->Prop)->Prop}{s:SV}{d:St}:ET x y Q s (some (JC d))=(Ag (x (inJ d)) (y (inJ d)) s/\Q .normal d):=by
 have e:(fun e st=>∃ r,(JC d).post r/\inJ ((JC d).out r) e st)=inJ d:=by
  funext e st
  exact propext ⟨fun⟨_,_,h⟩ =>h,fun h=>⟨(),trivial,h⟩⟩
 show R7 x y Q s (JC d)=_;unfold R7;rw[e];exact propext ⟨fun h=>⟨h.1,h.2 () trivial⟩,fun h=>⟨h.1,fun _ _=>h.2⟩⟩
@[go_sem] theorem adn {n:Nat}:R6 (.tmp n)=n+1000000:=(rfl)
@[go_sem] theorem Zn {d:St}:inJ d .normal ⟨t,h⟩=(h=d.h/\subJ t d.t):=(rfl)
@[go_sem] theorem ado:subJ t []=True:=(rfl)
@[go_sem] theorem aa5 {n:Nat}{s:SV}{r:List (Nat×SV)}:subJ t ((n,s)::r)=(lk n t=s/\subJ t r):=(rfl)
@[go_sem] theorem SF {id:Nat}{c:Code}:exec ts G L (.block id (.loop c)) ⟨t,h⟩ Q=tI Q (L id ⟨t,h⟩):=(rfl)
@[go_sem] theorem Ry {id:Nat}{f:Operand}{ps:Array Tmp}{a b:Code}:exec ts G L (.block id (.rangeFunc f ps a b)) ⟨t,h⟩ Q=tI Q (L id ⟨t,h⟩):=(rfl)
@[go_sem] theorem SG {id:Nat}{a b:Code}:exec ts G L (.block id (.seq a b)) ⟨t,h⟩ Q=exec ts G L (.seq a b) ⟨t,h⟩ (Ex.block id Q):=(rfl)
@[go_sem] theorem Rz {id:Nat}{c:Operand}{a b:Code}:exec ts G L (.block id (.cond c a b)) ⟨t,h⟩ Q=exec ts G L (.cond c a b) ⟨t,h⟩ (Ex.block id Q):=(rfl)
@[go_sem] theorem Ow {id j:Nat}{a:Array Oper}{d:Bool}:exec ts G L (.block id (.region j a d)) ⟨t,h⟩ Q=exec ts G L (.region j a d) ⟨t,h⟩ (Ex.block id Q):=(rfl)
@[go_sem] theorem RA {id:Nat}:exec ts G L (.block id .skip) ⟨t,h⟩ Q=exec ts G L .skip ⟨t,h⟩ (Ex.block id Q):=(rfl)
@[go_sem] theorem aa6 {id:Nat}:exec ts G L (.exit id) ⟨t,h⟩ Q=Q (.exit id) ⟨t,h⟩:=(rfl)
@[go_sem] theorem adp:exec ts G L .ret ⟨t,h⟩ Q=Q .ret ⟨t,h⟩:=(rfl)
@[go_sem] theorem QL {id:Nat}{c:Code}:exec ts G L (.block id (.scope c)) ⟨t,h⟩ Q=exec ts G L (.scope c) ⟨t,h⟩ (Ex.block id Q):=(rfl)
@[go_sem] theorem QM {id l:Nat}:exec ts G L (.block id (.label l)) ⟨t,h⟩ Q=exec ts G L (.label l) ⟨t,h⟩ (Ex.block id Q):=(rfl)
@[go_sem] theorem Zo {c:Code}:exec ts G L (.scope c) ⟨t,h⟩ Q=exec ts G L c ⟨t,h⟩ Q:=(rfl)
@[go_sem] theorem Zp {l:Nat}:exec ts G L (.label l) ⟨t,h⟩ Q=Q .normal ⟨t,h⟩:=(rfl)
@[go_sem] theorem Yg {st:St}:Ex.then K Q .normal st=K st:=(rfl)
@[go_sem] theorem adq {st:St}:Ex.then K Q .ret st=Q .ret st:=(rfl)
@[go_sem] theorem aa7 {st:St}{j:Nat}:Ex.then K Q (.exit j) st=Q (.exit j) st:=(rfl)
@[go_sem] theorem V9 {st:St}{id:Nat}:Ex.block id Q .normal st=Q .normal st:=(rfl)
@[go_sem] theorem aa8 {st:St}{id:Nat}:Ex.block id Q .ret st=Q .ret st:=(rfl)
@[go_sem] theorem adr {st:St}{v:Value}:Ex.then K Q (.pan v) st=Q (.pan v) st:=(rfl)
@[go_sem] theorem aa9 {st:St}{id:Nat}{v:Value}:Ex.block id Q (.pan v) st=Q (.pan v) st:=(rfl)
@[go_sem] theorem Zq {st:St}{id j:Nat}:Ex.block id Q (.exit j) st=bif Nat.beq j id then Q .normal st else Q (.exit j) st:=(rfl)
@[go_sem] theorem afH {x y:Prop}{b:Bool}:Ag x y (.v (.bool b))=((b=true->x)/\(b=false->y)):=(rfl)
@[go_sem] theorem Zr {α:Type}{pre:Prop}{post:α->Prop}{ex:α->Ex}{out:α->St}:tI Q (some ⟨α,pre,post,ex,out⟩)=(pre/\∀ r,post r->Q (ex r) (out r)):=(rfl)
@[go_sem] theorem Zs:Dn ts G ops.toArray true ⟨t,h⟩ Q=kZ ts G ops (fun st'=>Q .normal (yA ops st')) (fun x st'=>Q (.pan x) st') ops 0 0 [] ⟨t,h⟩:=(rfl)
@[go_sem] theorem Yh:j7 ts G ops [] ⟨t,h⟩ K Z=K ⟨t,h⟩:=(rfl)
@[go_sem] theorem V_ {d:Option Nat}{op:Op}{ty:TypeId}{pos:String}{af:Array Edge}:j7 ts G ops (⟨d,op,ty,pos,af,none⟩::rest) ⟨t,h⟩ K Z=nL G d ⟨t,h⟩ (fun st'=>j7 ts G ops rest st' K Z) Z (opS ⟨ts,ops,none,⟨t,h⟩,h.length⟩ op):=(rfl)
@[go_sem] theorem Zt {i b:Nat}{fps:List Fp}{d:Option Nat}{op:Op}{ty:TypeId}{pos:String}{af:Array Edge}:kZ ts G ops K Z (⟨d,op,ty,pos,af,none⟩::rest) i b fps ⟨t,h⟩=AH d ⟨t,h⟩ (fun all ups st'=>kZ ts G ops K Z rest (i+1) b (fps++[fpU op (fpO ⟨ts,ops,none,⟨t,h⟩,h.length⟩ op) all ups]) st') (uq ops b fps/\ER ops i=true/\nL G d ⟨t,h⟩ (fun st'=>kZ ts G ops K Z rest (i+1) (i+1) [] st') Z (opS ⟨ts,ops,none,⟨t,h⟩,h.length⟩ op)) (kR G h h.length (opS ⟨ts,ops,none,⟨t,h⟩,h.length⟩ op)):=(rfl)
@[go_sem] theorem Wa {d:Option Nat}{op:Op}{ty:TypeId}{pos:String}{af:Array Edge}{g:Nat×Bool}:j7 ts G ops (⟨d,op,ty,pos,af,some g⟩::rest) ⟨t,h⟩ K Z=stepG G ops g d ⟨t,h⟩ (fun st'=>j7 ts G ops rest st' K Z) Z (opS ⟨ts,ops,some g,⟨t,h⟩,h.length⟩ op):=(rfl)
@[go_sem] theorem Zu {i b:Nat}{fps:List Fp}{d:Option Nat}{op:Op}{ty:TypeId}{pos:String}{af:Array Edge}{g:Nat×Bool}:kZ ts G ops K Z (⟨d,op,ty,pos,af,some g⟩::rest) i b fps ⟨t,h⟩=yz ops g d ⟨t,h⟩ (fun all ups st'=>kZ ts G ops K Z rest (i+1) b (fps++[fpU op (fpO ⟨ts,ops,some g,⟨t,h⟩,h.length⟩ op) all ups]) st') (uq ops b fps/\ER ops i=true/\stepG G ops g d ⟨t,h⟩ (fun st'=>kZ ts G ops K Z rest (i+1) (i+1) [] st') Z (opS ⟨ts,ops,some g,⟨t,h⟩,h.length⟩ op)) (kR G h h.length (opS ⟨ts,ops,some g,⟨t,h⟩,h.length⟩ op)):=(rfl)
@[go_sem] theorem aa_ {i b:Nat}{fps:List Fp}:kZ ts G ops K Z [] i b fps ⟨t,h⟩=(uq ops b fps/\K ⟨t,h⟩):=(rfl)
@[go_sem] theorem aba {d:Nat}{s:SV}:nL G (some d) ⟨t,h⟩ K Z (.val s)=K ⟨(d,s)::t,h⟩:=(rfl)
@[go_sem] theorem abb {d:Nat}{s:SV}{c:Prop}:nL G (some d) ⟨t,h⟩ K Z (.chk c s)=(c/\K ⟨(d,s)::t,h⟩):=(rfl)
@[go_sem] theorem abc {d:Nat}{s:SV}{c:Prop}:nL G (some d) ⟨t,h⟩ K Z (.asm c s)=(c->K ⟨(d,s)::t,h⟩):=(rfl)
@[go_sem] theorem Zv {d:Nat}{s:SV}:nL G (some d) ⟨t,h⟩ K Z (.newr s)=K ⟨(d,s)::t,h⟩:=(rfl)
@[go_sem] theorem abd {d:Nat}{s:SV}{c a:Prop}{ups:List Up}:nL G (some d) ⟨t,h⟩ K Z (.eff c a ups s)=(c/\(a->K ⟨(d,s)::t,ba h ups⟩)):=(rfl)
@[go_sem] theorem abe {d:Nat}{g:Nat×Bool}:stepG G ops g (some d) ⟨t,h⟩ K Z .bad=(xy ops t ops.length g/\K ⟨(d,.gd g.1 g.2 .any)::t,h⟩):=(rfl)
@[go_sem] theorem Zw {g:Nat×Bool}:stepG G ops g none ⟨t,h⟩ K Z .bad=(xy ops t ops.length g/\K ⟨t,h⟩):=(rfl)
@[go_sem] theorem abf {d:Nat}{s:SV}{g:Nat×Bool}:stepG G ops g (some d) ⟨t,h⟩ K Z (.val s)=K ⟨(d,.gd g.1 g.2 s)::t,h⟩:=(rfl)
@[go_sem] theorem abg {d:Nat}{s:SV}{g:Nat×Bool}{c:Prop}:stepG G ops g (some d) ⟨t,h⟩ K Z (.chk c s)=((dV ops t ops.length g->c)/\K ⟨(d,.gd g.1 g.2 s)::t,h⟩):=(rfl)
@[go_sem] theorem abh {d:Nat}{s:SV}{g:Nat×Bool}{c:Prop}:stepG G ops g (some d) ⟨t,h⟩ K Z (.asm c s)=K ⟨(d,.gd g.1 g.2 s)::t,h⟩:=(rfl)
@[go_sem] theorem Zx {d:Nat}{s:SV}{g:Nat×Bool}:stepG G ops g (some d) ⟨t,h⟩ K Z (.newr s)=K ⟨(d,.gd g.1 g.2 s)::t,h⟩:=(rfl)
@[go_sem] theorem abi {d:Nat}{s:SV}{g:Nat×Bool}{c a:Prop}{ups:List Up}:stepG G ops g (some d) ⟨t,h⟩ K Z (.eff c a ups s)=((dV ops t ops.length g->c/\(a->K ⟨(d,.gd g.1 g.2 s)::t,ba h ups⟩))/\(io ops t ops.length g->K ⟨(d,.gd g.1 g.2 .any)::t,h⟩)):=(rfl)
@[go_sem] theorem abj {c:Option HCon}{np:Bool}{ids:List Nat}{d:Nat}{s:SV}{p:Prop}:yy np ids (some d) ⟨t,h⟩ K Z c (some (.det p s))=bif np||jX 3 s then(p/\K ⟨(d,ji 3 h.length s)::t,h++aS 3 s⟩)else Br ids (some d) ⟨t,h⟩ K Z c:=(rfl)
@[go_sem] theorem abk {c:Option HCon}{np:Bool}{ids:List Nat}{d:Nat}{α:Type}{pre:Prop}{post:α->Prop}{out:α->SV}:yy np ids (some d) ⟨t,h⟩ K Z c (some (.rel α pre post out))=(pre/\(bif np then ∀ r,post r->K ⟨(d,ji 3 h.length (out r))::t,h++aS 3 (out r)⟩else False)):=(rfl)
@[go_sem] theorem abl {c:Option HCon}{np:Bool}{ids:List Nat}{d:Nat}{s:SV}{ok:Bool}{x:Value}:yy np ids (some d) ⟨t,h⟩ K Z c (some (.may ok s x))=(bif np||jX 3 s then(ok=true->K ⟨(d,ji 3 h.length s)::t,h++aS 3 s⟩)/\(ok=false->Z x ⟨ungd t,h⟩)else False):=(rfl)
@[go_sem] theorem ads {ids:List Nat}{d:Nat}{s:SV}{h':List Ob}:Mu ids (some d) ⟨t,h⟩ K Z (.ret s h')=K ⟨(d,ren (tH ids h.length) 3 s)::t,oU ids h.length h 0 h'⟩:=(rfl)
@[go_sem] theorem adt {ids:List Nat}{d:Nat}{s:SV}{h':List Ob}{g:Nat×Bool}:Qb ids g (some d) ⟨t,h⟩ K Z (.ret s h')=K ⟨(d,.gd g.1 g.2 (ren (tH ids h.length) 3 s))::t,oU ids h.length h 0 h'⟩:=(rfl)
@[go_sem] theorem Yi {ids:List Nat}{d:Option Nat}{g:Nat×Bool}:AG ids ops g d st K Z none=(xy ops st.t ops.length g/\K (st.put d (.gd g.1 g.2 .any))):=(rfl)
@[go_sem] theorem Yj {ids:List Nat}{d:Nat}{o:HCon}{g:Nat×Bool}:AG ids ops g (some d) ⟨t,h⟩ K Z (some o)=((dV ops t ops.length g->o.pre/\∀ r,o.post r->Qb ids g (some d) ⟨t,h⟩ K Z (o.res r))/\(io ops t ops.length g->K ⟨(d,.gd g.1 g.2 .any)::t,h⟩)):=(rfl)
@[go_sem] theorem abm {c:Option HCon}{np:Bool}{ids:List Nat}{d:Nat}{s:SV}{g:Nat×Bool}{p:Prop}:ES np ids ops g (some d) ⟨t,h⟩ K Z c (some (.det p s))=((dV ops t ops.length g->p)/\(bif(np||jX 3 s)&&(aS 3 s).isEmpty then K ⟨(d,.gd g.1 g.2 s)::t,h⟩else False)):=(rfl)
@[go_sem] theorem abn {id:Nat}{d:Nat}{α:Type}{pre:Prop}{post:α->Prop}{res:α->Bool×Res}:Mv id (some d) ⟨t,h⟩ K (some ⟨α,pre,post,res⟩)=(pre/\∀ r,post r->K ⟨(d,.b (res r).1)::t,bM h id (.ab (res r).2)⟩):=(rfl)
@[go_sem] theorem abo {id:Nat}{d:Nat}{α:Type}{pre:Prop}{post:α->Prop}{res:α->Bool×Res}{g:Nat×Bool}:Kv id ops g (some d) ⟨t,h⟩ K (some ⟨α,pre,post,res⟩)=((dV ops t ops.length g->pre/\∀ r,post r->K ⟨(d,.gd g.1 g.2 (.b (res r).1))::t,bM h id (.ab (res r).2)⟩)/\(io ops t ops.length g->K ⟨(d,.gd g.1 g.2 .any)::t,h⟩)):=(rfl)
@[go_sem] theorem ahh {K0:Prop}{d:Nat}{next:List Nat->List Up->St->Prop}{c a:Prop}{s:SV}{ups:List Up}{all:List Nat}:AH (some d) ⟨t,h⟩ next K0 (some ⟨c,a,s,ups,all⟩)=(c/\(a->next all ups ⟨(d,s)::t,ba h ups⟩)):=(rfl)
@[go_sem] theorem ahi {K0:Prop}{d:Nat}{next:List Nat->List Up->St->Prop}{c a:Prop}{s:SV}{ups:List Up}{all:List Nat}{g:Nat×Bool}:yz ops g (some d) ⟨t,h⟩ next K0 (some ⟨c,a,s,ups,all⟩)=bif ups.isEmpty then(dV ops t ops.length g->c)/\next all [] ⟨(d,.gd g.1 g.2 s)::t,h⟩else ¬ (dV ops t ops.length g/\io ops t ops.length g)/\(dV ops t ops.length g->c/\(a->next all ups ⟨(d,.gd g.1 g.2 s)::t,ba h ups⟩))/\(io ops t ops.length g->next all [] ⟨(d,.gd g.1 g.2 s)::t,h⟩):=(rfl)
@[go_sem] theorem Zy {s:SV}:nL G none ⟨t,h⟩ K Z (.val s)=K ⟨t,h⟩:=(rfl)
@[go_sem] theorem Zz {s:SV}{c:Prop}:nL G none ⟨t,h⟩ K Z (.chk c s)=(c/\K ⟨t,h⟩):=(rfl)
@[go_sem] theorem ZA {s:SV}{c:Prop}:nL G none ⟨t,h⟩ K Z (.asm c s)=(c->K ⟨t,h⟩):=(rfl)
@[go_sem] theorem Yk {s:SV}:nL G none ⟨t,h⟩ K Z (.newr s)=K ⟨t,h⟩:=(rfl)
@[go_sem] theorem ZB {s:SV}{c a:Prop}{ups:List Up}:nL G none ⟨t,h⟩ K Z (.eff c a ups s)=(c/\(a->K ⟨t,ba h ups⟩)):=(rfl)
@[go_sem] theorem ZC {s:SV}{g:Nat×Bool}:stepG G ops g none ⟨t,h⟩ K Z (.val s)=K ⟨t,h⟩:=(rfl)
@[go_sem] theorem ZD {s:SV}{g:Nat×Bool}{c:Prop}:stepG G ops g none ⟨t,h⟩ K Z (.chk c s)=((dV ops t ops.length g->c)/\K ⟨t,h⟩):=(rfl)
@[go_sem] theorem ZE {s:SV}{g:Nat×Bool}{c:Prop}:stepG G ops g none ⟨t,h⟩ K Z (.asm c s)=K ⟨t,h⟩:=(rfl)
@[go_sem] theorem Yl {s:SV}{g:Nat×Bool}:stepG G ops g none ⟨t,h⟩ K Z (.newr s)=K ⟨t,h⟩:=(rfl)
@[go_sem] theorem ZF {s:SV}{g:Nat×Bool}{c a:Prop}{ups:List Up}:stepG G ops g none ⟨t,h⟩ K Z (.eff c a ups s)=((dV ops t ops.length g->c/\(a->K ⟨t,ba h ups⟩))/\(io ops t ops.length g->K ⟨t,h⟩)):=(rfl)
@[go_sem] theorem ZG {c:Option HCon}{np:Bool}{ids:List Nat}{s:SV}{p:Prop}:yy np ids none ⟨t,h⟩ K Z c (some (.det p s))=bif np||jX 3 s then(p/\K ⟨t,h++aS 3 s⟩)else Br ids none ⟨t,h⟩ K Z c:=(rfl)
@[go_sem] theorem ZH {c:Option HCon}{np:Bool}{ids:List Nat}{α:Type}{pre:Prop}{post:α->Prop}{out:α->SV}:yy np ids none ⟨t,h⟩ K Z c (some (.rel α pre post out))=(pre/\(bif np then ∀ r,post r->K ⟨t,h++aS 3 (out r)⟩else False)):=(rfl)
@[go_sem] theorem ZI {c:Option HCon}{np:Bool}{ids:List Nat}{s:SV}{ok:Bool}{x:Value}:yy np ids none ⟨t,h⟩ K Z c (some (.may ok s x))=(bif np||jX 3 s then(ok=true->K ⟨t,h++aS 3 s⟩)/\(ok=false->Z x ⟨ungd t,h⟩)else False):=(rfl)
@[go_sem] theorem abp {ids:List Nat}{s:SV}{h':List Ob}:Mu ids none ⟨t,h⟩ K Z (.ret s h')=K ⟨t,oU ids h.length h 0 h'⟩:=(rfl)
@[go_sem] theorem abq {ids:List Nat}{s:SV}{h':List Ob}{g:Nat×Bool}:Qb ids g none ⟨t,h⟩ K Z (.ret s h')=K ⟨t,oU ids h.length h 0 h'⟩:=(rfl)
@[go_sem] theorem Wb {ids:List Nat}{o:HCon}{g:Nat×Bool}:AG ids ops g none ⟨t,h⟩ K Z (some o)=((dV ops t ops.length g->o.pre/\∀ r,o.post r->Qb ids g none ⟨t,h⟩ K Z (o.res r))/\(io ops t ops.length g->K ⟨t,h⟩)):=(rfl)
@[go_sem] theorem ZJ {c:Option HCon}{np:Bool}{ids:List Nat}{s:SV}{g:Nat×Bool}{p:Prop}:ES np ids ops g none ⟨t,h⟩ K Z c (some (.det p s))=((dV ops t ops.length g->p)/\(bif(np||jX 3 s)&&(aS 3 s).isEmpty then K ⟨t,h⟩else False)):=(rfl)
@[go_sem] theorem ZK {id:Nat}{α:Type}{pre:Prop}{post:α->Prop}{res:α->Bool×Res}:Mv id none ⟨t,h⟩ K (some ⟨α,pre,post,res⟩)=(pre/\∀ r,post r->K ⟨t,bM h id (.ab (res r).2)⟩):=(rfl)
@[go_sem] theorem ZL {id:Nat}{α:Type}{pre:Prop}{post:α->Prop}{res:α->Bool×Res}{g:Nat×Bool}:Kv id ops g none ⟨t,h⟩ K (some ⟨α,pre,post,res⟩)=((dV ops t ops.length g->pre/\∀ r,post r->K ⟨t,bM h id (.ab (res r).2)⟩)/\(io ops t ops.length g->K ⟨t,h⟩)):=(rfl)
@[go_sem] theorem afI {K0:Prop}{next:List Nat->List Up->St->Prop}{c a:Prop}{s:SV}{ups:List Up}{all:List Nat}:AH none ⟨t,h⟩ next K0 (some ⟨c,a,s,ups,all⟩)=(c/\(a->next all ups ⟨t,ba h ups⟩)):=(rfl)
@[go_sem] theorem afJ {K0:Prop}{next:List Nat->List Up->St->Prop}{c a:Prop}{s:SV}{ups:List Up}{all:List Nat}{g:Nat×Bool}:yz ops g none ⟨t,h⟩ next K0 (some ⟨c,a,s,ups,all⟩)=bif ups.isEmpty then(dV ops t ops.length g->c)/\next all [] ⟨t,h⟩else ¬ (dV ops t ops.length g/\io ops t ops.length g)/\(dV ops t ops.length g->c/\(a->next all ups ⟨t,ba h ups⟩))/\(io ops t ops.length g->next all [] ⟨t,h⟩):=(rfl)
@[go_sem] theorem Ym {d:Option Nat}{next:List Nat->List Up->St->Prop}{p:Prop}:AH d st next p none=p:=(rfl)
@[go_sem] theorem Yn {d:Option Nat}{next:List Nat->List Up->St->Prop}{p:Prop}{g:Nat×Bool}:yz ops g d st next p none=p:=(rfl)
@[go_sem] theorem ZM {d:Option Nat}{f:FuncId}{args:List SV}:nL G d ⟨t,h⟩ K Z (.call f args)=yy (args.all (da 3)) (reach h 64 (args.flatMap (gf 3)) []) d ⟨t,h⟩ K Z (G.o f (args.map (ren (inN (reach h 64 (args.flatMap (gf 3)) [])) 6)) (tU h (reach h 64 (args.flatMap (gf 3)) []))) (G.p f (args.map (fP h 6))):=(rfl)
@[go_sem] theorem ZN {d:Option Nat}{f:FuncId}{args:List SV}{g:Nat×Bool}:stepG G ops g d ⟨t,h⟩ K Z (.call f args)=ES (args.all (da 3)) (reach h 64 (args.flatMap (gf 3)) []) ops g d ⟨t,h⟩ K Z (G.o f (args.map (ren (inN (reach h 64 (args.flatMap (gf 3)) [])) 6)) (tU h (reach h 64 (args.flatMap (gf 3)) []))) (G.p f (args.map (fP h 6))):=(rfl)
@[go_sem] theorem abr {d:Option Nat}{id:Nat}{args:List SV}:nL G d ⟨t,h⟩ K Z (.yld id args)=bif args.all (da 3)then Mv id d ⟨t,h⟩ K (I2 G args (ar h id))else False:=(rfl)
@[go_sem] theorem abt {d:Option Nat}{id:Nat}{args:List SV}{g:Nat×Bool}:stepG G ops g d ⟨t,h⟩ K Z (.yld id args)=bif args.all (da 3)then Kv id ops g d ⟨t,h⟩ K (I2 G args (ar h id))else False:=(rfl)
@[go_sem] theorem afK {args:List SV}{r:Res}:I2 G args (.ab r)=G.y args r:=(rfl)
@[go_sem] theorem abu {d:Option Nat}{id:Nat}:nL G d ⟨t,h⟩ K Z (.nxt id)=VL id d ⟨t,h⟩ K (ar h id):=(rfl)
@[go_sem] theorem afL {d:Option Nat}{id mid n:Nat}{left:List Nat}{cur:Option Nat}:VL id d ⟨t,h⟩ K (.mi (some mid) n left cur)=R4 id mid n left d ⟨t,h⟩ K (ar h mid):=(rfl)
@[go_sem] theorem afM {d id mid n it:Nat}{left:List Nat}{kk vk:Tag}{l:List (kk.T×vk.T)}:R4 id mid n left (some d) ⟨t,h⟩ K (.mp kk vk l (some (it,none)))=((it=id/\n=l.length)/\(left=[]->K ⟨(d,.tup [.v (.bool false)])::t,h⟩)/\∀ j,j∈left->K ⟨(d,.tup [.v (.bool true),svT kk (l.getD j (gz kk,gz vk)).1,svT vk (l.getD j (gz kk,gz vk)).2])::t,bM h id (.mi (some mid) n (left.erase j) (some j))⟩):=(rfl)
@[go_sem] theorem adu {id:Nat}:kR G h nx (.nxt id)=none:=(rfl)
@[go_sem] theorem adv {p:Bool->Prop}:kR G h nx (.amb p)=none:=(rfl)
@[go_sem] theorem abv {d:Nat}{p:Bool->Prop}:nL G (some d) ⟨t,h⟩ K Z (.amb p)= ∀ b,p b->K ⟨(d,.v (.bool b))::t,h⟩:=(rfl)
@[go_sem] theorem abw {d:Option Nat}{x:Value}:nL G d ⟨t,h⟩ K Z (.pan x)=Z x ⟨ungd t,h⟩:=(rfl)
@[go_sem] theorem abx {c:Option HCon}{np:Bool}{ids:List Nat}{d:Option Nat}:yy np ids d ⟨t,h⟩ K Z c none=Br ids d ⟨t,h⟩ K Z c:=(rfl)
@[go_sem] theorem ZO {ids:List Nat}{d:Option Nat}{o:HCon}:Br ids d ⟨t,h⟩ K Z (some o)=(o.pre/\∀ r,o.post r->Mu ids d ⟨t,h⟩ K Z (o.res r)):=(rfl)
@[go_sem] theorem adw {ids:List Nat}{d:Option Nat}{x:Value}{h':List Ob}:Mu ids d ⟨t,h⟩ K Z (.pan x h')=Z x ⟨ungd t,oU ids h.length h 0 h'⟩:=(rfl)
@[go_sem] theorem adx {ids:List Nat}{d:Option Nat}{x:Value}{h':List Ob}{g:Nat×Bool}:Qb ids g d ⟨t,h⟩ K Z (.pan x h')=Z x ⟨ungd t,oU ids h.length h 0 h'⟩:=(rfl)
@[go_sem] theorem aby {c:Option HCon}{np:Bool}{ids:List Nat}{d:Option Nat}{g:Nat×Bool}:ES np ids ops g d ⟨t,h⟩ K Z c none=AG ids ops g d ⟨t,h⟩ K Z c:=(rfl)
@[go_sem] theorem ady:kR G h nx .bad=some ⟨False,True,.any,[],[]⟩:=(rfl)
@[go_sem] theorem adz {s:SV}:kR G h nx (.val s)=some ⟨True,True,s,[],[]⟩:=(rfl)
@[go_sem] theorem adA {s:SV}{c:Prop}:kR G h nx (.chk c s)=some ⟨c,True,s,[],[]⟩:=(rfl)
@[go_sem] theorem adB {s:SV}{c:Prop}:kR G h nx (.asm c s)=some ⟨True,c,s,[],[]⟩:=(rfl)
@[go_sem] theorem abz {s:SV}:kR G h nx (.newr s)=some ⟨True,True,s,[],[]⟩:=(rfl)
@[go_sem] theorem adC {s:SV}{c a:Prop}{ups:List Up}:kR G h nx (.eff c a ups s)=some ⟨c,a,s,ups,[]⟩:=(rfl)
@[go_sem] theorem abA {f:FuncId}{args:List SV}:kR G h nx (.call f args)=drC (args.all (da 3)) (args.flatMap (kY h 6)) nx (G.p f (args.map (fP h 6))):=(rfl)
@[go_sem] theorem adD {id:Nat}{args:List SV}:kR G h nx (.yld id args)=none:=(rfl)
@[go_sem] theorem adE {x:Value}:kR G h nx (.pan x)=none:=(rfl)
@[go_sem] theorem afN {np:Bool}{rd:List Nat}{s:SV}{p:Prop}:drC np rd nx (some (.det p s))=drR np rd nx p s (aS 3 s):=(rfl)
@[go_sem] theorem afO {np:Bool}{rd:List Nat}{s:SV}{p:Prop}:drR np rd nx p s []=bif np||jX 3 s then some ⟨p,True,s,[],rd⟩else none:=(rfl)
@[go_sem] theorem afP {np:Bool}{rd:List Nat}{s:SV}{p:Prop}{ob:Ob}:drR np rd nx p s [ob]=bif np||jX 3 s then some ⟨p,True,ji 3 nx s,[(nx,ob)],rd⟩else none:=(rfl)
@[go_sem] theorem afQ {np:Bool}{rd:List Nat}{s:SV}{p:Prop}{o1 o2:Ob}{l:List Ob}:drR np rd nx p s (o1::o2::l)=none:=(rfl)
@[go_sem] theorem afR {np:Bool}{rd:List Nat}{α:Type}{pre:Prop}{post:α->Prop}{out:α->SV}:drC np rd nx (some (.rel α pre post out))=none:=(rfl)
@[go_sem] theorem afS {np:Bool}{rd:List Nat}{s:SV}{ok:Bool}{x:Value}:drC np rd nx (some (.may ok s x))=none:=(rfl)
@[go_sem] theorem adF {np:Bool}{rd:List Nat}:drC np rd nx none=none:=(rfl)
@[go_sem] theorem abB {b:Nat}{fps:List Fp}:uq ops b fps=bif EQ fps then True else X1 ops b fps=true:=(rfl)
variable {g:Option (Nat×Bool)}
@[go_sem] theorem ahj {x:Operand}:val ⟨ts,ops,g,⟨t,h⟩,nx⟩ x=bu ops g (raw t x):=(rfl)
variable {cx:Cx}{x y a b:Operand}{ty n f:Nat}
@[go_sem] theorem adG:opS cx (.move x)=.val (val cx x):=(rfl)
@[go_sem] theorem ZP:opS cx (.assign x)=.val (val cx x):=(rfl)
@[go_sem] theorem adH {c:Operand}:opS ⟨ts,ops,g,⟨t,h⟩,nx⟩ (.pick c a b)=EG a b (bu ops g (raw t c)) (mw ops g c true (raw t a)) (mw ops g c false (raw t b)):=(rfl)
@[go_sem] theorem abC:opS ⟨ts,ops,g,⟨t,h⟩,nx⟩ (.alloc ty)=aG ts ty fun ti=>IV nx (some ti.zero):=(rfl)
@[go_sem] theorem afT:opS ⟨ts,ops,g,⟨t,h⟩,nx⟩ (.box ty x)=IV nx (rB (bu ops g (raw t x))):=(rfl)
@[go_sem] theorem abD {parts:List (Nat×Operand)}:opS ⟨ts,ops,g,⟨t,h⟩,nx⟩ (.build ty parts.toArray)=aG ts ty fun ti=>bif ti.isArr then aG ts ti.elem fun te=>Mr (nK (fun i=>some (i*te.size,te.size)) ti.zero (jw ⟨ts,ops,g,⟨t,h⟩,nx⟩ parts))else bif ti.agg then Mr (nK (fun i=>(nth ti.fields i).map fun f=>(f.1,f.2.1)) ti.zero (jw ⟨ts,ops,g,⟨t,h⟩,nx⟩ parts))else .bad:=(rfl)
@[go_sem] theorem SH {parts:List (Nat×Operand)}:opS ⟨ts,ops,g,⟨t,h⟩,nx⟩ (.buildSlice ty n parts.toArray)=aG ts ty fun ti=>aG ts ti.elem fun te=>GQ (IW ty ops g) nx te (bsS ti te n (jw ⟨ts,ops,g,⟨t,h⟩,nx⟩ parts)):=(rfl)
@[go_sem] theorem adI:opS ⟨ts,ops,g,⟨t,h⟩,nx⟩ (.load ty a)=aG ts ty fun ti=>sJ ti h (bu ops g (raw t a)):=(rfl)
@[go_sem] theorem abE:opS ⟨ts,ops,g,⟨t,h⟩,nx⟩ (.store ty a x)=aG ts ty fun ti=>tg ti.size nx h (bu ops g (raw t a)) (bu ops g (raw t x)):=(rfl)
@[go_sem] theorem Wc:opS ⟨ts,ops,g,⟨t,h⟩,nx⟩ (.nilCheck x)=RG (bu ops g (raw t x)):=(rfl)
@[go_sem] theorem abF {op:BinOp}:opS ⟨ts,ops,g,⟨t,h⟩,nx⟩ (.binOp op ty x y n)=IR ts op ty (bu ops g (raw t x)) (bu ops g (raw t y)):=(rfl)
@[go_sem] theorem adJ {op:UnOp}:opS ⟨ts,ops,g,⟨t,h⟩,nx⟩ (.unOp op ty x)=unS op (bu ops g (raw t x)):=(rfl)
@[go_sem] theorem Yo:opS ⟨ts,ops,g,⟨t,h⟩,nx⟩ (.convert n ty x)=aG ts n fun _=>aG ts ty fun ti=>Kn ti.int (bu ops g (raw t x)):=(rfl)
@[go_sem] theorem Wd {fn:Fn}{first caps:List Operand}:opS cx (.makeFunc fn first.toArray caps.toArray)=Kq fn (df cx first) (df cx caps):=(rfl)
def Yp (k:SV):Option (Nat×Nat×Bool)->OR
 |some (o,n,_) =>bif Nat.ble 1 n then Bn o k else .bad|none=>.bad
@[go_sem] theorem ZQ {k:SV}{o n:Nat}{q:Bool}:Yp k (some (o,n,q))=bif Nat.ble 1 n then Bn o k else .bad:=(rfl)
@[go_sem] theorem Vl:opS ⟨ts,ops,g,⟨t,h⟩,nx⟩ (.fieldAddr ty x f)=aG ts ty fun ti=>Yp (bu ops g (raw t x)) (nth ti.fields f):=(rfl)
@[go_sem] theorem abG:opS ⟨ts,ops,g,⟨t,h⟩,nx⟩ (.field ty x f)=aG ts ty fun ti=>un (nth ti.fields f) (Bk (bu ops g (raw t x))):=(rfl)
@[go_sem] theorem Vm:opS ⟨ts,ops,g,⟨t,h⟩,nx⟩ (.indexAddr ty x y)=aG ts ty fun ti=>aG ts ti.elem fun te=>i7 ti te.size h (bu ops g (raw t x)) (bu ops g (raw t y)):=(rfl)
@[go_sem] theorem abH:opS ⟨ts,ops,g,⟨t,h⟩,nx⟩ (.panic x)=RO (bu ops g (raw t x)):=(rfl)
@[go_sem] theorem Ox:opS ⟨ts,ops,g,⟨t,h⟩,nx⟩ (.makeInterface ty x)=aG ts ty fun ti=>bif ti.iface then .bad else EK ty (bu ops g (raw t x)):=(rfl)
@[go_sem] theorem SI {ok:Bool}:opS ⟨ts,ops,g,⟨t,h⟩,nx⟩ (.typeAssert x n ty ok)=aG ts ty fun ti=>taS ty ok ti (bu ops g (raw t x)):=(rfl)
@[go_sem] theorem Yq:opS ⟨ts,ops,g,⟨t,h⟩,nx⟩ (.extract x n)=RM n (bu ops g (raw t x)):=(rfl)
@[go_sem] theorem Vn:opS ⟨ts,ops,g,⟨t,h⟩,nx⟩ (.makeSlice ty x y)=aG ts ty fun ti=>aG ts ti.elem fun te=>bif ti.isSlice then(bif te.isSlice then aG ts te.elem fun tr=>GR nx te tr (bu ops g (raw t x)) (bu ops g (raw t y))else mkS nx te (bu ops g (raw t x)) (bu ops g (raw t y)))else .bad:=(rfl)
@[go_sem] theorem abI {lo hi:Option Operand}:opS ⟨ts,ops,g,⟨t,h⟩,nx⟩ (.slice ty x lo hi none)=aG ts ty fun ti=>aG ts ti.elem fun te=>o7 ti te.size nx h (qB ⟨ts,ops,g,⟨t,h⟩,nx⟩ lo) (qB ⟨ts,ops,g,⟨t,h⟩,nx⟩ hi) (Ht hi&&Kp ops) (bu ops g (raw t x)):=(rfl)
@[go_sem] theorem adK {lo hi:Option Operand}{m:Operand}:opS ⟨ts,ops,g,⟨t,h⟩,nx⟩ (.slice ty x lo hi (some m))=aG ts ty fun ti=>aG ts ti.elem fun _=>EN ti (qB ⟨ts,ops,g,⟨t,h⟩,nx⟩ lo) (qB ⟨ts,ops,g,⟨t,h⟩,nx⟩ hi) (bu ops g (raw t m)) (bu ops g (raw t x)):=(rfl)
@[go_sem] theorem Yr:opS ⟨ts,ops,g,⟨t,h⟩,nx⟩ (.makeMap ty none)=aG ts ty fun ti=>mmR nx ti.mkt ti.mvt:=(rfl)
@[go_sem] theorem ZR {ok:Bool}:opS ⟨ts,ops,g,⟨t,h⟩,nx⟩ (.lookup ty x y ok)=aG ts ty fun ti=>vt ti h ok (bu ops g (raw t y)) (bu ops g (raw t x)):=(rfl)
@[go_sem] theorem Vo:opS ⟨ts,ops,g,⟨t,h⟩,nx⟩ (.mapUpdate ty x y a)=aG ts ty fun ti=>DO ti h (bu ops g (raw t y)) (bu ops g (raw t a)) (bu ops g (raw t x)):=(rfl)
@[go_sem] theorem ZS:opS ⟨ts,ops,g,⟨t,h⟩,nx⟩ (.insert ty x y a)=aG ts ty fun ti=>DO ti h (bu ops g (raw t y)) (bu ops g (raw t a)) (bu ops g (raw t x)):=(rfl)
@[go_sem] theorem We:opS ⟨ts,ops,g,⟨t,h⟩,nx⟩ (.mapEntry ty x y)=aG ts ty fun ti=>zU ti nx h (bu ops g (raw t y)) (bu ops g (raw t x)):=(rfl)
@[go_sem] theorem SJ:opS ⟨ts,ops,g,⟨t,h⟩,nx⟩ (.entryStore ty x y a)=aG ts ty fun ti=>IZ ti h (bu ops g (raw t a)) (bu ops g (raw t x)) (bu ops g (raw t y)):=(rfl)
@[go_sem] theorem adL {args:List Operand}{tys:Array TypeId}:opS ⟨ts,ops,g,⟨t,h⟩,nx⟩ (.call ⟨.value x,args.toArray,tys⟩)=Bo (df ⟨ts,ops,g,⟨t,h⟩,nx⟩ args) (bu ops g (raw t x)):=(rfl)
@[go_sem] theorem afU {args:List Operand}:opS ⟨ts,ops,g,⟨t,h⟩,nx⟩ (.call ⟨.builtin .len,args.toArray,[ty].toArray⟩)=aG ts ty fun ti=>wb ti h (df ⟨ts,ops,g,⟨t,h⟩,nx⟩ args):=(rfl)
@[go_sem] theorem ZT {args:List Operand}:opS ⟨ts,ops,g,⟨t,h⟩,nx⟩ (.call ⟨.builtin .append,args.toArray,[ty,n].toArray⟩)=aG ts ty fun ti=>aG ts n fun ti2=>aG ts ti.elem fun te=>bif ti.isSlice&&ti2.isSlice then o6 te nx h (df ⟨ts,ops,g,⟨t,h⟩,nx⟩ args)else .bad:=(rfl)
@[go_sem] theorem ZU {args:List Operand}{tys:List TypeId}:opS ⟨ts,ops,g,⟨t,h⟩,nx⟩ (.call ⟨.builtin .delete,args.toArray,(ty::tys).toArray⟩)=aG ts ty fun ti=>AE ti h (df ⟨ts,ops,g,⟨t,h⟩,nx⟩ args):=(rfl)
@[go_sem] theorem abJ {args:List Operand}:opS ⟨ts,ops,g,⟨t,h⟩,nx⟩ (.call ⟨.builtin .clear,args.toArray,[ty].toArray⟩)=aG ts ty fun ti=>aG ts ti.elem fun te=>AD ti te h (df ⟨ts,ops,g,⟨t,h⟩,nx⟩ args):=(rfl)
@[go_sem] theorem afV {args:List Operand}{tys:Array TypeId}:opS cx (.call ⟨.builtin .min,args.toArray,tys⟩)=IX (df cx args):=(rfl)
@[go_sem] theorem afW {args:List Operand}{tys:Array TypeId}:opS cx (.call ⟨.builtin .max,args.toArray,tys⟩)=IY (df cx args):=(rfl)
@[go_sem] theorem abK:opS ⟨ts,ops,g,⟨t,h⟩,nx⟩ (.range ty x)=aG ts ty fun ti=>EP ti nx h (bu ops g (raw t x)):=(rfl)
@[go_sem] theorem adM:opS ⟨ts,ops,g,⟨t,h⟩,nx⟩ (.next x false)=RV (bu ops g (raw t x)):=(rfl)
@[go_sem] theorem abL:opS ⟨ts,ops,g,⟨t,h⟩,nx⟩ (.entry x)=Dm h (bu ops g (raw t x)):=(rfl)
@[go_sem] theorem abM:fpO ⟨ts,ops,g,⟨t,h⟩,nx⟩ (.range ty x)=(gK (bu ops g (raw t x)),[]):=(rfl)
@[go_sem] theorem adN {s:Bool}:fpO cx (.next x s)=([],[]):=(rfl)
@[go_sem] theorem abN:fpO ⟨ts,ops,g,⟨t,h⟩,nx⟩ (.entry x)=(gK (bu ops g (raw t x))++RY h (bu ops g (raw t x)),[]):=(rfl)
@[go_sem] theorem adO:fpO ⟨ts,ops,g,⟨t,h⟩,nx⟩ (.load ty a)=(gK (bu ops g (raw t a)),[]):=(rfl)
@[go_sem] theorem abO:fpO ⟨ts,ops,g,⟨t,h⟩,nx⟩ (.store ty a x)=(gK (bu ops g (raw t a))++gK (bu ops g (raw t x)),[]):=(rfl)
@[go_sem] theorem Vp:fpO ⟨ts,ops,g,⟨t,h⟩,nx⟩ (.indexAddr ty x y)=(gK (bu ops g (raw t x)),[]):=(rfl)
@[go_sem] theorem abP {lo hi mx:Option Operand}:fpO ⟨ts,ops,g,⟨t,h⟩,nx⟩ (.slice ty x lo hi mx)=(gK (bu ops g (raw t x)),[]):=(rfl)
@[go_sem] theorem ZV {ok:Bool}:fpO ⟨ts,ops,g,⟨t,h⟩,nx⟩ (.lookup ty x y ok)=bif ok then(gK (bu ops g (raw t x)),[])else([],gK (bu ops g (raw t x))):=(rfl)
@[go_sem] theorem Vq:fpO ⟨ts,ops,g,⟨t,h⟩,nx⟩ (.mapUpdate ty x y a)=(gK (bu ops g (raw t x)),[]):=(rfl)
@[go_sem] theorem ZW:fpO ⟨ts,ops,g,⟨t,h⟩,nx⟩ (.insert ty x y a)=(gK (bu ops g (raw t x)),[]):=(rfl)
@[go_sem] theorem Wf:fpO ⟨ts,ops,g,⟨t,h⟩,nx⟩ (.mapEntry ty x y)=(gK (bu ops g (raw t x)),[]):=(rfl)
@[go_sem] theorem SK:fpO ⟨ts,ops,g,⟨t,h⟩,nx⟩ (.entryStore ty x y a)=(gK (bu ops g (raw t x)),[]):=(rfl)
@[go_sem] theorem afX {args:List Operand}{tys:Array TypeId}:fpO ⟨ts,ops,g,⟨t,h⟩,nx⟩ (.call ⟨.builtin .len,args.toArray,tys⟩)=(rC (df ⟨ts,ops,g,⟨t,h⟩,nx⟩ args),[]):=(rfl)
@[go_sem] theorem ZX {args:List Operand}{tys:Array TypeId}:fpO ⟨ts,ops,g,⟨t,h⟩,nx⟩ (.call ⟨.builtin .append,args.toArray,tys⟩)=(rC (df ⟨ts,ops,g,⟨t,h⟩,nx⟩ args),[]):=(rfl)
@[go_sem] theorem ZY {args:List Operand}{tys:Array TypeId}:fpO ⟨ts,ops,g,⟨t,h⟩,nx⟩ (.call ⟨.builtin .delete,args.toArray,tys⟩)=(rC (df ⟨ts,ops,g,⟨t,h⟩,nx⟩ args),[]):=(rfl)
@[go_sem] theorem abQ {args:List Operand}{tys:Array TypeId}:fpO ⟨ts,ops,g,⟨t,h⟩,nx⟩ (.call ⟨.builtin .clear,args.toArray,tys⟩)=(rC (df ⟨ts,ops,g,⟨t,h⟩,nx⟩ args),[]):=(rfl)
@[go_sem] theorem adP:fpO cx (.move x)=([],[]):=(rfl)
@[go_sem] theorem ZZ:fpO cx (.assign x)=([],[]):=(rfl)
@[go_sem] theorem adQ:fpO cx (.pick x a b)=([],[]):=(rfl)
@[go_sem] theorem abR:fpO cx (.alloc ty)=([],[]):=(rfl)
@[go_sem] theorem afY:fpO cx (.box ty x)=([],[]):=(rfl)
@[go_sem] theorem abS {parts:Array (Nat×Operand)}:fpO cx (.build ty parts)=([],[]):=(rfl)
@[go_sem] theorem SL {parts:Array (Nat×Operand)}:fpO cx (.buildSlice ty n parts)=([],[]):=(rfl)
@[go_sem] theorem Wg:fpO cx (.nilCheck x)=([],[]):=(rfl)
@[go_sem] theorem abT {op:BinOp}:fpO cx (.binOp op ty x y n)=([],[]):=(rfl)
@[go_sem] theorem adR {op:UnOp}:fpO cx (.unOp op ty x)=([],[]):=(rfl)
@[go_sem] theorem Ys:fpO cx (.convert n ty x)=([],[]):=(rfl)
@[go_sem] theorem Wh {fn:Fn}{first caps:Array Operand}:fpO cx (.makeFunc fn first caps)=([],[]):=(rfl)
@[go_sem] theorem Vr:fpO cx (.fieldAddr ty x f)=([],[]):=(rfl)
@[go_sem] theorem abU:fpO cx (.field ty x f)=([],[]):=(rfl)
@[go_sem] theorem abV:fpO cx (.panic x)=([],[]):=(rfl)
@[go_sem] theorem Oy:fpO cx (.makeInterface ty x)=([],[]):=(rfl)
@[go_sem] theorem SN {ok:Bool}:fpO cx (.typeAssert x n ty ok)=([],[]):=(rfl)
@[go_sem] theorem Yt:fpO cx (.extract x n)=([],[]):=(rfl)
@[go_sem] theorem Vs:fpO cx (.makeSlice ty x y)=([],[]):=(rfl)
@[go_sem] theorem Yu {o:Option Operand}:fpO cx (.makeMap ty o)=([],[]):=(rfl)
@[go_sem] theorem adS {args:Array Operand}{tys:Array TypeId}:fpO cx (.call ⟨.value x,args,tys⟩)=([],[]):=(rfl)
@[go_sem] theorem afZ {args:Array Operand}{tys:Array TypeId}:fpO cx (.call ⟨.builtin .min,args,tys⟩)=([],[]):=(rfl)
@[go_sem] theorem af0 {args:Array Operand}{tys:Array TypeId}:fpO cx (.call ⟨.builtin .max,args,tys⟩)=([],[]):=(rfl)
@[go_sem] theorem abW {k:TI->OR}:aG ts ty k=Nc k (ts ty):=by unfold aG Nc;cases ts ty <;>rfl
@[go_sem] theorem Z0 {k:TI->OR}{i:TI}:Nc k (some i)=k i:=(rfl)
@[go_sem] theorem Yv {c:Operand}{j:Nat}{w want:Bool}{s:SV}:mw ops g c want (.gd j w s)=bif Cu w want&&Hs ops j c then s else bu ops g (.gd j w s):=(rfl)
@[go_sem] theorem Wi {c:Operand}{want:Bool}:mw ops g c want .any=.any:=(rfl)
@[go_sem] theorem Z1 {c:Operand}{want:Bool}{v:Value}:mw ops g c want (.v v)=.v v:=(rfl)
@[go_sem] theorem af1 {a b:Operand}{x y z:Bool}:EG a b (.v (.bool x)) (.v (.bool y)) (.v (.bool z))=bif isTrue a then .val (.b (x||z))else bif isFalse b then .val (.b (x&&y))else .bad:=(rfl)
@[go_sem] theorem af2 {a b:Operand}{x z:Bool}:EG a b (.v (.bool x)) .any (.v (.bool z))=.chk (x=false) (.b z):=(rfl)
@[go_sem] theorem af3 {a b:Operand}{x y:Bool}:EG a b (.v (.bool x)) (.v (.bool y)) .any=.chk (x=true) (.b y):=(rfl)
@[go_sem] theorem abX {st:St}:yA ops st=cleanF (bif ops.any (·.guard.isSome)then ⟨ungd st.t,st.h⟩else st):=(rfl)
@[go_sem] theorem abY {t:List (Nat×SV)}{h:List Ob}:cleanF ⟨t,h⟩=bif nM h then ⟨Mw h t,Af h⟩else ⟨t,h⟩:=(rfl)
@[go_sem] theorem af4 {n:Nat}:raw t (.tmp n)=lk n t:=(rfl)
@[go_sem] theorem abZ {x:Value}:raw t (.const x)=.v x:=(rfl)
@[go_sem] theorem adT {f:FuncId}:raw t (.func f)=.fn f [] []:=(rfl)
@[go_sem] theorem ahk {n:Nat}{s:SV}{r:List (Nat×SV)}:lk n ((n,s)::r)=s:=by simp[lk]
@[go_sem] theorem af5 {n a:Nat}{s:SV}{r:List (Nat×SV)}:lk n ((a,s)::r)=bif Nat.beq a n then s else lk n r:=(rfl)
@[go_sem] theorem ahl {n:Nat}:lk n []=.any:=(rfl)
@[go_sem] theorem af6 {x:Value}:bu ops g (.v x)=(.v x):=(rfl)
@[go_sem] theorem ab0:bu ops g .any=.any:=(rfl)
@[go_sem] theorem ab1 {a b:Nat}:bu ops g (.ptr a b)=(.ptr a b):=(rfl)
@[go_sem] theorem adU {a:Nat}:bu ops g (.os a)=(.os a):=(rfl)
@[go_sem] theorem adV {a b:Nat}{c d:Int}:bu ops g (.vw a b c d)=(.vw a b c d):=(rfl)
@[go_sem] theorem adW:bu ops g .e0=.e0:=(rfl)
@[go_sem] theorem adX {k:Tag}{l:List k.T}:bu ops g (.rc k l)=.rc k l:=(rfl)
@[go_sem] theorem adY {a b d:Nat}{c:Int}:bu ops g (.rp a b c d)=(.rp a b c d):=(rfl)
@[go_sem] theorem adZ {a:Nat}{i:Int}:bu ops g (.gr a i)=(.gr a i):=(rfl)
@[go_sem] theorem ad0 {a b d:Nat}{i j:Int}:bu ops g (.gp a b i j d)=(.gp a b i j d):=(rfl)
@[go_sem] theorem ad1 {a:List SV}{b:Nat}:bu ops g (.ep a b)=(.ep a b):=(rfl)
@[go_sem] theorem ad2 {k:Tag}{l:List k.T}:bu ops g (.rs k l)=(.rs k l):=(rfl)
@[go_sem] theorem ad3 {l:List SV}:bu ops g (.ls l)=(.ls l):=(rfl)
@[go_sem] theorem ad4 {k k2:Tag}{l:List (k.T×k2.T)}:bu ops g (.rm k k2 l)=(.rm k k2 l):=(rfl)
@[go_sem] theorem ab2 {l:List SV}:bu ops g (.agg l)=(.agg l):=(rfl)
@[go_sem] theorem ab3 {l:List SV}:bu ops g (.tup l)=(.tup l):=(rfl)
@[go_sem] theorem ad5 {f:FuncId}{l m:List SV}:bu ops g (.fn f l m)=(.fn f l m):=(rfl)
@[go_sem] theorem ad6 {j:Nat}{b:Bool}{s:SV}:bu ops g (.gd j b s)=bif sr ops ops.length g j b then s else .any:=(rfl)
end
section
variable {ti te:TI}{esz nx id id2 off:Nat}{h:List Ob}{k k2:Tag}{i j n c:Int}{kk kj:IntKind}{lo hi:Option SV}{key s:SV}{ok:Bool}{ts:Tis}{op:BinOp}{ty:Nat}
@[go_sem] theorem one_1 {α:Type}{x:α}:one [x]=true:=(rfl)
@[go_sem] theorem one_2 {α:Type}{x y:α}{l:List α}:one (x::y::l)=false:=(rfl)
@[go_sem] theorem af7 {g:Option (Nat×Bool)}{l:List k.T}:GQ g nx te (.newr (.rs k l))=bif(te.agg||one l)&&noG g then .eff True True [(nx,.row k l)] (.os nx)else .newr (.rs k l):=(rfl)
@[go_sem] theorem af8 {g:Option (Nat×Bool)}{l:List SV}:GQ g nx te (.newr (.ls l))=.newr (.ls l):=(rfl)
@[go_sem] theorem af9 {g:Option (Nat×Bool)}:GQ g nx te (.newr .e0)=.newr .e0:=(rfl)
@[go_sem] theorem ad7 {a b:Int}:IR ts op ty (.v (.int kk a)) (.v (.int kj b))=bif Dk op kk kj then wD op kk a b else .bad:=(rfl)
@[go_sem] theorem af_ {l:List k.T}:IR ts op ty (.rs k l) (.v (.slice none 0 0))=aG ts ty fun ti=>bif ti.isSlice then Vz op (l=[])else .bad:=(rfl)
@[go_sem] theorem ad8 {a b:ByteArray}:IR ts op ty (.v (.string a)) (.v (.string b))=aG ts ty fun ti=>bif Nat.beq ti.sc 2 then NZ op a b else .bad:=(rfl)
@[go_sem] theorem ab4 {a b:Bool}:IR ts op ty (.v (.bool a)) (.v (.bool b))=aG ts ty fun ti=>bif Nat.beq ti.sc 3 then IQ op a b else .bad:=(rfl)
@[go_sem] theorem ad9 {a b:List SV}:IR ts op ty (.agg a) (.agg b)=aG ts ty fun ti=>eqT op a b ti:=(rfl)
@[go_sem] theorem ab5 {l:List k.T}:i7 ti esz h (.rs k l) (.v (.int kk i))=bif ti.isSlice&&Nat.beq esz (ae k)then .chk (0<=i/\i< (l.length:Int)) (.ep (cellsOf k (l.getD i.toNat (gz k))) 0)else .bad:=(rfl)
@[go_sem] theorem ab6:i7 ti esz h (.os id) (.v (.int kk i))=bif ti.isSlice then EI esz id i (ar h id)else .bad:=(rfl)
@[go_sem] theorem ab7:i7 ti esz h (.gr id i) (.v (.int kk j))=bif ti.isSlice then IS esz id i j (ar h id)else .bad:=(rfl)
@[go_sem] theorem ab8 {l:List SV}:i7 ti esz h (.ls l) (.v (.int kk i))=bif ti.isSlice&&Nat.beq esz 1 then Mj i (nth l i.toNat)else .bad:=(rfl)
@[go_sem] theorem Z2:i7 ti esz h (.ptr id off) (.v (.int kk i))=bif ti.isArr then .chk (0<=i/\i< (ti.len:Int)) (.ptr id (off+i.toNat*esz))else .bad:=(rfl)
@[go_sem] theorem ab9 {l:List SV}:i7 ti esz h (.ep l off) (.v (.int kk i))=bif ti.isArr then .chk (0<=i/\i< (ti.len:Int)) (.ep l (off+i.toNat*esz))else .bad:=(rfl)
@[go_sem] theorem ab_ {z:Nat}:i7 ti esz h (.rp z id i off) (.v (.int kk j))=bif ti.isArr then .chk (0<=j/\j< (ti.len:Int)) (.rp z id i (off+j.toNat*esz))else .bad:=(rfl)
@[go_sem] theorem aga {l:List k.T}:wb ti h [.rs k l]=bif ti.isSlice then .asm (l.length<=aI) (.i l.length)else .bad:=(rfl)
@[go_sem] theorem ad_:wb ti h [.v (.slice none 0 0)]=bif ti.isSlice then .val (.i 0)else .bad:=(rfl)
@[go_sem] theorem agb {l:List k.T}:wb ti h [.rc k l]=bif ti.isSlice then .asm (l.length<=aI) (.i l.length)else .bad:=(rfl)
@[go_sem] theorem agc:wb ti h [.e0]=bif ti.isSlice then .val (.i 0)else .bad:=(rfl)
@[go_sem] theorem agd:wb ti h [.os id]=bif ti.isSlice then RN (ar h id)else VC ti.mkt (ar h id):=(rfl)
@[go_sem] theorem age:wb ti h [.gr id i]=bif ti.isSlice then VB i (ar h id)else .bad:=(rfl)
@[go_sem] theorem agf {l:List SV}:wb ti h [.ls l]=bif ti.isSlice then .val (.i (sz l))else .bad:=(rfl)
@[go_sem] theorem aea {a b:Int}{l:List k.T}:EN ti none (some (.v (.int .i64 a))) (.v (.int .i64 b)) (.rs k l)=bif ti.isSlice then .chk (a=(l.length:Int)/\b=(l.length:Int)) (.rc k l)else .bad:=(rfl)
@[go_sem] theorem aca:EN ti none (some (.v (.int .i64 0))) (.v (.int .i64 0)) (.v (.slice none 0 0))=bif ti.isSlice then .val (.v (.slice none 0 0))else .bad:=(rfl)
@[go_sem] theorem acb {l:List k.T}{vq:Bool}:o7 ti esz nx h lo hi vq (.rs k l)=bif ti.isSlice&&Nat.beq esz (ae k)then RS k l (bnd 0 lo) (bnd l.length hi)else .bad:=(rfl)
@[go_sem] theorem acd {vq:Bool}:o7 ti esz nx h lo hi vq (.os id)=bif ti.isSlice then(bif vq then N4 esz id lo (ar h id)else RT esz id nx lo hi (ar h id))else .bad:=(rfl)
@[go_sem] theorem Z3 {n:Nat}{a:Int}:RU esz id n (some a)=.chk (0<=a/\a<=(n:Int)) (.vw esz id a n):=(rfl)
@[go_sem] theorem aeb {d:Int}:bnd d none=some d:=(rfl)
@[go_sem] theorem aec {d:Int}:bnd d (some (.v (.int kk n)))=some n:=(rfl)
@[go_sem] theorem ace {l:List k.T}{a b:Int}:RS k l (some a) (some b)=.chk (0<=a/\a<=b/\b<=(l.length:Int)) (.rs k ((l.take b.toNat).drop a.toNat)):=(rfl)
@[go_sem] theorem acf {l:List k.T}{a b:Int}:VG id nx k l (some a) (some b)=.eff (0<=a/\a<=b/\b<=(l.length:Int)) True [(id,.dead),(nx,.row k ((l.take b.toNat).drop a.toNat))] (.os nx):=(rfl)
@[go_sem] theorem agh:mkS nx te (.v (.int .i64 n)) (.v (.int .i64 c))=mkT nx n c te te.tag:=(rfl)
@[go_sem] theorem agi:o6 te nx h [.os id,.ls [.os id2]]=bif Nat.beq te.size 1&&Nat.beq (sz te.zero) 1&&Nat.ble 1 te.bytes&& !(Nat.beq id id2)then Dl nx te.bytes h id2 [(id,.dead)] (ar h id)else .bad:=(rfl)
@[go_sem] theorem agj:o6 te nx h [.v (.slice none 0 0),.ls [.os id2]]=bif Nat.beq te.size 1&&Nat.beq (sz te.zero) 1&&Nat.ble 1 te.bytes then RQ nx te.bytes id2 (ar h id2)else .bad:=(rfl)
@[go_sem] theorem acg {l:List k.T}:o6 te nx h [.os id,(.rs k l)]=xw te nx [(id,.dead)] h (.rs k l) (ar h id):=(rfl)
@[go_sem] theorem ach {l:List k.T}:o6 te nx h [.v (.slice none 0 0),(.rs k l)]=xx te nx h (.rs k l) te.tag:=(rfl)
@[go_sem] theorem agk {l:List k.T}{src:SV}:o6 te nx h [.rc k l,src]=P7 te nx h src k l:=(rfl)
@[go_sem] theorem agl {l:List k.T}{src:SV}:P7 te nx h src k l=bif Nat.beq te.size (ae k)&&Nat.beq (sz te.zero) te.size&&Nat.ble 1 te.bytes then Kr k nx te.bytes l (vj k h src)else .bad:=(rfl)
@[go_sem] theorem aed {b:Nat}{l:List k.T}{x:k.T}{m:List k.T}:Kr k nx b l (some (x::m))=.eff ((l++x::m).length*b<=di) ((l++x::m).length<=aI) [(nx,.row k (l++x::m))] (.os nx):=(rfl)
@[go_sem] theorem aci {l:List k.T}:o6 te nx h [.e0,(.rs k l)]=xx te nx h (.rs k l) te.tag:=(rfl)
@[go_sem] theorem Z4:o6 te nx h [.os id,(.v (.slice none 0 0))]=xw te nx [(id,.dead)] h (.v (.slice none 0 0)) (ar h id):=(rfl)
@[go_sem] theorem Z5:o6 te nx h [.v (.slice none 0 0),(.v (.slice none 0 0))]=xx te nx h (.v (.slice none 0 0)) te.tag:=(rfl)
@[go_sem] theorem Z6:o6 te nx h [.e0,(.v (.slice none 0 0))]=xx te nx h (.v (.slice none 0 0)) te.tag:=(rfl)
@[go_sem] theorem acj:o6 te nx h [.os id,.e0]=xw te nx [(id,.dead)] h .e0 (ar h id):=(rfl)
@[go_sem] theorem ack:o6 te nx h [.v (.slice none 0 0),.e0]=xx te nx h .e0 te.tag:=(rfl)
@[go_sem] theorem acl:o6 te nx h [.e0,.e0]=xx te nx h .e0 te.tag:=(rfl)
@[go_sem] theorem acm {s:Nat}{lo hi:Int}:o6 te nx h [.os id,(.vw s id2 lo hi)]=xw te nx [(id,.dead)] h (.vw s id2 lo hi) (ar h id):=(rfl)
@[go_sem] theorem acn {s:Nat}{lo hi:Int}:o6 te nx h [.v (.slice none 0 0),(.vw s id2 lo hi)]=xx te nx h (.vw s id2 lo hi) te.tag:=(rfl)
@[go_sem] theorem aco {s:Nat}{lo hi:Int}:o6 te nx h [.e0,(.vw s id2 lo hi)]=xx te nx h (.vw s id2 lo hi) te.tag:=(rfl)
@[go_sem] theorem acp:o6 te nx h [.os id,(.os id2)]=bif Nat.beq id id2 then RR te id (ar h id)else xw te nx [(id,.dead)] h (.os id2) (ar h id):=(rfl)
@[go_sem] theorem aee {l:List k.T}:RR te id (.row k l)=bif Nat.beq te.size (ae k)&&Nat.beq (sz te.zero) te.size&&Nat.ble 1 te.bytes then .eff ((l++l).length*te.bytes<=di) ((l++l).length<=aI) [(id,.fz k l)] (.rs k (l++l))else .bad:=(rfl)
@[go_sem] theorem acq:o6 te nx h [.v (.slice none 0 0),(.os id2)]=xx te nx h (.os id2) te.tag:=(rfl)
@[go_sem] theorem acr:o6 te nx h [.e0,(.os id2)]=xx te nx h (.os id2) te.tag:=(rfl)
@[go_sem] theorem Z7 {l:List k.T}:Ae k k l=some l:=by simp[Ae]
@[go_sem] theorem agm {l:List k2.T}:vj k h (.rs k2 l)=Ae k k2 l:=(rfl)
@[go_sem] theorem aef:vj k h (.v (.slice none 0 0))=some []:=(rfl)
@[go_sem] theorem agn:vj k h .e0=some []:=(rfl)
@[go_sem] theorem ago:vj k h (.os id)=P6 k (ar h id):=(rfl)
@[go_sem] theorem agp {s:Nat}{lo hi:Int}:vj k h (.vw s id lo hi)=VD k s lo hi (ar h id):=(rfl)
@[go_sem] theorem aeg:vt ti h ok key (.os id)=Ks ti key ok (ar h id):=(rfl)
@[go_sem] theorem aeh {l:List (k.T×k2.T)}:vt ti h ok key (.rm k k2 l)=bif my k ti.mkt&&my k2 ti.mvt then EO k k2 l ok (unT k key)else .bad:=(rfl)
@[go_sem] theorem acs:vt ti h ok key (.v (.map none))=N5 key ok ti.mkt ti.mvt:=(rfl)
@[go_sem] theorem agq {v:SV}:IZ ti h v (.os id) (.os id2)=VH ti id id2 v (ar h id):=(rfl)
@[go_sem] theorem aei:Cv (.v (.int kk n))=some [(.v (.int kk n))]:=(rfl)
@[go_sem] theorem aej {b:ByteArray}:Cv (.v (.string b))=some [.v (.string b)]:=(rfl)
@[go_sem] theorem act {b:Bool}:Cv (.v (.bool b))=some [.v (.bool b)]:=(rfl)
@[go_sem] theorem agr {l:List k.T}:Cv (.rs k l)=some [.rs k l]:=(rfl)
@[go_sem] theorem ags {l:List (k.T×k2.T)}:Cv (.rm k k2 l)=some [.rm k k2 l]:=(rfl)
@[go_sem] theorem agt:Cv .e0=some [.e0]:=(rfl)
@[go_sem] theorem aek:Cv (.v (.slice none 0 0))=some [.v (.slice none 0 0)]:=(rfl)
@[go_sem] theorem acu:Cv (.v (.map none))=some [.v (.map none)]:=(rfl)
@[go_sem] theorem acv {t':TypeId}{y:Value}:taS ty ok ti (.v (.iface t' y))=bif ti.iface then .bad else bif Nat.beq t' ty then(bif ok then .val (.tup [.v y,.b true])else .val (.v y))else .bad:=(rfl)
end
@[go_sem] theorem nbeq (a b:Nat):Nat.beq a b=(a==b):=by
 rw[ajv];simp
@[go_sem] theorem nble (a b:Nat):Nat.ble a b=decide (a<=b):=by
 rw[ajv];simp
@[go_sem] theorem nblt (a b:Nat):Nat.blt a b=decide (a<b):=by
 rw[ajv];simp[Nat.blt];omega
section
variable {σ:Type}{D:σ->St}{I:σ->Prop}{m:σ->Nat}{x:σ}{id n0:Nat}{Q:Ex->St->Prop}{st:St}{rs:List ResultVar}{post:SV->Prop}{ts:Tis}{pp:Value->Prop}{C:HCon}{md:Bool}
@[go_sem] theorem Vt:xB D I m n0 x id Q .normal st= ∃ y js,I y/\m y<m x/\n0<=(D y).h.length/\Sub js n0 st (D y):=(rfl)
@[go_sem] theorem Yw {j:Nat}:xB D I m n0 x id Q (.exit j) st=bif Nat.beq j id then Q .normal st else Q (.exit j) st:=(rfl)
@[go_sem] theorem Z8:xB D I m n0 x id Q .ret st=Q .ret st:=(rfl)
@[go_sem] theorem Z9 {v:Value}:xB D I m n0 x id Q (.pan v) st=Q (.pan v) st:=(rfl)
@[go_sem] theorem Vu {s:SV}:fh post (some s)=post s:=(rfl)
@[go_sem] theorem acw:Kx md rs ts post pp .ret st=fh post (AI md rs ts st):=(rfl)
@[go_sem] theorem Wj:Kx md rs ts post pp .normal st=fh post (AI md rs ts st):=(rfl)
@[go_sem] theorem acx {x:Value}:Kx md rs ts post pp (.pan x) st=pp x:=(rfl)
@[go_sem] theorem Wk:Ky n0 rs ts C .normal st=Bt n0 C (mz (k9 ts st rs)) st.h:=(rfl)
@[go_sem] theorem acy:Ky n0 rs ts C .ret st=Bt n0 C (mz (k9 ts st rs)) st.h:=(rfl)
@[go_sem] theorem acz {v:Value}:Ky n0 rs ts C (.pan v) st= ∃ r h' js,C.post r/\C.res r=.pan v h'/\n0<=h'.length/\Sub js n0 ⟨[],st.h⟩ ⟨[],h'⟩:=(rfl)
@[go_sem] theorem Z_ {s:SV}{h:List Ob}:Bt n0 C (some s) h= ∃ r s' h' js,C.post r/\C.res r=.ret s' h'/\n0<=h'.length/\Sub js n0 ⟨[(0,s)],h⟩ ⟨[(0,s')],h'⟩:=(rfl)
@[go_sem] theorem ahm {js:List Nat}{t t2:List (Nat×SV)}{h h2:List Ob}:Sub js n0 ⟨t,h⟩ ⟨t2,h2⟩=((uniq (oG js h2)=true/\AJ 0 js n0=true/\js.all (fun j=>Nat.blt j h.length)=true)/\Qe (EW js) h2.length t t2/\GS (EW js) h2.length h js h2):=(rfl)
end
attribute [go_sem] decide_true decide_false cond_true cond_false List.any_cons List.any_nil Option.isSome_none Option.isSome_some Bool.or_false Bool.false_or Bool.or_true Bool.true_or Bool.and_true Bool.true_and Bool.and_false Bool.false_and Bool.not_true Bool.not_false List.length_cons List.length_nil List.map_cons List.map_nil List.flatMap_cons List.flatMap_nil List.append_nil List.isEmpty_nil List.isEmpty_cons Option.map_some Option.map_none Option.bind_some Option.getD_some Option.getD_none Option.toList_some Option.toList_none List.cons_append List.nil_append Nat.zero_add Nat.add_zero Nat.zero_mul Nat.mul_one Nat.one_mul
 sr Cu nth Hs wD Dk Vz NZ IQ eqV AC eqL eqO eqT YV kN Bk unS wE sJ Bm EH Cw Bn EI IS Mj nK tG DN un Ml IT Mm Mn Mo tf tg EJ RE IU GR VF VE nM N9 Af Y9 Mw R5 Y8 RG Kn IV Mr RH lsS bsT bsU adf osL osV VA Y1 XY bsG bsS noG RM Bo RN VC VB IX IY RO EK Kq P6 VD N4 RP xw EL Dl RQ xx mkT RT EO my Ht noE Ks N5 Y3 Y4 DO P8 P9 zU Y5 VH Y6 Y7 AE Y2 AD N3 mmR zsO svT Dj unT qz ac8
 dV io xy VJ N8 RZ frz VK P_ fP ungd da jX aS th ji gf R3 reach DP AF Bq ren xz Mt inN tU tH lP oU ar bM ba fO gK I0 rC kY Qa Bp ac_ ada RI N0 RJ adb YX Ms N1 Ko RK YY Kp adc YZ RL Y0 ade N2 XX IW fpU EQ rB cut Kl sz td EF iH cellsOf qA wA eO fit wz toI toB toS toF fnV Cr Eu Ev Cs Ew nj Ey Hl Ac Ez um Kc Ke Hm NV mO EA Kf vr Kg Bh Hn Kh tF yw Ho Hq EB Hr rE NW xr yx
 at0 mkE Ki zT Ct bD Bg gz ae isTrue isFalse df jw qB VM Qc Kw k9 mz adh yB yC Ah Do X2 xA uniq Qd AI VI EP RV RW N6 Dm RY RX ajL Mk xv List.all_cons List.all_nil rank Kb Qe GS I3 N_ wkL EV unp dg xZ oV oG AJ EW
end Go.Sx
end
section
namespace Go.Sx
open IntKind (i64)
open Go.RowKit
universe u
variable {P:Program}
theorem Tis.ok_leaf {n:Nat}{x:TI}(h:cw P n=some x):Tis.ok (fun t=>bif Nat.beq t n then some x else none) P:=fun t i hi=>by
 grind [Nat.eq_of_beq_eq_true]
theorem Tis.ok_node {n:Nat}{f g:Tis}(hf:Tis.ok f P)(hg:Tis.ok g P):Tis.ok (fun t=>bif Nat.ble t n then f t else g t) P:=fun t i hi=>by
 change (bif Nat.ble t n then f t else g t)=some i at hi;cases hb:Nat.ble t n with
 |false=>rw[hb]at hi;exact hg t i hi|true=>rw[hb]at hi;exact hf t i hi
def aa (f:Func):Code:=match f.body with|some c=>c|none=>.skip
def L0:wF:=fun _ _=>none
@[go_sem] theorem agu {n:Nat}{st:St}:L0 n st=none:=(rfl)
def mkP:List (Nat×(List SV->Option Con))->FuncId->List SV->Option Con
 | [],_,_=>none|(n,C)::r,f,l=>bif Nat.beq n f then C l else mkP r f l
def mkO:List (Nat×(List SV->List Ob->Option HCon))->FuncId->List SV->List Ob->Option HCon
 | [],_,_,_=>none|(n,C)::r,f,l,h=>bif Nat.beq n f then C l h else mkO r f l h
theorem Nd:∀ (ps:List (Nat×(List SV->Option Con))),(∀ x∈ps,FnOk P x.1 x.2)->∀ f,FnOk P f (mkP ps f)
 | [],_,f=>⟨fun l c h=>(by cases h),fun l c h=>(by cases h)⟩
 |(n,C)::r,h,f=>by
  have ih:=Nd r (fun x hx=>h x (by simp[hx])) f;cases hb:Nat.beq n f with
  |false=>
   simp_all [mkP]
  |true=>
   simp_all [mkP]
theorem Nf:∀ (os:List (Nat×(List SV->List Ob->Option HCon))),(∀ x∈os,FnOkO P x.1 x.2)->∀ f,FnOkO P f (mkO os f)
 | [],_,f=>⟨fun l h c hc=>(by cases hc),fun l h c hc=>(by cases hc)⟩
 |(n,C)::r,h,f=>by
  have ih:=Nf r (fun x hx=>h x (by simp[hx])) f;cases hb:Nat.beq n f with
  |false=>
   simp_all [mkO]
  |true=>
   simp_all [mkO]
def noY:List SV->Res->Option YCon:=fun _ _=>none
theorem aaa:YOk P noY:=fun l r c h=>(by cases h)
def mkG (ps:List (Nat×(List SV->Option Con)))(os:List (Nat×(List SV->List Ob->Option HCon))):Cons:=⟨mkP ps,mkO os,noY⟩
theorem av {ps:List (Nat×(List SV->Option Con))}{os:List (Nat×(List SV->List Ob->Option HCon))}(h1:∀ x∈ps,FnOk P x.1 x.2)(h2:∀ x∈os,FnOkO P x.1 x.2):ConsOk P (mkG ps os):=⟨Nd ps h1,Nf os h2,aaa⟩
@[go_sem] theorem mkG_p {ps:List (Nat×(List SV->Option Con))}{os:List (Nat×(List SV->List Ob->Option HCon))}:(mkG ps os).p=mkP ps:=(rfl)
@[go_sem] theorem mkG_o {ps:List (Nat×(List SV->Option Con))}{os:List (Nat×(List SV->List Ob->Option HCon))}:(mkG ps os).o=mkO os:=(rfl)
@[go_sem] theorem agv {f:FuncId}{l:List SV}:mkP [] f l=none:=(rfl)
@[go_sem] theorem ael {n f:Nat}{C:List SV->Option Con}{r:List (Nat×(List SV->Option Con))}{l:List SV}:mkP ((n,C)::r) f l=bif Nat.beq n f then C l else mkP r f l:=(rfl)
@[go_sem] theorem agw {f:FuncId}{l:List SV}{h:List Ob}:mkO [] f l h=none:=(rfl)
@[go_sem] theorem aem {n f:Nat}{C:List SV->List Ob->Option HCon}{r:List (Nat×(List SV->List Ob->Option HCon))}{l:List SV}{h:List Ob}:mkO ((n,C)::r) f l h=bif Nat.beq n f then C l h else mkO r f l h:=(rfl)
section
variable {α:Type u}
def pI (k:Int->List SV->Option α):List SV->Option α
 | .v (.int .i64 n)::r=>k n r|_=>none
def pU (k:Int->List SV->Option α):List SV->Option α
 | .v (.int .u64 n)::r=>k n r|_=>none
def pB (k:Bool->List SV->Option α):List SV->Option α
 | .v (.bool b)::r=>k b r|_=>none
def pS (k:ByteArray->List SV->Option α):List SV->Option α
 | .v (.string b)::r=>k b r|_=>none
def HU (t:Tag)(k:List t.T->List SV->Option α)(r:List SV)(k':Tag)(l:List k'.T):Option α:=if h:k'=t then k (h▸l) r else none
def pR (t:Tag)(k:List t.T->List SV->Option α):List SV->Option α
 | .rs k' l::r=>HU t k r k' l|_=>none
def pDo {T:Type}(k:T->List SV->Option α)(r:List SV):Option T->Option α
 |some x=>k x r|none=>none
def pD (t:Tag)(k:t.T->List SV->Option α):List SV->Option α
 | .agg l::r=>pDo k r (wA t l)|_=>none
def pX (t:Tag)(k:t.T->List SV->Option α):List SV->Option α
 | .ep l 0::r=>pDo k r (wA t l)|_=>none
def SO (t t2:Tag)(k:List (t.T×t2.T)->List SV->Option α)(r:List SV)(k' k2:Tag)(l:List (k'.T×k2.T)):Option α:=if h:k'=t/\k2=t2 then k (h.1▸h.2▸l) r else none
def pM (t t2:Tag)(k:List (t.T×t2.T)->List SV->Option α):List SV->Option α
 | .rm k' k2 l::r=>SO t t2 k r k' k2 l|_=>none
def pE (c:α):List SV->Option α
 | [] =>some c|_=>none
variable {k:Int->List SV->Option α}{kb:Bool->List SV->Option α}{ks:ByteArray->List SV->Option α}{r:List SV}{c:α}{t:Tag}
@[go_sem] theorem agx {n:Int}:pI k (.v (.int .i64 n)::r)=k n r:=(rfl)
@[go_sem] theorem agy {n:Int}:pU k (.v (.int .u64 n)::r)=k n r:=(rfl)
@[go_sem] theorem agz {b:Bool}:pB kb (.v (.bool b)::r)=kb b r:=(rfl)
@[go_sem] theorem agA {b:ByteArray}:pS ks (.v (.string b)::r)=ks b r:=(rfl)
@[go_sem] theorem agB {kr:List t.T->List SV->Option α}{l:List t.T}:pR t kr (.rs t l::r)=kr l r:=by simp[pR,HU]
@[go_sem] theorem agC {kd:t.T->List SV->Option α}{l:List SV}:pD t kd (.agg l::r)=pDo kd r (wA t l):=(rfl)
@[go_sem] theorem agD {kd:t.T->List SV->Option α}{l:List SV}:pX t kd (.ep l 0::r)=pDo kd r (wA t l):=(rfl)
@[go_sem] theorem agE {t2:Tag}{kr:List (t.T×t2.T)->List SV->Option α}{l:List (t.T×t2.T)}:pM t t2 kr (.rm t t2 l::r)=kr l r:=by simp[pM,SO]
@[go_sem] theorem aen {T:Type}{kd:T->List SV->Option α}{x:T}:pDo kd r (some x)=kd x r:=(rfl)
@[go_sem] theorem ahn:pE c []=some c:=(rfl)
theorem aab {l:List SV}{c:α}(h:pI k l=some c):∃ n r,l=.v (.int .i64 n)::r/\k n r=some c:=by
 unfold pI at h;grind
theorem CI {l:List SV}{c:α}(h:pU k l=some c):∃ n r,l=.v (.int .u64 n)::r/\k n r=some c:=by
 unfold pU at h;grind
theorem aac {l:List SV}{c:α}(h:pB kb l=some c):∃ n r,l=.v (.bool n)::r/\kb n r=some c:=by
 unfold pB at h;grind
theorem CJ {l:List SV}{c c':α}(h:pE c' l=some c):l=[]/\c=c':=by
 grind [pE]
theorem aad {kr:List t.T->List SV->Option α}{l:List SV}{c:α}(h:pR t kr l=some c):∃ x r,l=.rs t x::r/\kr x r=some c:=by
 unfold pR at h;grind [HU]
theorem SP {kd:t.T->List SV->Option α}{l:List SV}{c:α}(h:pX t kd l=some c):∃ x r,l=.ep (cellsOf t x) 0::r/\kd x r=some c:=by
 unfold pX at h;split at h;rename_i l' r;cases he:wA t l' with
 |none=>rw[he]at h;cases h
 |some x=>rw[he]at h;exact⟨x,r,by rw[sN he],h⟩
 cases h
theorem aae {t2:Tag}{kr:List (t.T×t2.T)->List SV->Option α}{l:List SV}{c:α}(h:pM t t2 kr l=some c):∃ x r,l=.rm t t2 x::r/\kr x r=some c:=by
 unfold pM at h;split at h;rename_i k' k2 l' r;unfold SO at h;grind
 cases h
theorem Ju {kd:t.T->List SV->Option α}{l:List SV}{c:α}(h:pD t kd l=some c):∃ x r,l=.agg (cellsOf t x)::r/\kd x r=some c:=by
 unfold pD at h;split at h;rename_i l' r;cases he:wA t l' with
 |none=>rw[he]at h;cases h
 |some x=>rw[he]at h;exact⟨x,r,by rw[sN he],h⟩
 cases h
end
section
variable {F:Nat->Prop}{own:Own}{w:World}
theorem FD {p:Pk}{s:SV}{v:Value}(h:Rel F own w s v):Rel F own w (Ct p s) v:=by
 unfold Ct;split;cases h with
 |agg h0 h1=>
  refine .agg (by grind [Bw]) fun j s hj=>?_;obtain⟨s0,e1,e2| ⟨k,e2⟩⟩:=wJ _ _ _ _ hj;grind
  subst e2;exact qF (h1 j _ e1)
 exact qF h;exact qF h;exact h
theorem FE:∀ (ps:List Pk) (l:List SV),(bD ps l).length=l.length
 | [],l=>by simp[bD]
 |k::ks,[] =>by simp[bD]
 |k::ks,s::r=>by simp[bD,FE ks r]
theorem FF:∀ (ps:List Pk) (l:List SV) (j:Nat) (s:SV),(bD ps l)[j]? =some s->∃ s0,l[j]? =some s0/\(s=s0\/∃ p,s=Ct p s0)
 | [],l,j,s,h=>⟨s,by grind [bD],.inl rfl⟩
 |k::ks,[],j,s,h=>by simp[bD]at h
 |k::ks,x::r,0,s,h=>by grind [bD]
 |k::ks,x::r,j+1,s,h=>by simp[bD]at h;simpa using FF ks r j s h
theorem FnOk.norm {f:FuncId}{C:List SV->Option Con}(ps:List Pk)(h:FnOk P f C):FnOk P f (fun l=>C (bD ps l)):=
 ⟨fun l c hc=>h.enter _ c hc,fun l c hc hpre F w vs hF hvs=>h.calls _ c hc hpre F w vs hF ⟨by rw[FE];exact hvs.1,fun j s hj=>by
  obtain⟨s0,e1,e2| ⟨p,e2⟩⟩:=FF _ _ _ _ hj;subst e2;exact hvs.2 j _ e1;subst e2;exact FD (hvs.2 j _ e1)⟩⟩
end
attribute [go_sem] dw nQ nN
attribute [go_sem] wA
def noH {α:Type 1}:List Ob->Option α->Option α
 | [],x=>x|_,_=>none
@[go_sem] theorem agF {α:Type 1}{x:Option α}:noH [] x=x:=(rfl)
theorem Wl {α:Type 1}{h:List Ob}{x:Option α}{c:α}(hh:noH h x=some c):h=[]/\x=some c:=by
 cases h with
 |nil=>exact⟨rfl,hh⟩|cons=>cases hh
theorem cI {n:Int}(h1: -9223372036854775808<=n)(h2:n<9223372036854775808):i64.wrap n=n:=by
 simp[IntKind.wrap,IntKind.bits,IntKind.signed];omega
end Go.Sx
end
section
namespace Go.Sx
open Go.RowKit
def aq {ρ σ:Type}(step:Nat->σ->ρ⊕σ):Nat->Nat->σ->ρ⊕σ
 |0,_,s=>.inr s
 |n+1,i,s=>match step i s with
  | .inl r=>.inl r| .inr s'=>aq step n (i+1) s'
def dR {ρ σ τ:Type}(step:τ->σ->ρ⊕σ):List τ->σ->ρ⊕σ
 | [],s=>.inr s
 |x::l,s=>match step x s with
  | .inl r=>.inl r| .inr s'=>dR step l s'
theorem HV {ρ σ τ:Type}(f:τ->σ->ρ⊕σ)(d:τ):∀ (l pre:List τ) (s:σ),aq (fun i s=>f ((pre++l).getD i d) s) l.length pre.length s=dR f l s
 | [],_,_=>rfl
 |x::l,pre,s=>by
  simp only[ais,aq,dR];have e:(pre++x::l).getD pre.length d=x:=by simp
  rw[e];cases f x s with
  |inl r=>rfl
  |inr s'=>
   have:=HV f d l (pre++[x]) s';grind
theorem xM {ρ σ τ:Type}(f:τ->σ->ρ⊕σ)(d:τ)(l:List τ)(s:σ):aq (fun i s=>f (l.getD i d) s) l.length 0 s=dR f l s:=HV f d l [] s
def LC {ρ σ:Type}(pre:Prop)(run:ρ⊕σ)(exE:ρ->Ex)(outE:ρ->St)(outN:σ->St):LCon:=
 {α:=ρ⊕σ,pre:=pre,post:=fun r=>r=run,ex:=fun r=>match r with| .inl x=>exE x| .inr _=>.normal,out:=fun r=>match r with| .inl x=>outE x| .inr s=>outN s}
@[go_sem] theorem K_ {ρ σ:Type}{pre:Prop}{run:ρ⊕σ}{exE:ρ->Ex}{outE:ρ->St}{outN:σ->St}{Q:Ex->St->Prop}:
  tI Q (some (LC pre run exE outE outN))=(pre/\(∀ x,run=.inl x->Q (exE x) (outE x))/\∀ s,run=.inr s->Q .normal (outN s)):=by
 apply propext;constructor
 rintro⟨h1,h2⟩;exact⟨h1,fun x hx=>h2 (.inl x) hx.symm,fun s hs=>h2 (.inr s) hs.symm⟩;rintro⟨h1,h2,h3⟩;refine⟨h1,fun r hr=>?_⟩;cases r with
 |inl x=>exact h2 x hr.symm|inr s=>exact h3 s hr.symm
section
variable {P:Program}{ρ σ:Type}
def La (step:Nat->σ->ρ⊕σ)(n:Nat)(exE:ρ->Ex)(outE:ρ->St)(outN:σ->St)(n0 k:Nat)(s:σ)(e:Ex)(st:St):Prop:=
 (∃ js,n<=k/\e=.normal/\n0<=(outN s).h.length/\Sub js n0 st (outN s))\/∃ x js,k<n/\step k s=.inl x/\exE x=e/\n0<=(outE x).h.length/\Sub js n0 st (outE x)
def Jv (step:Nat->σ->ρ⊕σ)(n:Nat)(exE:ρ->Ex)(outE:ρ->St)(outN:σ->St)(D:Nat->σ->St)(J:Nat->σ->Prop)(n0 id k:Nat)(s:σ):Ex->St->Prop
 | .normal,st=>k<n/\∃ s' js,step k s=.inr s'/\J (k+1) s'/\n0<=(D (k+1) s').h.length/\Sub js n0 st (D (k+1) s')| .exit j,st=>bif Nat.beq j id then La step n exE outE outN n0 k s .normal st else La step n exE outE outN n0 k s (.exit j) st| .ret,st=>La step n exE outE outN n0 k s .ret st| .pan x,st=>La step n exE outE outN n0 k s (.pan x) st
variable {step:Nat->σ->ρ⊕σ}{n n0 id k j:Nat}{exE:ρ->Ex}{outE:ρ->St}{outN:σ->St}{D:Nat->σ->St}{J:Nat->σ->Prop}{s:σ}{st:St}{x:Value}
@[go_sem] theorem Vv:Jv step n exE outE outN D J n0 id k s .normal st=(k<n/\∃ s' js,step k s=.inr s'/\J (k+1) s'/\n0<=(D (k+1) s').h.length/\Sub js n0 st (D (k+1) s')):=(rfl)
@[go_sem] theorem Yx:Jv step n exE outE outN D J n0 id k s (.exit j) st=bif Nat.beq j id then La step n exE outE outN n0 k s .normal st else La step n exE outE outN n0 k s (.exit j) st:=(rfl)
@[go_sem] theorem aaf:Jv step n exE outE outN D J n0 id k s .ret st=La step n exE outE outN n0 k s .ret st:=(rfl)
@[go_sem] theorem aag:Jv step n exE outE outN D J n0 id k s (.pan x) st=La step n exE outE outN n0 k s (.pan x) st:=(rfl)
end
def itY (items:List (List SV))(r:Nat->Res):List SV->Res->Option YCon:=fun args x=>
 some { α:=Bool,pre:=x=r x.n/\1<=x.n/\items[x.n - 1]? =some args,post:=fun _=>True,res:=fun b=>(b,r (if b then x.n+1 else 0))}
def FG (P:Program)(f:FuncId)(mk:SV->List SV)(hs:List Ob)(items:List (List SV)):Prop:=
 (∀ (args:Array Value) (w:World),(callFunc f args).run P w=.ok (.enter f args) w)/\
 ∀ r:Nat->Res,(∀ k,(r k).n=k)->YOk P (itY items r)->∀ (F:Nat->Prop) (own:Own) (w:World) (vs:Array Value),Hp F own w (.ab (r 1)::hs)->RelL F own w (mk (.os 0)) vs->
  Calls P f vs w (fun e w'=>∃ u own' j h',e=.returned u/\(j=0\/j=items.length+1)/\Hp F own' w' (.ab (r j)::h')/\Fr { w:=w,own:=own} own' w')
theorem SQ {P:Program}{f:FuncId}{mk:SV->List SV}{hs:List Ob}{items:List (List SV)}
  (h:∀ r:Nat->Res,(∀ k,(r k).n=k)->YOk P (itY items r)->∃ C,FnOkO P f C/\∃ c,C (mk (.os 0)) (.ab (r 1)::hs)=some c/\c.pre/\∀ x,c.post x->∃ s j h',c.res x=.ret s (.ab (r j)::h')/\(j=0\/j=items.length+1))
  (he:∀ (args:Array Value) (w:World),(callFunc f args).run P w=.ok (.enter f args) w):FG P f mk hs items:=by
 refine⟨he,fun r hr hy F own w vs hp hvs=>?_⟩;obtain⟨C,hC,c,h1,h2,h3⟩:=h r hr hy;refine(hC.calls _ _ c h1 h2 F own w vs hp hvs).mono ?_;rintro e w' ⟨x,own',q1,q2⟩;obtain⟨s,j,h',k1,k2⟩:=h3 x q1;rw[k1]at q2;obtain⟨⟨u,rfl,_⟩,q3,q4,_⟩:=q2;grind
def Lb (pre:Prop)(r:Nat->Res)(m:Nat):YCon:= { α:=Bool,pre:=pre,post:=fun _=>True,res:=fun b=>(b,r (if b then m else 0))}
theorem Jw {items:List (List SV)}{r:Nat->Res}(hr:∀ k,(r k).n=k)(k:Nat)(args:List SV):itY items r args (r (k+1))=some (Lb (items[k]? =some args) r (k+2)):=by
 grind [itY,Lb]
section
variable {id m:Nat}{t:List (Nat×SV)}{h:List Ob}{K:St->Prop}{pre:Prop}{r:Nat->Res}{ops:List Oper}{g:Nat×Bool}
theorem two {p:Bool->Prop}:(∀ b,p b)=(p true/\p false):=propext ⟨fun h=>⟨h true,h false⟩,fun h b=>by
 cases b <;>grind⟩
@[go_sem] theorem agG {d:Nat}:Mv id (some d) ⟨t,h⟩ K (some (Lb pre r m))=(pre/\K ⟨(d,.b true)::t,bM h id (.ab (r m))⟩/\K ⟨(d,.b false)::t,bM h id (.ab (r 0))⟩):=by
 show(pre/\∀ b:Bool,True->K ⟨(d,.b b)::t,bM h id (.ab (r (if b then m else 0)))⟩)=_;grind
@[go_sem] theorem agH {d:Nat}:Kv id ops g (some d) ⟨t,h⟩ K (some (Lb pre r m))=((dV ops t ops.length g->pre/\K ⟨(d,.gd g.1 g.2 (.b true))::t,bM h id (.ab (r m))⟩/\K ⟨(d,.gd g.1 g.2 (.b false))::t,bM h id (.ab (r 0))⟩)/\(io ops t ops.length g->K ⟨(d,.gd g.1 g.2 .any)::t,h⟩)):=by
 show((dV ops t ops.length g->pre/\∀ b:Bool,True->K ⟨(d,.gd g.1 g.2 (.b b))::t,bM h id (.ab (r (if b then m else 0)))⟩)/\(io ops t ops.length g->K ⟨(d,.gd g.1 g.2 .any)::t,h⟩))=_;grind
end
def Wm (own:Own)(n:Nat):List Nat:=(List.range n).flatMap fun id=>match own id with|some hd=>hd.bs|none=>[]
theorem FH {own:Own}{n:Nat}(hd:∀ id hd,own id=some hd->id<n)(b:Nat):b∈Wm own n↔∃ id hd,own id=some hd/\b∈hd.bs:=by
 grind [Wm]
section
variable {P:Program}{w0:Bs}{ts:Tis}{G:Cons}{L:wF}{N:Nat}
def Fw (F:Nat->Prop)(l:Nat)(w:World)(b:Nat):Prop:=(F b/\b<w.heap.size)\/b=l
structure LRec where
 l:Nat
 fn:FuncId
 tmps:Array Value
 ps:Array Tmp
 assign:Code
 body:Code
 D:Nat
def LRec.obj (x:LRec)(s:LoopState)(p:Option Code):Obj:=.loop { state:=s,pending:=p,fn:=x.fn,tmps:=x.tmps,params:=x.ps,assign:=x.assign,body:=x.body,defers:=x.D}
structure Pack (x:LRec)(T:List (Nat×SV))(cF:Own)(n0:Nat)(H:List Ob)(o:Obj)(own':Own)(F:Nat->Prop)(bs:List Nat)(w:World):Prop where
 hp:Hp (Fw F x.l w) own' w H
 slots:∀ t,Rel (Fw F x.l w) own' w (lk t T) (x.tmps.getD t undef)
 bs:∀ b,b∈bs↔b=x.l\/∃ id hd,own' id=some hd/\b∈hd.bs
 ids:∀ id hd,cF id=some hd->∃ hd',own' id=some hd'/\hd.like hd'
 nl:¬F x.l
 rcd:w.heap[x.l]? =some o
 le:n0<=H.length
theorem Pack.loc {x:LRec}{T:List (Nat×SV)}{cF:Own}{n0:Nat}{H:List Ob}{o:Obj}{own':Own}{F F':Nat->Prop}{bs:List Nat}{w w':World}(h:Pack x T cF n0 H o own' F bs w)(hsz:w.heap.size<=w'.heap.size)
  (hb:∀ b,b<w.heap.size->¬F b->w'.heap[b]? =w.heap[b]?) (hF:∀ b,b<w.heap.size->F' b->F b):Pack x T cF n0 H o own' F' bs w':=by
 have hl:=qC h.rcd;have hc:Carries (Fw F x.l w) own' w (Fw F' x.l w') own' w':=⟨fun _ hd e=>⟨hd,e,.refl _⟩,fun b hbl hn=>⟨fun ho=>hn (ho.imp (fun q=>q.imp (fun⟨q1,_⟩ =>⟨hF b hbl q1,hbl⟩) (fun e=>e)) (fun e=>e)),hb b hbl fun hf=>hn (.inl (.inl ⟨hf,hbl⟩))⟩⟩;have hob:∀ id hd b,own' id=some hd->b∈hd.bs->w'.heap[b]? =w.heap[b]?:=fun id hd b e hm=>hb b (h.hp.lt id hd b e hm) fun hf=>h.hp.apart id hd b e hm (.inl ⟨hf,h.hp.lt id hd b e hm⟩);refine⟨⟨h.hp.dom,fun b hbf=>?_,fun id hd b e hm hbf=>?_,h.hp.inj,fun id hd b e hm=>aiy (h.hp.lt id hd b e hm) hsz,fun id hdd=>?_⟩,fun t=>(h.slots t).carry hc,h.bs,h.ids,fun hf=>h.nl (hF _ hl hf),by rw[hb _ hl h.nl];exact h.rcd,h.le⟩;rcases hbf with⟨_,q⟩ |rfl <;>grind;have hlt:=h.hp.lt id hd b e hm;rcases hbf with⟨q,_⟩ |q;exact h.hp.apart id hd b e hm (.inl ⟨hF b hlt q,hlt⟩);exact h.hp.apart id hd b e hm (.inr q);obtain⟨hd,e1,e2⟩:=h.hp.obs id hdd;exact⟨hd,e1,e2.carry hc hsz fun b hm=>hob id hd b e1 hm⟩
def psT:List Nat->List SV->List (Nat×SV)
 |p::ps,s::r=>(p,s)::psT ps r|_,_=>[]
def itQ {σ:Type}(T:List (Nat×SV))(Hx:σ->List Ob)(I:Nat->σ->Prop)(S:Ex->σ->Prop)(n0 k:Nat):Ex->St->Prop
 | .normal,st=>∃ y js,I (k+1) y/\n0<=(Hx y).length/\Sub js n0 ⟨T,st.h⟩ ⟨T,Hx y⟩| .exit j,st=>∃ y js,S (.exit j) y/\n0<=(Hx y).length/\Sub js n0 ⟨T,st.h⟩ ⟨T,Hx y⟩| .ret,st=>∃ y js,S .ret y/\n0<=(Hx y).length/\Sub js n0 ⟨T,st.h⟩ ⟨T,Hx y⟩| .pan _,_=>False
def Ng:Ex->Option Code
 | .exit j=>some (.exit j)| .ret=>some .ret|_=>none
def itR {σ:Type}(x:LRec)(T:List (Nat×SV))(cF:Own)(n0:Nat)(Hx:σ->List Ob)(I:Nat->σ->Prop)(S:Ex->σ->Prop):Nat->Res
 |0=>{ yv:=.func (.yield x.l) #[] #[],n:=0,R:=fun F bs w=>∃ e y own',S e y/\(Ng e).isSome=true/\Pack x T cF n0 (Hx y) (x.obj .done (Ng e)) own' F bs w,loc:=fun F F' bs w w' ⟨e,y,own',h0,h1,h2⟩ hsz hb hF=>⟨e,y,own',h0,h1,h2.loc hsz hb hF⟩}
 |k+1=>{ yv:=.func (.yield x.l) #[] #[],n:=k+1,R:=fun F bs w=>∃ y own',I k y/\Pack x T cF n0 (Hx y) (x.obj .ready none) own' F bs w,loc:=fun F F' bs w w' ⟨y,own',h0,h2⟩ hsz hb hF=>⟨y,own',h0,h2.loc hsz hb hF⟩}
theorem Yy {σ:Type}{x:LRec}{T:List (Nat×SV)}{cF:Own}{n0:Nat}{Hx:σ->List Ob}{I:Nat->σ->Prop}{S:Ex->σ->Prop}:∀ k,(itR x T cF n0 Hx I S k).n=k/\(itR x T cF n0 Hx I S k).yv=.func (.yield x.l) #[] #[]
 |0=>⟨rfl,rfl⟩|_+1=>⟨rfl,rfl⟩
theorem SR:∀ (ps:List Nat) (args:List SV) (T:List (Nat×SV)) (tmps:Array Value) (vs:List Value) (t:Nat) {F:Nat->Prop} {own:Own} {w:World},ps.Nodup->(∀ p∈ps,p<tmps.size)->args.length=ps.length->vs.length=ps.length->
  (∀ (j:Nat) (s:SV) (v:Value),args[j]? =some s->vs[j]? =some v->Rel F own w s v)->Rel F own w (lk t T) (tmps.getD t undef)->Rel F own w (lk t (psT ps args++T)) (((ps.zip vs).foldl (fun tmps (t,a) =>tmps.setIfInBounds t a) tmps).getD t undef)
 | [],args,T,tmps,vs,t,_,_,_,_,_,ha,_,_,hT=>by
  cases args with
  |nil=>exact hT|cons=>simp at ha
 |p::ps,[],T,tmps,vs,t,_,_,_,_,_,ha,_,_,_=>by simp at ha
 |p::ps,s::args,T,tmps,[],t,_,_,_,_,_,_,hv,_,_=>by simp at hv
 |p::ps,s::args,T,tmps,v::vs,t,F,own,w,hn,hp,ha,hv,hr,hT=>by
  rw[ai1]at hn;have hother:∀ (l:List (Nat×Value)) (tm:Array Value),(∀ x∈l,x.1≠p)->(l.foldl (fun tmps (t,a) =>tmps.setIfInBounds t a) tm).getD p undef=tm.getD p undef:=by
   intro l;induction l with
   |nil=>grind
   |cons y r ih=>
    intro tm hy;simp_all
  have hlkp:∀ (ps2:List Nat) (as2:List SV),p ∉ ps2->lk p (psT ps2 as2++T)=lk p T:=by
   intro ps2;induction ps2 with
   |nil=>intro as2 _;rfl
   |cons q r ih=>
    intro as2 hq;cases as2 with
    |nil=>rfl
    |cons a as2=>
     simp only[aiu,not_or]at hq;simp only[psT,aiF];rw[pV,if_neg (fun e=>hq.1 e.symm)];grind
  simp only[List.zip_cons_cons,aka,psT,aiF];rw[pV];by_cases ht:p=t
  subst ht;rw[if_pos rfl,hother _ _ fun x hx=>by
   have:=List.of_mem_zip hx;grind]
  simp only[aiB,ajR];simp only[if_true];rw[if_pos (hp p (by simp))];exact hr 0 s v rfl rfl;rw[if_neg ht];refine SR ps args T (tmps.setIfInBounds p v) vs t hn.2 (fun q hq=>by grind) (by grind) (by grind) (fun j s v h1 h2=>hr (j+1) s v (by grind) (by grind)) ?_;simp_all
theorem QN (l:List (Nat×Value)):∀ (tm:Array Value),(l.foldl (fun tmps (t,a) =>tmps.setIfInBounds t a) tm).size=tm.size:=by
 induction l <;>grind
theorem aah (hm:P.follows .mixedOrders=true)(hts:ts.ok P)(hG:ConsOk P G){σ:Type}{x:LRec}{T:List (Nat×SV)}{cF:Own}{n0:Nat}{Hx:σ->List Ob}{I:Nat->σ->Prop}{S:Ex->σ->Prop}{items:List (List SV)}
  (hsz:x.tmps.size=N) (hn0:∀ id hd,cF id=some hd->id<n0) (hpn:x.ps.toList.Nodup) (hpN:∀ p∈x.ps.toList,p<N) (hca:cD N x.assign=true) (hcb:cD N x.body=true)
  (hround:∀ k y args,items[k]? =some args->I k y->args.length=x.ps.size/\∃ L Qx,(∀ l,ap P (some l) N L x.assign)/\(∀ l,ap P (some l) N L x.body)/\(∀ e st,Qx e st->itQ T Hx I S n0 k e st)/\exec ts G L x.assign ⟨psT x.ps.toList args++T,Hx y⟩ (fun e st1=>e=.normal/\exec ts G L x.body st1 Qx)):
  YOk P (itY items (itR x T cF n0 Hx I S)):=by
 intro args rr c hc hpre F bs w vs hR hF hbs hvs;simp only[itY,aip]at hc;subst hc;obtain⟨h1,h2,h3⟩:=hpre;generalize hk:rr.n=kk at h1 h2 h3;obtain⟨k,rfl⟩:∃ k,kk=k+1:=⟨kk - 1,by omega⟩;simp only[ajQ]at h3;subst h1;obtain⟨y,own',hI,pk⟩:=hR;obtain⟨hal,L,Qx,hla,hlb,hQx,hex⟩:=hround k y args h3 hI;have hvl:vs.size=x.ps.size:=by rw[hvs.1];exact hal
 have hl:=qC pk.rcd;right;have hpfs:∀ b,Fw F x.l w b->b<w.heap.size:=fun b hb=>pk.hp.foreign b hb;refine⟨x.l,x.fn,(x.ps.zip vs).foldl (fun tmps (t,a) =>tmps.setIfInBounds t a) x.tmps,x.assign,x.body,?_,roundIn_of_wpIn trivial ?_⟩;show(QA (.func (.yield x.l) #[] #[]) vs).run P w=_;have hy:=run_yield (P:=P) (w:=w) (l:=x.l) (args:=vs) pk.rcd hvl;grind [QA,Deferred.ofValue,invoke]
 ·
  generalize htm:(x.ps.zip vs).foldl (fun tmps (t,a) =>tmps.setIfInBounds t a) x.tmps=tmps';have hFw:∀ b,F b->Fw F x.l w b:=fun b hb=>.inl ⟨hb,hF b hb⟩;have hargs:RelL (Fw F x.l w) own' w args vs:=⟨hvs.1,fun j s hj=>(hvs.2 j s hj).over (rQ (hvs.2 j s hj)) fun b hb ho=>hb (by
   left;rcases ho with(⟨q,_⟩ |q) | ⟨id,hd,e,hm⟩;exact .inl q;exact .inr ((pk.bs b).2 (.inl q));exact .inr ((pk.bs b).2 (.inr ⟨id,hd,e,hm⟩)))⟩
  have hstart:StRel (Fw F x.l w) { w:=w,own:=own'} N own' ⟨psT x.ps.toList args++T,Hx y⟩ { tmps:=tmps',defers:=[]} w:=by
   refine⟨?_,Dfr.nil,pk.hp,Fr.refl { w:=w,own:=own'},fun t=>?_⟩;rw[<-htm,<-ak2,QN];exact hsz;rw[<-htm,<-ak2,Array.toList_zip];refine SR x.ps.toList args T x.tmps vs.toList t hpn (fun p hp=>by grind) (by omega) (by omega) (fun j s v h1 h2=>?_) (pk.slots t);have:=hargs.2 j s h1;simp_all
  refine wpIn_mono (oK (ro:=some x.l) (nd:=0) hm hts hG x.assign hca (hla x.l) _ _ _ hex own' _ w hstart) ?_;intro e a1 w1 hq;cases e with
  |normal=>
   obtain⟨F1,own1,st1,hF1,hst1,_,hex1⟩:=hq;have hl1:F1 x.l:=hF1 _ (.inr rfl);have hno1:∀ id hd,own' id=some hd->x.l ∉ hd.bs:=fun id hd e hm=>pk.hp.apart id hd _ e hm (.inr rfl);have hrec1:w1.heap[x.l]? =some (x.obj .ready none):=by
    rw[hst1.fr.block x.l ⟨hl,fun⟨id,hd,e,hm⟩ =>hno1 id hd e hm⟩];exact pk.rcd
   refine⟨w1.putObj x.l (x.obj .busy none),run_beginRound hrec1 rfl,?_⟩;have g1:Goes F1 own1 w1 own1 (w1.putObj x.l (x.obj .busy none)):=⟨fun _ hd e=>⟨hd,e,.refl _⟩,fun b _ hn=>⟨hn,World.putObj_heap_other fun e=>hn (.inl (e▸hl1))⟩,by simp⟩;have hst2:StRel F1 { w:=w.putObj x.l (x.obj .busy none),own:=own'} N own1 st1 a1 (w1.putObj x.l (x.obj .busy none)):=by
    refine⟨hst1.size,?_,hst1.hp.goes g1 fun id hd b e hm=>World.putObj_heap_other fun e'=>hst1.hp.apart id hd b e hm (e'▸hl1),⟨hst1.fr.ids,fun id hd b e hm ho=>hst1.fr.base id hd b e hm ⟨by have:=ho.1;simp_all,ho.2⟩,hst1.fr.os,hst1.fr.tape,hst1.fr.output,by simpa using hst1.fr.size,fun b hb=>?_⟩,fun t=>(hst1.slots t).mono g1⟩;obtain⟨ms,Ds,q0,q1,q2,q3⟩:=hst1.defers;refine⟨ms,Ds,q0,q1,q2,fun D hD=>⟨by simp_all,(q3 D hD).2.1,?_⟩⟩;rw[World.putObj_heap_other fun e=>?_] <;>grind;by_cases e:b=x.l
    grind [World.putObj_heap_same]
    rw[World.putObj_heap_other e,World.putObj_heap_other e];exact hst1.fr.block b ⟨by have:=hb.1;simp_all,hb.2⟩
   refine wpIn_mono (oK (ro:=some x.l) (nd:=0) hm hts hG x.body hcb (hlb x.l) _ _ _ hex1 own1 _ _ hst2) ?_;intro e a2 w2 hq
   replace hq:=wS hQx _ _ _ hq
   have key:∀ (F2:Nat->Prop) (own2:Own) (st2:St) (y2:σ) (js:List Nat) (b:Bool) (jump:Option Code),(∀ c,F1 c->F2 c)->StRel F2 { w:=w.putObj x.l (x.obj .busy none),own:=own'} N own2 st2 a2 w2->n0<=(Hx y2).length->Sub js n0 ⟨T,st2.h⟩ ⟨T,Hx y2⟩->b=jump.isNone->
     (∀ own3 bs' w3,Pack x T cF n0 (Hx y2) (x.obj (if jump.isNone then .ready else .done) jump) own3 F bs' w3->(itR x T cF n0 Hx I S (if b then k+1+1 else 0)).R F bs' w3)->
     ∃ v w3,(Instr.endRound x.l jump).run P w2=.ok v w3/\∃ a bs',True/\(Ending.returned v)=.returned (.bool ((a,itR x T cF n0 Hx I S (if a then k+1+1 else 0)):Bool×Res).1)/\(itR x T cF n0 Hx I S (if a then k+1+1 else 0)).R F bs' w3/\(itR x T cF n0 Hx I S (if a then k+1+1 else 0)).yv=.func (.yield x.l) #[] #[]/\YFr bs bs' w w3:=by
    intro F2 own2 st2 y2 js b jump hF2 hst hle hsub hb hR3;subst hb;have hl2:F2 x.l:=hF2 _ hl1;have hrec2:w2.heap[x.l]? =some (x.obj .busy none):=by
     rw[hst.fr.block x.l ⟨by simpa using hl,fun⟨id,hd,e,hm⟩ =>hno1 id hd e hm⟩];exact World.putObj_heap_same hl
    have hsz2:w.heap.size<=w2.heap.size:=by have:=hst.fr.size;simp_all
    have hl2s:=aiy hl hsz2;obtain⟨q1,q2,q3,q4⟩:=M_ hsub hst.hp hle;let own3:=i9 js (Hx y2) own2
    let w3:=w2.putObj x.l (x.obj (if jump.isNone then .ready else .done) jump)
    have hF2w:∀ c,Fw F x.l w3 c->F2 c:=fun c hc=>by
     rcases hc with⟨hc,_⟩ |rfl <;>grind
    have hoth:∀ c,c≠x.l->w3.heap[c]? =w2.heap[c]?:=fun c hc=>World.putObj_heap_other hc;have hcar:Carries F2 own3 w2 (Fw F x.l w3) own3 w3:=⟨fun _ hd e=>⟨hd,e,.refl _⟩,fun c hcl hn=>⟨fun ho=>hn (ho.imp (hF2w c) (fun e=>e)),hoth c fun e=>hn (.inl (e▸hl2))⟩⟩;have hblk:∀ c,c<w.heap.size->c≠x.l->(¬ ∃ id hd,own' id=some hd/\c∈hd.bs)->w2.heap[c]? =w.heap[c]?:=fun c h1 h2 h3=>by
     rw[hst.fr.block c ⟨by simpa using h1,h3⟩];exact World.putObj_heap_other h2
    have hown2:∀ id hd c,own2 id=some hd->c∈hd.bs->(∃ id hd,own' id=some hd/\c∈hd.bs)\/w.heap.size<=c:=fun id hd c e hm=>by
     have:=hst.fr.base id hd c e hm;by_cases hc:c<w.heap.size
     exact .inl (aiO fun hn=>this ⟨by simpa using hc,hn⟩);omega
    have gall:Goes (Fw F x.l w) own' w own2 w2:=⟨hst.fr.ids,fun c hcl hn=>by
     have h2:c≠x.l:=fun e=>hn (.inl (.inr e));have h3:¬ ∃ id hd,own' id=some hd/\c∈hd.bs:=fun h=>hn (.inr h);refine⟨?_,hblk c hcl h2 h3⟩;rintro (hf| ⟨id,hd,e,hm⟩);exact hn (.inl hf);grind,hsz2⟩
    have hcar2:Carries (Fw F x.l w) own3 w2 (Fw F x.l w3) own3 w3:=⟨fun _ hd e=>⟨hd,e,.refl _⟩,fun c hcl hn=>⟨fun ho=>hn (ho.imp (fun hc=>by
     rcases hc with⟨hc,_⟩ |rfl;grind
     exact .inr rfl) (fun e=>e)),hoth c fun e=>hn (.inl (.inr e))⟩⟩
    have hpk:Pack x T cF n0 (Hx y2) (x.obj (if jump.isNone then .ready else .done) jump) own3 F (x.l::Wm own3 (Hx y2).length) w3:=by
     refine⟨⟨q1.dom,fun c hc=>?_,fun id hd c e hm hc=>q1.apart id hd c e hm (hF2w c hc),q1.inj,fun id hd c e hm=>by have:=q1.lt id hd c e hm;simpa[w3]using this,fun id hdd=>?_⟩,fun t=>?_,fun c=>?_,fun id hd e=>?_,pk.nl,World.putObj_heap_same hl2s,hle⟩;rcases hc with⟨_,hc⟩ |rfl;exact hc;simpa[w3]using hl2s;obtain⟨hd,e1,e2⟩:=q1.obs id hdd;exact⟨hd,e1,e2.carry hcar (by simp[w3]) fun c hm=>hoth c fun e=>q1.apart id hd c e1 hm (e▸hl2)⟩;rcases Ef t _ hsub.2.1 with e| ⟨e1,e2⟩;rw[e];exact .any _;have h1:=(pk.slots t).mono gall;have h1':Rel (Fw F x.l w) own2 w2 (ren (EW js) 5 (lk t T)) (x.tmps.getD t undef):=e1▸h1;exact(q3 (Fw F x.l w) 5 _ _ e2 h1').carry hcar2;rw[aiu,FH q1.dom];obtain⟨hd1,e1,l1⟩:=pk.ids id hd e;obtain⟨hd2,e2,l2⟩:=hst.fr.ids id hd1 e1;obtain⟨hd3,e3,l3⟩:=q4 id hd2 (hn0 id hd e) e2;exact⟨hd3,e3,(l1.trans l2).trans l3⟩
    refine⟨_,w3,run_endRound jump hrec2,jump.isNone,_,trivial,rfl,hR3 _ _ _ hpk,(Yy _).2,hst.fr.os,hst.fr.tape,hst.fr.output,by simpa[w3]using hsz2,fun c hc hn=>?_,fun c hc=>?_⟩;have h2:c≠x.l:=fun e=>hn ((pk.bs c).2 (.inl e));rw[hoth c h2];exact hblk c hc h2 fun h=>hn ((pk.bs c).2 (.inr h));rcases aiu.1 hc with rfl|hc;exact⟨by simpa[w3]using hl2s,.inl ((pk.bs _).2 (.inl rfl))⟩;obtain⟨id,hd,e,hm⟩:=(FH q1.dom c).1 hc;refine⟨by have:=q1.lt id hd c e hm;simpa[w3]using this,?_⟩;obtain⟨_,j,hd0,_,e2,_,e4⟩:=jx e;obtain⟨_,rfl⟩:=e4 c hm;rcases hown2 j hd c e2 hm with h|h;exact .inl ((pk.bs c).2 (.inr h));omega
   cases e with
   |normal=>
    obtain⟨F2,own2,st2,h0,hst,y2,js,hI2,hle,hsub⟩:=hq;exact key F2 own2 st2 y2 js true none h0 hst hle hsub rfl fun own3 bs' w3 hp=>⟨y2,own3,hI2,hp⟩
   |ret=>
    obtain⟨F2,own2,st2,h0,hst,y2,js,hS2,hle,hsub⟩:=hq;exact key F2 own2 st2 y2 js false (some .ret) h0 hst hle hsub rfl fun own3 bs' w3 hp=>⟨.ret,y2,own3,hS2,rfl,hp⟩
   |exit j=>
    obtain⟨F2,own2,st2,h0,hst,y2,js,hS2,hle,hsub⟩:=hq;exact key F2 own2 st2 y2 js false (some (.exit j)) h0 hst hle hsub rfl fun own3 bs' w3 hp=>⟨.exit j,y2,own3,hS2,rfl,hp⟩
   |panic ch=>obtain⟨x',F2,own2,st2,_,_,h,_⟩:=hq;exact h.elim
   |_=>exact hq.elim
  |exit j=>obtain⟨F1,own1,st1,_,_,h,_⟩:=hq;cases h
  |ret=>obtain⟨F1,own1,st1,_,_,h,_⟩:=hq;cases h
  |panic ch=>obtain⟨x',F1,own1,st1,_,_,⟨h,_⟩,_⟩:=hq;cases h
  |_=>exact hq.elim
end
end Go.Sx
end
