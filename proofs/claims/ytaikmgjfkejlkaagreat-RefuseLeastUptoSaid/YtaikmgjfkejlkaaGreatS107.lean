/- Part of the proof that the law RefuseLeast returns true and leaves its arguments as they were, for all arguments of bulk at most 1048576 (the Upto form). -/
import Derived.Test.YtaikmgjfkejlkaaGreatS106
import Derived.RecoverIn
import Derived.Laws.Pointers
import Derived.Test.YtaikmgjfkejlkaaGreatProg
set_option linter.all false
set_option maxHeartbeats 4000000
set_option maxRecDepth 100000
section
namespace Go.Sx
open Go.RowKit
open IntKind (i64)
section
variable {P:Program}{w0:Bs}{ts:Tis}{G:Cons}{L:vZ}{N:Nat}
def sI (ids:List Nat)(h:List Ob):List Ob:=bb h (ids.map λid=>(id,Ob.dead))
theorem IN (h:List Ob)(id:Nat):∀ (ids:List Nat) (h:List Ob),ap (sI ids h) id=if id∈ids then .dead else ap h id
 | [],h=>by rfl
 |a::r,h=>by
  have E:=IN h id r (cm h a .dead);have e:sI (a::r) h=sI r (cm h a .dead):=rfl;rw[e,E];by_cases h1:id∈r
  simp[h1];rw[if_neg h1,dy];grind
def Pe (ids:List Nat)(i:Nat):Option Nat:=(y4 i ids).map (· +1)
def Mx (ids:List Nat)(h:List Ob):List Ob:=ids.map λi=>va (Pe ids) (ap h i)
def jR (st:St)(caps:List SV):List Nat:=reach st.h 64 (caps.flatMap (fA 3)) []
def YF (lc:apN)(n0:Nat)(e:Ex)(st:St):Prop:= ∃ r js,lc.post r/\lc.ex r=e/\n0<=(lc.out r).h.length/\Sub js n0 st (lc.out r)
theorem YG {F:Nat->Prop}{own:Own}{st:St}{a:Act}{w:World}(E:W2 F w0 N own st a w)(x:Operand):Rel F own w (raw st.t x) (a.eval x):=by
 cases x with
 |tmp t=>exact E.slots t|const v=>exact .v v
 |func f=>exact .fn rfl rfl (λj s h=>by simp at h) (λj s h=>by simp at h)
 |global g=>exact .any _
theorem My (O:P.follows .mixedOrders=true)(hts:ts.ok P)(hG:X2 P G){id:Nat}{g:Operand}{ps:Array Tmp}{assign body:Code}{C:St->Option apN}
  (hpn:ps.toList.Nodup) (hpN:∀ p∈ps.toList,p<N) (hca:cP N assign=true) (hcb:cP N body=true)
  (h:∀ st lc,C st=some lc->lc.pre->∃ (f:FuncId) (caps:List SV) (items:List (List SV)) (σ:Type) (T:List (Nat×SV)) (Hx:σ->List Ob) (I:Nat->σ->Prop) (S:Ex->σ->Prop) (x0:σ) (js:List Nat),
   raw st.t g=.fn f [] caps/\I 0 x0/\st.h.length<=(Hx x0).length/\Sub js st.h.length ⟨st.t,sI (jR st caps) st.h⟩ ⟨T,Hx x0⟩/\
   Af P f (λy=>y::caps.map (ren (Pe (jR st caps)) 3)) (Mx (jR st caps) st.h) items/\
   (∀ k y args,items[k]? =some args->I k y->args.length=ps.size/\∃ L Qx,(∀ l,ak P (some l) N L assign)/\(∀ l,ak P (some l) N L body)/\(∀ e st',Qx e st'->itQ T Hx I S st.h.length k e st')/\exec ts G L assign ⟨psT ps.toList args++T,Hx y⟩ (λe st1=>e=.normal/\exec ts G L body st1 Qx))/\
   (∀ y,I items.length y->YF lc st.h.length .normal ⟨T,Hx y⟩)/\(∀ y,S .ret y->YF lc st.h.length .ret ⟨T,Hx y⟩)/\
   ∀ j y,S (.exit j) y->YF lc st.h.length (if j=id then .normal else .exit j) ⟨T,Hx y⟩):kV P none N id (.rangeFunc g ps assign body) C:=by
 intro nd F w0 st lc hC hpre own a w V;obtain⟨f,caps,items,σ,T,Hx,I,S,x0,js,hg,hI0,hle0,hsub0,hit,aqP,hN,hRet,hEx⟩:=h st lc hC hpre;have ap6:=YG V g;rw[hg]at ap6;generalize hev:a.eval g=gv at ap6;cases ap6 with
 | @fn _ _ _ us lb Y e2 e3 e4=>
  have hus:us= #[]:=by
   grind
  subst hus;have hcaps:apx F own w caps lb:=⟨e2,e4⟩;have aqs:∀ i∈jR st caps,∃ hd,own i=some hd:=xM V.hp 64 _ [] (λi hi=>by
   obtain⟨x,hx,hxi⟩:=am0.1 hi;obtain⟨j,hj⟩:=ams hx;exact J7 3 x _ (hcaps.2 j x hj) i hxi) (λi hi=>by cases hi)
  have hnd:(jR st caps).Nodup:=qJ st.h 64 _ [] amV;generalize hidsE:jR st caps=ids at aqs hnd hsub0 hit;refine wpIn_block (wpIn_rangeFunc λfn _=>?_);let rc:aqN:=⟨w.heap.size+1,fn,a.tmps,ps,assign,body,w.heap.size⟩
  let yv:Value:=.func (.yield (w.heap.size+1)) #[] #[]
  obtain⟨W,hW1⟩:∃ W,(w.alloc (.deferred (some []))).alloc (rc.obj .ready none)=W:=⟨_,rfl⟩;have hsz1:W.heap.size=w.heap.size+2:=by grind [Ov]
  have hold:∀ b,b<w.heap.size->W.heap[b]? =w.heap[b]?:=λb hb=>by
   grind [qD]
  have hl1:W.heap[w.heap.size+1]? =some (rc.obj .ready none):=by
   rw[<-hW1];have:=kz (w.alloc (.deferred (some []))) (rc.obj .ready none);simp_all
  have hD1:W.heap[w.heap.size]? =some (.deferred (some [])):=by
   rw[<-hW1,qD _ _ _ (by simp_all)];exact kz w _
  refine⟨w.heap.size+1,[{ target:=.collected w.heap.size,args:= #[]}],W,{ target:=.fn (.func f) lb,args:= #[yv]},W,f,#[yv]++lb,W,?_,?_,λ_ _=>trivial,?_,λh=>(by cases h),?_⟩;rw[<-hW1];exact run_enterLoop_outer _ _ _ _ _;simp only[resolve,hev];simp[go_sem,yv];simp[invoke,go_sem,hit.1];let own_s:Own:=λi=>if i∈ids then(own i).map (λhd=>{ hd with bs:=[]})else own i
  let F1:Nat->Prop:=λb=>F b\/b=w.heap.size\/b=w.heap.size+1\/∃ i hd,i∈ids/\own i=some hd/\b∈hd.bs
  have hs1:∀ i hd,own_s i=some hd->∃ hd0,own i=some hd0/\hd0.like hd/\∀ b∈hd.bs,i ∉ ids/\hd=hd0:=λi hd e=>by
   by_cases hi:i∈ids
   simp only[own_s,if_pos hi,amX]at e;obtain⟨hd0,Y,rfl⟩:=e;exact⟨hd0,Y,⟨rfl,rfl,rfl⟩,λb hb=>by cases hb⟩;simp only[own_s,if_neg hi]at e;exact⟨hd,e,.refl _,λb _=>⟨hi,rfl⟩⟩
  have hs2:∀ i hd,own i=some hd->∃ hd',own_s i=some hd'/\hd.like hd':=λi hd e=>by
   grind
  have hcar1:apz F own w F1 own_s W:=⟨hs2,λb hb hn=>⟨by
   rintro ((hf|hf|hf| ⟨i,hd,_,e,O⟩) | ⟨i,hd,e,O⟩);exact hn (.inl hf);omega;omega;exact hn (.inr ⟨i,hd,e,O⟩);obtain⟨hd0,e0,_,Y⟩:=hs1 i hd e;obtain⟨_,rfl⟩:=Y b O;exact hn (.inr ⟨i,hd,e0,O⟩),hold b hb⟩⟩
  have hp1:Hp F1 own_s W (sI ids st.h):=by
   refine⟨λi hd e=>?_,λb hb=>?_,λi hd b e O hb=>?_,λi j hi hj b Y e2 h1 h2=>?_,λi hd b e O=>?_,λi U=>?_⟩;obtain⟨hd0,e0,_⟩:=hs1 i hd e;exact alT (V.hp.dom i hd0 e0) (zd _ _);rcases hb with hf|hf|hf| ⟨i,hd,_,e,O⟩;have:=V.hp.ao1 b hf;omega;omega;omega;have:=V.hp.lt i hd b e O;omega;obtain⟨hd0,e0,_,Y⟩:=hs1 i hd e;obtain⟨hni,rfl⟩:=Y b O;have hlt:=V.hp.lt i hd b e0 O;rcases hb with hf|hf|hf| ⟨i2,X,h1,h2,h3⟩;exact V.hp.apart i hd b e0 O hf;omega;omega;exact hni (V.hp.inj i i2 hd X b e0 h2 O h3▸h1);obtain⟨hd1,k1,_,k2⟩:=hs1 i hi Y;obtain⟨X,k3,_,k4⟩:=hs1 j hj e2;obtain⟨_,rfl⟩:=k2 b h1;obtain⟨_,rfl⟩:=k4 b h2;exact V.hp.inj i j hi hj b k1 k3 h1 h2;obtain⟨hd0,e0,_,Y⟩:=hs1 i hd e;obtain⟨_,rfl⟩:=Y b O;have:=V.hp.lt i hd b e0 O;omega;rw[IN st.h i ids st.h]at U |-;by_cases hi:i∈ids
   rw[if_pos hi]at U;cases U;rw[if_neg hi]at U |-;obtain⟨hd,Y,e2⟩:=V.hp.obs i U;exact⟨hd,by grind,e2.carry hcar1 (by omega) λb O=>hold b (V.hp.lt i hd b Y O)⟩
  obtain⟨q1,q2,q3,q4⟩:=O8 hsub0 hp1 hle0;change Hp F1 (iL js (Hx x0) own_s) W (Hx x0)at q1;generalize hown0:iL js (Hx x0) own_s=own_0 at q1 q2 q3 q4;have h0s:∀ i hd b,own_0 i=some hd->b∈hd.bs->∃ j,j ∉ ids/\own j=some hd:=λi hd b e O=>by
   rw[<-hown0]at e;obtain⟨_,j,hd0,_,e2,_,e4⟩:=ji e;grind
  have hslot1:∀ t,Rel F1 own_0 W (lk t T) (a.tmps.getD t undef):=λt=>by
   rcases DP t _ hsub0.2.1 with e| ⟨Y,e2⟩;rw[e];exact .any _;have h1:=(V.slots t).carry hcar1;grind
  let bs0:List Nat:=(w.heap.size+1)::YE own_0 (Hx x0).length
  have hbs0:∀ b,b∈bs0↔b=w.heap.size+1\/∃ i hd,own_0 i=some hd/\b∈hd.bs:=λb=>by
   show b∈_::_↔_;rw[alV,E8 q1.dom]
  let Ff:Nat->Prop:=λb=>F b\/b=w.heap.size
  let own_f:Own:=λi=>match i with|0=>some ⟨none,yv,[],bs0⟩ |i+1=>(ids[i]?).bind own
  have hf1:∀ i hd,own_f (i+1)=some hd->∃ j,ids[i]? =some j/\own j=some hd:=λi hd e=>by
   grind
  have hffo:∀ b,cH Ff own_f b->(F b\/b=w.heap.size\/b=w.heap.size+1)\/∃ i hd,own i=some hd/\b∈hd.bs:=by
   rintro b ((hf|hf) | ⟨i,hd,e,O⟩) <;>grind
  let Fs:Nat->Prop:=λb=>F b\/b=w.heap.size\/b=w.heap.size+1
  have hcar0:apz F own w Fs own W:=⟨λ_ hd e=>⟨hd,e,.refl _⟩,λb hb hn=>⟨by
   rintro ((hf|hf|hf) |ho);exact hn (.inl hf);omega;omega;exact hn (.inr ho),hold b hb⟩⟩
  have hrn:Rn (Pe ids) own own_f:=⟨λi j hd O e=>by
   unfold Pe at O;rw[amX]at O;obtain⟨k,hk,rfl⟩:=O;refine⟨hd,?_,.refl _⟩;show(ids[k]?).bind own=some hd;rw[pz ids i k hk];exact e⟩
  have hsh:∀ b,¬cH Fs own b->¬cH Ff own_f b:=λb hn ho=>hn (hffo b ho);let F':Nat->Prop:=λb=>cH Ff own_f b/\b ∉ bs0
  have hF'1:∀ b,Fw F' rc.l W b->F1 b:=by
   rintro b (⟨⟨ho,hn⟩,_⟩ |hb);rcases ho with(hf|hf) | ⟨i,hd,e,O⟩ <;>grind;grind
  have hcarP:apz F1 own_0 W (Fw F' rc.l W) own_0 W:=⟨λ_ hd e=>⟨hd,e,.refl _⟩,λb _ hn=>⟨λho=>hn (ho.imp (hF'1 b) (λe=>e)),rfl⟩⟩;have hpk:Pack rc T own st.h.length (Hx x0) (rc.obj .ready none) own_0 F' bs0 W:=by
   refine⟨⟨q1.dom,λb hb=>q1.ao1 b (hF'1 b hb),λi hd b e O hb=>q1.apart i hd b e O (hF'1 b hb),q1.inj,q1.lt,λi U=>?_⟩,λt=>(hslot1 t).carry hcarP,hbs0,λi hd e=>?_,λhf=>hf.2 ((hbs0 _).2 (.inl rfl)),hl1,hle0⟩;obtain⟨hd,Y,e2⟩:=q1.obs i U;exact⟨hd,Y,e2.carry hcarP (alJ _) λ_ _=>rfl⟩;obtain⟨hd1,k1,l1⟩:=hs2 i hd e;obtain⟨X,k2,l2⟩:=q4 i hd1 (V.hp.dom i hd e) k1;exact⟨X,k2,l1.trans l2⟩
  have hpf:Hp Ff own_f W (.ab (itR rc T own st.h.length Hx I S 1)::Mx ids st.h):=by
   refine⟨λi hd e=>?_,λb hb=>?_,λi hd b e O hb=>?_,λi j hi hj b Y e2 h1 h2=>?_,λi hd b e O=>?_,λi U=>?_⟩;grind [Mx]
   rcases hb with hf|hf;have:=V.hp.ao1 b hf;omega;omega;have hnot:∀ i hd,own i=some hd->b∈hd.bs->False:=λi hd e O=>by
    rcases hb with hf|hf;exact V.hp.apart i hd b e O hf;have:=V.hp.lt i hd b e O;omega
   cases i with
   |zero=>
    cases e;rcases(hbs0 b).1 O with h| ⟨i,hd,e,O⟩;rcases hb with hf|hf;have:=V.hp.ao1 b hf;omega;omega;grind
   |succ i=>grind
   have hmix:∀ i hd,own_f (i+1)=some hd->b∈hd.bs->b∈bs0->False:=λi hd e O h0=>by
    obtain⟨j,k1,k2⟩:=hf1 i hd e;rcases(hbs0 b).1 h0 with h| ⟨i2,X,e2,hm2⟩;have:=V.hp.lt j hd b k2 O;omega;obtain⟨j2,k3,k4⟩:=h0s i2 X b e2 hm2;exact k3 (V.hp.inj j2 j X hd b k4 k2 hm2 O▸alU k1)
   cases i with
   |zero=>
    grind
   |succ i=>
    cases j with
    |zero=>grind
    |succ j=>
     obtain⟨k,k1,k2⟩:=hf1 i hi Y;obtain⟨k',k3,k4⟩:=hf1 j hj e2;have:=V.hp.inj k k' hi hj b k2 k4 h1 h2;grind [sd]
   rcases hffo b (.inr ⟨i,hd,e,O⟩)with(h|h|h) | ⟨j,X,k,hm2⟩;have:=V.hp.ao1 b h;omega;omega;omega;have:=V.hp.lt j X b k hm2;omega;cases i with
   |zero=>exact⟨_,rfl,rfl,x0,own_0,hI0,hpk⟩
   |succ i=>
    have hob:ap (.ab (itR rc T own st.h.length Hx I S 1)::Mx ids st.h) (i+1)=ap (Mx ids st.h) i:=rfl;rw[hob]at U |-;rw[tL]at U |-;unfold Mx at U |-;rw[amB]at U |-;cases hi:ids[i]? with
    |none=>grind [dx]
    |some j=>
     rw[hi]at U;simp only[am2,anZ]at U |-;rw[vo]at U;obtain⟨hd,Y,e2⟩:=V.hp.obs j U;refine⟨hd,by grind,?_⟩;have e3:apF Fs own W hd (ap st.h j):=e2.carry hcar0 (by omega) λb O=>hold b (V.hp.lt j hd b Y O);refine EM hrn hsh (λb _ ho=>?_) e3;grind
  have hvs:apx Ff own_f W (.os 0::caps.map (ren (Pe ids) 3)) (#[yv]++lb):=by
   refine⟨by grind,λj s hj=>?_⟩;cases j with
   |zero=>
    simp at hj;subst hj;have:(#[yv]++lb).getD 0 undef=yv:=by simp only[al_];rw[al6 (by simp)];rfl
    rw[this];exact Rel.os (hd:=⟨none,yv,[],bs0⟩) rfl rfl
   |succ j=>
    simp only[anR]at hj;obtain⟨s0,k1,rfl⟩:=k9 hj;have:(#[yv]++lb).getD (j+1) undef=lb.getD j undef:=by
     simp only[al_];rw[am4 (by simp)];simp
    rw[this];exact DM hrn hsh 3 s0 _ ((e4 j s0 k1).carry hcar0)
  refine CallsIn.mono (mT (hit.2 (itR rc T own st.h.length Hx I S) (λk=>(aal k).1) (acd O hts hG V.size (λi hd e=>V.hp.dom i hd e) hpn hpN hca hcb aqP) Ff own_f W _ hpf hvs)) ?_;rintro e w3 ⟨u,bn,j,h',rfl,hj,hp3,fr3⟩;obtain⟨hd0,e0,hv0,hR⟩:=hp3.obs 0 rfl;have hl3:∀ {y E o},Pack rc T own st.h.length (Hx y) o E (λb=>cH Ff bn b/\b ∉ hd0.bs) hd0.bs w3->w3.heap[w.heap.size+1]? =some o:=λpk=>pk.rcd;have fin:∀ y E s p,Pack rc T own st.h.length (Hx y) (rc.obj s p) E (λb=>cH Ff bn b/\b ∉ hd0.bs) hd0.bs w3->
    W2 Fs w0 N E ⟨T,Hx y⟩ { a with defers:=[{ target:=.collected w.heap.size,args:= #[]}]++a.defers} (w3.putObj (w.heap.size+1) (rc.obj .exhausted p)):=by
   intro y E s p pk;have hsz3:=fr3.size;have hsz3':W.heap.size<=w3.heap.size:=hsz3;have hl3s:w.heap.size+1<w3.heap.size:=by omega
   have hoth:∀ c,c≠w.heap.size+1->(w3.putObj (w.heap.size+1) (rc.obj .exhausted p)).heap[c]? =w3.heap[c]?:=λc hc=>World.putObj_heap_other hc;have hownE:∀ i hd b,E i=some hd->b∈hd.bs->b∈hd0.bs/\b≠w.heap.size+1:=λi hd b e O=>⟨(pk.bs b).2 (.inr ⟨i,hd,e,O⟩),λe'=>pk.hp.apart i hd b e O (.inr e')⟩;have hnF:∀ b,b∈hd0.bs->¬Ff b:=λb hb hf=>hp3.apart 0 hd0 b e0 hb hf;have hFsFw:∀ b,Fs b->Fw (λb=>cH Ff bn b/\b ∉ hd0.bs) rc.l w3 b:=λb hb=>by
    rcases hb with hf|hf|hf;exact .inl ⟨⟨.inl (.inl hf),λO=>hnF b O (.inl hf)⟩,hp3.ao1 b (.inl hf)⟩;exact .inl ⟨⟨.inl (.inr hf),λO=>hnF b O (.inr hf)⟩,hp3.ao1 b (.inr hf)⟩;exact .inr hf
   have hcarE:apz (Fw (λb=>cH Ff bn b/\b ∉ hd0.bs) rc.l w3) E w3 Fs E (w3.putObj (w.heap.size+1) (rc.obj .exhausted p)):=⟨λ_ hd e=>⟨hd,e,.refl _⟩,λb _ hn=>⟨λho=>hn (ho.imp (hFsFw b) (λe=>e)),hoth b λe=>hn (.inl (.inr e))⟩⟩;have hkeep:∀ b,b<w.heap.size->(¬ ∃ i hd,own i=some hd/\b∈hd.bs)->w3.heap[b]? =w.heap[b]?:=λb hb hn=>by
    rw[fr3.block b ⟨by show b<W.heap.size;omega,λ⟨i,hd,e,O⟩ =>?_⟩];exact hold b hb;cases i with
    |zero=>
     cases e;rcases(hbs0 b).1 O with h| ⟨i,hd,e,O⟩;omega;obtain⟨j,_,k⟩:=h0s i hd b e O;exact hn ⟨j,hd,k,O⟩
    |succ i=>obtain⟨j,_,k⟩:=hf1 i hd e;exact hn ⟨j,hd,k,O⟩
   have hD3:w3.heap[w.heap.size]? =some (.deferred (some [])):=by
    rw[fr3.block w.heap.size ⟨by show w.heap.size<W.heap.size;omega,λ⟨i,hd,e,O⟩ =>hpf.apart i hd _ e O (.inr rfl)⟩];exact hD1
   refine⟨V.size,?_,⟨pk.hp.dom,λb hb=>?_,λi hd b e O hb=>pk.hp.apart i hd b e O (hFsFw b hb),pk.hp.inj,λi hd b e O=>by have:=pk.hp.lt i hd b e O;simpa using this,λi U=>?_⟩,V.fr.trans ⟨pk.ids,λi hd b e O ho=>?_,fr3.os.trans (by rw[<-hW1];rfl),fr3.tape.trans (by rw[<-hW1];rfl),fr3.output.trans (by rw[<-hW1];rfl),by simp;omega,λb hb=>?_⟩,λt=>(pk.slots t).carry hcarE⟩;obtain⟨ms,Ds,k0,k1,k2,k3⟩:=V.defers;refine⟨{ target:=.collected w.heap.size,args:= #[]}::ms,w.heap.size::Ds,by simp[k0],by simp[k1],ami.2 ⟨λO=>?_,k2⟩,λD hD=>?_⟩;have:=rL (k3 _ O).2.2;omega;rcases alV.1 hD with rfl|hD;exact⟨V.fr.size,.inr (.inl rfl),by rw[hoth _ (by omega)];exact hD3⟩;obtain⟨m1,m2,m3⟩:=k3 D hD;have hlt:=rL m3;exact⟨m1,.inl m2,by rw[hoth _ (by omega),hkeep D hlt λ⟨i,hd,e,O⟩ =>V.hp.apart i hd D e O m2];exact m3⟩;have:=pk.hp.ao1 b (hFsFw b hb);simpa using this;obtain⟨hd,Y,e2⟩:=pk.hp.obs i U;exact⟨hd,Y,e2.carry hcarE (by simp) λb O=>hoth b (hownE i hd b Y O).2⟩;have h1:=fr3.base 0 hd0 b e0 (hownE i hd b e O).1;refine h1 ⟨by show b<W.heap.size;have:=ho.1;change b<w.heap.size at this;omega,λ⟨i2,X,e2,hm2⟩ =>?_⟩;cases i2 with
   |zero=>
    cases e2;rcases(hbs0 b).1 hm2 with h| ⟨i3,hd3,e3,hm3⟩;exact(hownE i hd b e O).2 h;obtain⟨j,_,k⟩:=h0s i3 hd3 b e3 hm3;exact ho.2 ⟨j,hd3,k,hm3⟩
   |succ i2=>obtain⟨j,_,k⟩:=hf1 i2 X e2;exact ho.2 ⟨j,X,k,hm2⟩
   have hblt:b<w.heap.size:=hb.1;rw[hoth b (by omega)];exact hkeep b hblt hb.2
  have fin2:∀ y E s p ex,Pack rc T own st.h.length (Hx y) (rc.obj s p) E (λb=>cH Ff bn b/\b ∉ hd0.bs) hd0.bs w3->YF lc st.h.length ex ⟨T,Hx y⟩->
    ∃ F3 arn st3,(∀ b,F b->F3 b)/\W2 F3 w0 N arn st3 { a with defers:=[{ target:=.collected w.heap.size,args:= #[]}]++a.defers} (w3.putObj (w.heap.size+1) (rc.obj .exhausted p))/\∃ r,lc.post r/\ex=lc.ex r/\st3=lc.out r:=by
   rintro y E s p ex pk ⟨r,js2,m1,m2,m3,m4⟩;exact⟨Fs,_,_,λb hb=>.inl hb,(fin y E s p pk).sub m4 V.aqc m3,r,m1,m2.symm,rfl⟩
  rcases hj with rfl|rfl;obtain⟨ex,y,E,hS,hjm,pk⟩:=hR;refine⟨Pd ex,_,run_endLoop (P:=P) (hl3 pk) (by simp[aqN.obj]),?_⟩;cases ex with
  |normal=>cases hjm|pan x=>cases hjm|ret=>exact wpIn_ret (fin2 y E _ _ .ret pk (hRet y hS))
  |exit jj=>
   refine wpIn_exit ?_;have h2:=fin2 y E _ _ _ pk (hEx jj y hS);show if jj=id then _ else _;by_cases hjj:jj=id
   rw[if_pos hjj]at h2 |-;exact h2;rw[if_neg hjj]at h2 |-;exact h2
  obtain⟨y,E,hIy,pk⟩:=hR;exact⟨none,_,run_endLoop (P:=P) (hl3 pk) (by simp[aqN.obj]),fin2 y E _ _ .normal pk (hN y hIy)⟩
end
def okI {ρ σ:Type}(step:Nat->σ->ρ⊕σ)(p:Nat->σ->Prop):Nat->Nat->σ->Prop
 |0,_,_=>True|n+1,i,s=>p i s/\∀ s',step i s=.inr s'->okI step p n (i+1) s'
def gX {ρ σ:Type}{step:Nat->σ->ρ⊕σ}{p:Nat->σ->Prop}:∀ (n i:Nat) (s:σ),(∀ j s,i<=j->j<i+n->p j s)->okI step p n i s
 |0,_,_,_=>trivial
 |n+1,i,s,h=>⟨h i s (alJ _) (by omega),λs' _=>gX n (i+1) s' λj s h1 h2=>h j s (by omega) (by omega)⟩
def jk {ρ σ:Type}{step:Nat->σ->ρ⊕σ}{p:Nat->σ->Prop}(J:Nat->σ->Prop):∀ (n i:Nat) (s:σ),J i s->(∀ j s,i<=j->j<i+n->J j s->p j s/\∀ s',step j s=.inr s'->J (j+1) s')->okI step p n i s
 |0,_,_,_,_=>trivial
 |n+1,i,s,h0,h=>⟨(h i s (alJ _) (by omega) h0).1,λs' E=>jk J n (i+1) s' ((h i s (alJ _) (by omega) h0).2 s' E) λj s h1 h2=>h j s (by omega) (by omega)⟩
def sJ {ρ σ:Type}{step:Nat->σ->ρ⊕σ}(J:Nat->σ->Prop):∀ (n i:Nat) (s:σ),J i s->(∀ j s,i<=j->j<i+n->J j s->∀ s',step j s=.inr s'->J (j+1) s')->∀ r,aj step n i s=.inr r->J (i+n) r
 |0,i,s,h0,_,r,hr=>by grind [aj]
 |n+1,i,s,h0,h,r,hr=>by
  simp only[aj]at hr;cases E:step i s with
  |inl x=>grind
  |inr s'=>
   rw[E]at hr;have:=sJ J n (i+1) s' (h i s (alJ _) (by omega) h0 s' E) (λj s h1 h2=>h j s (by omega) (by omega)) r hr;grind
section
variable {P:Program}{ρ σ:Type}
def QX (D:Nat->σ->St)(js:List Nat)(n0 k:Nat)(st:St):ρ⊕σ->Prop
 | .inl _=>False| .inr s'=>n0<=(D (k+1) s').h.length/\Sub js n0 st (D (k+1) s')
def exQ (exE:ρ->Ex)(P1:ρ->St)(js:List Nat)(n0:Nat)(e:Ex)(st:St):ρ⊕σ->Prop
 | .inl x=>exE x=e/\n0<=(P1 x).h.length/\Sub js n0 st (P1 x)| .inr _=>False
def cQ (step:Nat->σ->ρ⊕σ)(n:Nat)(exE:ρ->Ex)(P1:ρ->St)(ao_:σ->St)(D:Nat->σ->St)(js:List Nat)(n0 id k:Nat)(s:σ):Ex->St->Prop
 | .normal,st=>k<n/\QX D js n0 k st (step k s)| .exit j,st=>bif Nat.beq j id then(n<=k->n0<=(ao_ s).h.length/\Sub js n0 st (ao_ s))/\(k<n->exQ exE P1 js n0 .normal st (step k s))else k<n/\exQ exE P1 js n0 (.exit j) st (step k s)| .ret,st=>k<n/\exQ exE P1 js n0 .ret st (step k s)| .pan x,st=>k<n/\exQ exE P1 js n0 (.pan x) st (step k s)
variable {step:Nat->σ->ρ⊕σ}{n n0 id k j:Nat}{exE:ρ->Ex}{P1:ρ->St}{ao_:σ->St}{D:Nat->σ->St}{js:List Nat}{s s':σ}{st:St}{x:Value}{e:Ex}{y:ρ}
@[go_sem] def afc:= @QX.eq_2
@[go_sem] def ajL:= @exQ.eq_1
@[go_sem] def afd:= @cQ.eq_1
@[go_sem] def ajM:= @cQ.eq_2
@[go_sem] def akw:= @cQ.eq_3
@[go_sem] def akx:= @cQ.eq_4
variable {r r':ρ⊕σ}
@[congr] theorem aam(h:r=r'):QX D js n0 k st r=QX D js n0 k st r':=by rw[h]
@[congr] theorem afe(h:r=r'):exQ exE P1 js n0 e st r=exQ exE P1 js n0 e st r':=by rw[h]
@[congr] theorem ag9 {st st':St}{e e':Ex}(h:st=st')(he:e=e'):cQ step n exE P1 ao_ D js n0 id k s e st=cQ step n exE P1 ao_ D js n0 id k s e' st':=by rw[h,he]
theorem IP {ts:Tis}{G:Cons}{ro:Option Nat}{N:Nat}(hm:P.follows .mixedOrders=true)(hts:ts.ok P)(hG:X2 P G){id:Nat}{c:Code}(hc:cP N c=true){C:St->Option apN}
  (h:∀ st lc,C st=some lc->lc.pre->∃ (ρ σ:Type) (pre:Prop) (step:Nat->σ->ρ⊕σ) (p:Nat->σ->Prop) (n:Nat) (s0:σ) (exE:ρ->Ex) (P1:ρ->St) (ao_:σ->St) (D:Nat->σ->St) (js:List Nat),
   lc=LC pre (aj step n 0 s0) exE P1 ao_/\okI step p n 0 s0/\st.h.length<=(D 0 s0).h.length/\Sub js st.h.length st (D 0 s0)/\
   ∀ k s,k<=n->(k<n->p k s)->∃ L,ak P ro N L c/\exec ts G L c (D k s) (cQ step n exE P1 ao_ D js st.h.length id k s)):kV P ro N id (.loop c) C:=by
 refine wV hm hts hG hc λst lc hC hp=>?_;obtain⟨ρ,σ,pre,step,p,n,s0,exE,P1,ao_,D,js,rfl,h1,h2,h3,h4⟩:=h st lc hC hp;refine⟨Nat×σ,λx=>D x.1 x.2,λx=>x.1<=n/\okI step p (n - x.1) x.1 x.2/\aj step (n - x.1) x.1 x.2=aj step n 0 s0,λx=>n - x.1,(0,s0),js,⟨ame _,by omega,by simp⟩,h2,h3,?_⟩;rintro⟨k,s⟩ ⟨hk,Y,E⟩;simp only at hk Y E;obtain⟨L,hl,hex⟩:=h4 k s hk (λhlt=>by
  rw[show n - k=(n - k - 1)+1 by omega]at Y;exact Y.1)
 refine⟨L,_,hl,?_,hex⟩;have O:∀ e st',k<n->exQ exE P1 js st.h.length e st' (step k s)->∃ r js,(LC pre (aj step n 0 s0) exE P1 ao_).post r/\(LC pre (aj step n 0 s0) exE P1 ao_).ex r=e/\st.h.length<=((LC pre (aj step n 0 s0) exE P1 ao_).out r).h.length/\Sub js st.h.length st' ((LC pre (aj step n 0 s0) exE P1 ao_).out r):=by
  intro e st' hlt q;cases U:step k s with
  |inr s'=>rw[U]at q;exact q.elim
  |inl x=>
   rw[U]at q;obtain⟨W,q3,q4⟩:=q;rw[show n - k=(n - k - 1)+1 by omega]at E;simp only[aj,U]at E;exact⟨.inl x,js,E,W,q3,q4⟩
 intro e st' X;cases e with
 |normal=>
  obtain⟨q1,W⟩:=X;cases U:step k s with
  |inl x=>rw[U]at W;exact W.elim
  |inr s'=>
   rw[U]at W;rw[show n - k=(n - (k+1))+1 by omega]at E Y;simp only[aj,U]at E;exact⟨(k+1,s'),js,⟨q1,Y.2 s' U,E⟩,by grind,W.1,W.2⟩
 |exit j=>
  have V:(bif Nat.beq j id then(n<=k->st.h.length<=(ao_ s).h.length/\Sub js st.h.length st' (ao_ s))/\(k<n->exQ exE P1 js st.h.length .normal st' (step k s))else k<n/\exQ exE P1 js st.h.length (.exit j) st' (step k s)):=X;show bif Nat.beq j id then _ else _;cases hb:Nat.beq j id with
  |true=>
   rw[hb]at V;simp only[cond_true]at V |-;by_cases hlt:k<n
   grind
   obtain⟨q3,q4⟩:=V.1 (by omega);have hkn:k=n:=by omega
   subst hkn;simp only[anI,aj]at E;exact⟨.inr s,js,E,rfl,q3,q4⟩
  |false=>grind
 |ret=>exact O _ _ X.1 X.2|pan x=>exact O _ _ X.1 X.2
end
def ci {ρ σ:Type}[Inhabited σ]:ρ⊕σ->σ| .inr s=>s| .inl _=>default
def d8 {ρ σ:Type}[Inhabited ρ]:ρ⊕σ->ρ| .inl s=>s| .inr _=>default
def UZ {ρ σ:Type}[Inhabited σ]{s:σ}:ci (ρ:=ρ) (.inr s)=s:=(rfl)
def U0 {ρ σ:Type}[Inhabited ρ]{s:ρ}:d8 (σ:=σ) (.inl s)=s:=(rfl)
attribute[go_sem]UZ U0
def QY {k:Nat}{n:Int}(h:k<n.toNat)(E:n<9223372036854775808):i64.wrap ((k:Int)+1)=((k+1:Nat):Int):=by
 grind [aA]
def wX (pks:List Pk):SV->SV
 | .tup l=>.tup (yX pks l)
 |s=>match pks with| [p] =>A7 p s|_=>s
section
variable {F:Nat->Prop}{own:Own}{w:World}
theorem Mz {pks:List Pk}{s:SV}{v:Value}(h:Rel F own w s v):Rel F own w (wX pks s) v:=by
 unfold wX;split
 cases h with
 |tup U h1=>
  refine .tup (by rw[E5];exact U) λj s V=>?_;obtain⟨s0,O,E| ⟨p,E⟩⟩:=E6 _ _ _ _ V;subst E;exact h1 j _ O;subst E;exact E4 (h1 j _ O)
 split
 exact E4 h;exact h
@[go_sem] def ag_:= @wX.eq_1
variable {p:Pk}
def aha{l:List SV}:wX [p] (.agg l)=A7 p (.agg l):=(rfl)
def aky{x:Value}:wX [p] (.v x)=A7 p (.v x):=(rfl)
def ajN{k:Tag}{l:List k.T}:wX [p] (.rs k l)=A7 p (.rs k l):=(rfl)
def ajO{k k2:Tag}{l:List (k.T×k2.T)}:wX [p] (.rm k k2 l)=A7 p (.rm k k2 l):=(rfl)
def ajP:wX [p] .e0=A7 p .e0:=(rfl)
attribute[go_sem]aha aky ajN ajO ajP
end
section
variable {P:Program}{ts:Tis}{G:Cons}
theorem Bq (pks:List Pk) (hm:P.follows .mixedOrders=true) (hts:ts.ok P) (hG:X2 P G) {f:FuncId} {fn:Func} {c:Code} (hf:P.funcs[f]? =some fn) (hb:fn.body=some c) (X:(fn.name== "runtime.NumGoroutine")=false)
  (hc:cP fn.ntmps c=true) {C:List SV->Option Con}
  (h:∀ l O,C l=some O->an O->l.length<=fn.ntmps/\∃ L,ak P none fn.ntmps L c/\exec ts G L c ⟨nY 0 l,[]⟩ (Ep false fn.results.toList ts (λs=>dL O (wX pks s)) (ke O))):zs P f C:=by
 refine⟨λl O _ args w=>?_,λl O Y hpre F w vs hF hvs=>?_⟩;have hn:¬fn.name= "runtime.NumGoroutine":=by simpa using X
 simp[callFunc,hf,hn,hb];obtain⟨hlen,L,hl,hx⟩:=h l O Y hpre;refine sF (n:=0) (callsIn_of_wp_marks hf hb trivial ?_);have hr:W2 F { w:=w,own:=dv} fn.ntmps dv ⟨nY 0 l,[]⟩ { tmps:=vs++Array.replicate (fn.ntmps - vs.size) undef,defers:=[]} w:=
  ⟨by have:=hvs.1;simp;omega,Dfr.nil,Ae hF,Fr.refl _,λt=>qM hvs _ t⟩
 refine wpIn_mono (rO hm hts hG c hc hl F _ _ hx dv _ w hr) ?_;intro e a' w' hq;have key:∀ W own st,(∀ b,F b->W b)->W2 W { w:=w,own:=dv} fn.ntmps own st a' w'->iK (λs=>dL O (wX pks s)) (Em false fn.results.toList ts st)->LeavesInM (rd none) 0 P fn a'.tmps
   (λe w'=>(∃ s u bn,dL O s/\e=.returned u/\Handed F w bn w' s u/\Below w.heap.size w w')\/(∃ x,ke O x/\e=.panicked [{ v:=x,recovered:=false}]/\Below w.heap.size w w')) a'.defers .returning w':=by
  intro W own st hF1 hst E;refine mU hst (by simp) λw2 V=>?_;have U:=V.less hF1 rfl;simp only[Em,cond_false,El]at E;cases hs:rj (pi ts st fn.results.toList)with
  |none=>rw[hs]at E;exact E.elim
  |some s=>
   obtain⟨u,e1,e2⟩:=Ad (P:=P) hts U hs;refine⟨u,e1,.inl ?_⟩;rw[hs]at E;exact⟨_,u,dv,E,rfl,wU U.hp.ao1 (Mz (xL U.hp 4 s u e2)),qL U.fr⟩
 cases e with
 |normal=>obtain⟨W,own,st,h0,h1,h2⟩:=hq;exact key W own st h0 h1 h2
 |ret=>obtain⟨W,own,st,h0,h1,h2⟩:=hq;exact key W own st h0 h1 h2
 |exit id=>obtain⟨W,own,st,h0,h1,h2⟩:=hq;exact h2.elim
 |panic ch=>
  obtain⟨x,W,own,st,h0,h1,h2,rfl⟩:=hq;exact mU h1 (by simp) λw2 V=>.inr ⟨x,h2,rfl,qL V.fr⟩
 |_=>exact hq.elim
end
def zf {o:Ob}(E:Qv o=false):∀ (h:List Ob) (i:Nat),nP h=false->nP (cm h i o)=false
 | [],0,_=>by simp[cm,nP,E]
 | [],n+1,_=>by simp[cm,nP,Qv,zf E [] n rfl]
 |a::r,0,h=>by grind [nP,cm]
 |a::r,n+1,h=>by simp only[nP,amf]at h;simp[cm,nP,h.1,zf E r n h.2]
def aan (P:Program)(g:FuncId)(C:Value->Option SV):Prop:=
 (∀ (args:Array Value) (w:World),(callFunc g args).run P w=.ok (.enter g args) w)/\
 (∀ (p:Addr) (w:World),CallsDIn (rd none) 0 P g #[.pointer (some p)] .returning w (λe u' w'=>(∃ v,e=.returned v)/\u'=.returning/\w'=w))/\
 ∀ (x:Value) (s:SV),C x=some s->∀ (F:Nat->Prop) (own:Own) (w:World) (h:List Ob) (id:Nat) (hd:Hd) (b:Nat) (y:SV),nP h=false->Hp F own w h->ap h id=.cells [y]->own id=some hd->hd.p=some b->
  CallsDIn (rd none) 0 P g #[.pointer (some ⟨b,0,none⟩)] (.panicking [{ v:=x,recovered:=false}]) w (λe u' w'=>(∃ v,e=.returned v)/\u'=.panicking [{ v:=x,recovered:=true}]/\∃ bn,Hp F bn w' (cm h id (.cells [s]))/\Fr { w:=w,own:=own} bn w')
section
variable {P:Program}{ts:Tis}{G:Cons}
theorem Kj {n:Nat}{g:FuncId}{i1 t3 q:Nat}{o1 o2:Oper}{tys:Array TypeId}{Q:Exit->Act->World->Prop}{a:Act}{w:World}{b:Nat}
  (ho1:o1.dst=some t3/\o1.op=.makeFunc (.func g) #[] #[.tmp q]/\o1.guard=none) (X:o2.dst=none/\o2.op=.defer ⟨.value (.tmp t3),#[],tys⟩/\o2.guard=none)
  (hq:a.tmps.getD q undef=.pointer (some ⟨b,0,none⟩)) (ht3:t3<a.tmps.size)
  (h:Q .normal { tmps:=a.tmps.setIfInBounds t3 (.func (.func g) #[] #[.pointer (some ⟨b,0,none⟩)]),defers:= { target:=.fn (.func g) #[.pointer (some ⟨b,0,none⟩)],args:= #[]}::a.defers} w):
  (Code.region i1 #[o1,o2] false).wpIn (rd none) n P Q a w:=by
 obtain⟨d1,p1,O,s1,V,g1⟩:=o1;obtain⟨d2,p2,t2,E,W,g2⟩:=o2;obtain⟨rfl,rfl,rfl⟩:=ho1;obtain⟨rfl,rfl,rfl⟩:=X;refine wpIn_region ?_;have U:(a.tmps.setIfInBounds t3 (.func (.func g) #[] #[.pointer (some ⟨b,0,none⟩)])).getD t3 undef=.func (.func g) #[] #[.pointer (some ⟨b,0,none⟩)]:=by
  simp_all
 have Y:List.range (#[(⟨some t3,.makeFunc (.func g) #[] #[.tmp q],O,s1,V,none⟩:Oper),(⟨none,.defer ⟨.value (.tmp t3),#[],tys⟩,t2,E,W,none⟩:Oper)]:Array Oper).size=[0,1]:=rfl;rw[Y];simp only[wpOpsIn,Oper.wpIn,Region.wanted];have e1:(#[(⟨some t3,.makeFunc (.func g) #[] #[.tmp q],O,s1,V,none⟩:Oper),(⟨none,.defer ⟨.value (.tmp t3),#[],tys⟩,t2,E,W,none⟩:Oper)]:Array Oper)[0]? =some ⟨some t3,.makeFunc (.func g) #[] #[.tmp q],O,s1,V,none⟩:=rfl;have e2:(#[(⟨some t3,.makeFunc (.func g) #[] #[.tmp q],O,s1,V,none⟩:Oper),(⟨none,.defer ⟨.value (.tmp t3),#[],tys⟩,t2,E,W,none⟩:Oper)]:Array Oper)[1]? =some ⟨none,.defer ⟨.value (.tmp t3),#[],tys⟩,t2,E,W,none⟩:=rfl;rw[e1,e2];simp only[if_true];refine⟨λ_ _=>trivial,?_⟩;have r1:((⟨some t3,.makeFunc (.func g) #[] #[.tmp q],O,s1,V,none⟩:Oper).semAt (rd none).round a.eval).run P w=.ok (.value (.func (.func g) #[] #[.pointer (some ⟨b,0,none⟩)])) w:=by
  simp[Oper.semAt,execOp,go_sem,Act.eval,hq];try rfl
 rw[r1];simp only[Oper.uponIn_value];refine⟨λ_ _=>trivial,?_⟩;have r2:((⟨none,.defer ⟨.value (.tmp t3),#[],tys⟩,t2,E,W,none⟩:Oper).semAt (rd none).round (a.put (some t3) (.func (.func g) #[] #[.pointer (some ⟨b,0,none⟩)])).eval).run P w=.ok (.defer { target:=.fn (.func g) #[.pointer (some ⟨b,0,none⟩)],args:= #[]}) w:=by
  simp[Oper.semAt,execOp,go_sem,Act.eval,Act.put,U];try rfl
 rw[r2];simp only[Oper.uponIn_defer];exact h
theorem Pf {F:Nat->Prop}{w0:Bs}{ro:Option Nat}{nd N:Nat}(hm:P.follows .mixedOrders=true)(W:ts.ok P)(hG:X2 P G){id:Nat}{ops:Array Oper}(hc:cP N (.region id ops false)=true){st:St}{Q:St->Prop}{L:vZ}(hx:exec ts G L (.region id ops false) st (λe st=>e=.normal/\Q st))
  {own:Own} {a:Act} {w:World} (hr:W2 F w0 N own st a w):(Code.region id ops false).wpIn (rd ro) nd P (λe a w=>e=.normal/\∃ own st,W2 F w0 N own st a w/\Q st) a w:=by
 have E:Ek (Cv ts G ops false st) (λe st=>e=.normal/\Q st) (L (id+2000000) st):=hx;have key:∀ Q:Ex->St->Prop,(∀ x st,¬Q (.pan x) st)->Cv ts G ops false st Q->(Code.region id ops false).wpIn (rd ro) nd P (λe a w=>e=.normal/\∃ own st,W2 F w0 N own st a w/\Q .normal st) a w:=by
  intro Q V E;simp only[cP,alG]at hc;obtain⟨h1,h2⟩:=hc;have U:=Uo h1;obtain⟨l⟩:=ops;have E:jh ts G l l st (λst'=>Q .normal (wJ l st')) (λx st'=>Q (.pan x) st'):=E;refine wpIn_region_list ?_;exact OT (K:=λst'=>Q .normal (wJ l st')) (Z:=λx st'=>Q (.pan x) st') W hG U (λx own st a w h1 h2=>(V x _ h2).elim) l 0 own st a w rfl (hr.start l λk Y=>by omega) E λown st a w hi Y=>⟨rfl,own,_,W2.finish hi,Y⟩
 cases O:L (id+2000000) st with
 |none=>
  rw[O]at E;refine wpIn_mono (key (λe st=>e=.normal/\Q st) (λx st h=>(by cases h.1)) E) λe a w ⟨h1,own,st,h2,X⟩ =>⟨h1,own,st,h2,X.2⟩
 |some lc=>
  rw[O]at E;refine wpIn_mono (key (afY lc λe st=>e=.normal/\Q st) (λx st h=>(by have h:Ex.pan x=.normal/\Q st:=h;cases h.1)) E.1) λe a w ⟨h1,own,st,h2,r,X,h4,h5⟩ =>⟨h1,own,_,h2.aqt h4 h5,(E.2 r X).2⟩
def SG:Ob->Prop
 | .cells [_] =>True|_=>False
theorem U3 {o:Ob}(h:SG o):∃ y,o=.cells [y]:=by
 unfold SG at h;grind
def ace (rs:List ResultVar)(ts:Tis)(post:SV->Prop)(id:Nat)(st:St):Option SV->Prop
 |some s=>SG (ap st.h id)/\nP st.h=false/\iK post (El rs ts ⟨st.t,cm st.h id (.cells [s])⟩)|none=>False
def YH (C:Value->Option SV)(rs:List ResultVar)(ts:Tis)(post:SV->Prop)(id:Nat):Ex->St->Prop
 | .exit _,_=>False| .normal,st=>iK post (El rs ts st)| .ret,st=>iK post (El rs ts st)| .pan x,st=>ace rs ts post id st (C x)
@[go_sem] def acf:= @SG.eq_1
@[go_sem] def aff:= @ace.eq_1
section
variable {C:Value->Option SV}{rs:List ResultVar}{ts:Tis}{post:SV->Prop}{id:Nat}{st:St}{x:Value}
@[go_sem] def aao:= @YH.eq_2
@[go_sem] def ahb:= @YH.eq_3
@[go_sem] def ahc:= @YH.eq_4
end
def SH:Code->Code| .seq a _=>a|c=>c
def Pg:Code->Code| .seq _ b=>b|c=>c
def ar2:Code->Nat| .region i _ _=>i|_=>0
def ahd (i:Nat):Code->Oper| .region _ ops _=>ops.getD i default|_=>default
theorem acg {g:FuncId}{RC:Value->Option SV}(aro:aan P g RC)(pks:List Pk)(hm:P.follows .mixedOrders=true)(hts:ts.ok P)(hG:X2 P G){f:FuncId}{fn:Func}{c0 c1:Code}{i1 t3 q:Nat}{o1 o2:Oper}{tys:Array TypeId}
  (hf:P.funcs[f]? =some fn) (hb:fn.body=some (.seq c0 (.seq (.region i1 #[o1,o2] false) c1))) (hname:(fn.name== "runtime.NumGoroutine")=false)
  (ho1:o1.dst=some t3/\o1.op=.makeFunc (.func g) #[] #[.tmp q]/\o1.guard=none) (ho2:o2.dst=none/\o2.op=.defer ⟨.value (.tmp t3),#[],tys⟩/\o2.guard=none) (ht3:t3<fn.ntmps)
  (hc0:cP fn.ntmps c0=true) (hc1:cP fn.ntmps c1=true) {C:List SV->Option Con}
  (h:∀ l V,C l=some V->an V->l.length<=fn.ntmps/\∃ L L' id,ak P none fn.ntmps L c0/\ak P none fn.ntmps L' c1/\exec ts G L c0 ⟨nY 0 l,[]⟩ (λe st=>e=.normal/\lk q st.t=.ptr id 0/\SG (ap st.h id)/\
   exec ts G L' c1 ⟨(t3,.any)::st.t,st.h⟩ (YH RC fn.results.toList ts (λs=>dL V (wX pks s)) id))):zs P f C:=by
 refine⟨λl V _ args w=>?_,λl V arp hpre F w vs hF hvs=>?_⟩;simp_all [callFunc]
 ·obtain⟨hlen,L,L',id,hl,hl',hx⟩:=h l V arp hpre;refine sF (n:=0) (callsIn_of_wp_marks hf hb trivial ?_);have hr:W2 F { w:=w,own:=dv} fn.ntmps dv ⟨nY 0 l,[]⟩ { tmps:=vs++Array.replicate (fn.ntmps - vs.size) undef,defers:=[]} w:=
   ⟨by have:=hvs.1;simp;omega,Dfr.nil,Ae hF,Fr.refl _,λt=>qM hvs _ t⟩
  refine wpIn_seq (wpIn_mono (rO hm hts hG c0 hc0 hl F _ _ hx dv _ w hr) ?_);intro e a1 w1 hq;cases e with
  |normal=>
   obtain⟨F1,own1,st1,hF1,W,_,hlk,_,hx1⟩:=hq;have hsq:=W.slots q;rw[hlk]at hsq;generalize hv:a1.tmps.getD q undef=pv at hsq;cases hsq with
   | @ptr _ _ b hd ho hp=>
   show(Code.seq (.region i1 #[o1,o2] false) c1).wpIn (rd none) 0 P _ a1 w1;have hsz:=W.size;refine wpIn_seq (Kj ho1 ho2 hv (by omega) ?_);show c1.wpIn (rd none) 0 P _ _ w1;obtain⟨ms,Ds,k0,k1,k2,k3⟩:=W.defers;have k0':a1.defers=ms:=by grind
   let d:Deferred:= { target:=.fn (.func g) #[.pointer (some ⟨b,0,none⟩)],args:= #[]}
   let B:Bs:= { w:=w1,own:=own1,ds:=d::a1.defers}
   have hr2:W2 F1 B fn.ntmps own1 ⟨(t3,.any)::st1.t,st1.h⟩ { tmps:=a1.tmps.setIfInBounds t3 (.func (.func g) #[] #[.pointer (some ⟨b,0,none⟩)]),defers:=d::a1.defers} w1:=by
    refine⟨by grind,Dfr.nil,W.hp,Fr.refl B,λt=>?_⟩;rw[px];by_cases ht:t3=t
    rw[if_pos ht];exact .any _;rw[if_neg ht];have:=W.slots t;simp_all
   have hbd:∀ D∈Ds,¬ ∃ id hd,own1 id=some hd/\D∈hd.bs:=λD hD ⟨i,hd,e,hm⟩ =>W.hp.apart i hd D e hm (k3 D hD).2.1;have fin:∀ Y A1 O (a2:Act) w2,(∀ b,F1 b->Y b)->W2 Y B fn.ntmps A1 O a2 w2->iK (λs=>dL V (wX pks s)) (El fn.results.toList ts O)->
     LeavesInM (rd none) 0 P fn a2.tmps (λe w'=>(∃ s u bn,dL V s/\e=.returned u/\Handed F w bn w' s u/\Below w.heap.size w w')\/(∃ x,ke V x/\e=.panicked [{ v:=x,recovered:=false}]/\Below w.heap.size w w')) a1.defers .returning w2:=by
    intro Y A1 O a2 w2 hF2 E U;have hB:W2 Y { w:=w,own:=dv} fn.ntmps A1 O { a2 with defers:=[]} w2:=⟨E.size,Dfr.nil,E.hp,W.fr.trans ⟨E.fr.ids,E.fr.base,E.fr.os,E.fr.tape,E.fr.output,E.fr.size,E.fr.block⟩,E.slots⟩;have hkeep:∀ D∈Ds,w2.heap[D]? =some (.deferred (some [])):=λD hD=>by
     rw[E.fr.block D ⟨rL (k3 D hD).2.2,hbd D hD⟩];grind
    rw[k0',<-al3 ms];refine Bp (by simp) Ds ms w2 k1 k2 hkeep λw4 hs=>?_;have hst4:=(hB.shut (Ds:=Ds) (λD hD=>⟨(k3 D hD).1,hF2 D (k3 D hD).2.1,hkeep D hD⟩) hs).less (λc hc=>hF2 c (hF1 c hc)) rfl;simp only[El]at U;cases hres:rj (pi ts O fn.results.toList)with
    |none=>rw[hres]at U;exact U.elim
    |some s=>
     obtain⟨u,e1,e2⟩:=Ad (P:=P) hts hst4 hres;rw[hres]at U;exact⟨u,e1,.inl ⟨_,u,dv,U,rfl,wU hst4.hp.ao1 (Mz (xL hst4.hp 4 s u e2)),qL hst4.fr⟩⟩
   have hinv:∀ w2:World,(invoke (.fn (.func g) #[.pointer (some ⟨b,0,none⟩)]) #[]).run P w2=.ok (.enter g #[.pointer (some ⟨b,0,none⟩)]) w2:=λw2=>by simp[invoke,go_sem,aro.1]
   refine wpIn_mono (rO hm hts hG c1 hc1 hl' F1 _ _ hx1 own1 _ w1 hr2) ?_;have idle:∀ (a':Act) (w':World) Y A1 O,(∀ b,F1 b->Y b)->W2 Y B fn.ntmps A1 O a' w'->iK (λs=>dL V (wX pks s)) (El fn.results.toList ts O)->
     LeavesInM (rd none) 0 P fn a'.tmps (λe w'=>(∃ s u bn,dL V s/\e=.returned u/\Handed F w bn w' s u/\Below w.heap.size w w')\/(∃ x,ke V x/\e=.panicked [{ v:=x,recovered:=false}]/\Below w.heap.size w w')) a'.defers .returning w':=by
    intro a' w' Y A1 O hF2 E U;refine mU E (by simp) λw2 X=>?_;refine⟨by simp,.inr ⟨λh=>(by cases h),.func g,#[.pointer (some ⟨b,0,none⟩)],g,#[.pointer (some ⟨b,0,none⟩)],rfl,hinv w2,λ_ _=>trivial,?_⟩⟩;refine(aro.2.1 ⟨b,0,none⟩ w2).mono ?_;rintro e u' w3 ⟨⟨v,rfl⟩,rfl,rfl⟩;exact fin Y A1 O { a' with defers:=B.ds} _ hF2 X U
   intro e a' w' hq;cases e with
   |normal=>obtain⟨Y,A1,O,h0,h1,h2⟩:=hq;exact idle a' w' Y A1 O h0 h1 h2
   |ret=>obtain⟨Y,A1,O,h0,h1,h2⟩:=hq;exact idle a' w' Y A1 O h0 h1 h2
   |exit jd=>obtain⟨Y,A1,O,h0,h1,h2⟩:=hq;exact h2.elim
   |panic ch=>
    obtain⟨x,Y,A1,O,h0,h1,hm,rfl⟩:=hq;change ace fn.results.toList ts _ id O (RC x)at hm;cases m1:RC x with
    |none=>rw[m1]at hm;exact hm.elim
    |some s=>
    rw[m1]at hm;obtain⟨hm2,m4,m3⟩:=hm;obtain⟨y,m2⟩:=U3 hm2;refine mU h1 (by simp) λw2 X=>?_;refine⟨by simp,.inr ⟨λh=>(by cases h),.func g,#[.pointer (some ⟨b,0,none⟩)],g,#[.pointer (some ⟨b,0,none⟩)],rfl,hinv w2,λ_ _=>trivial,?_⟩⟩;obtain⟨hd2,e2,l2⟩:=X.fr.ids id hd ho;refine(aro.2.2 x s m1 Y A1 w2 O.h id hd2 b y m4 X.hp m2 e2 (l2.1.trans hp)).mono ?_;rintro e u' w3 ⟨⟨v,rfl⟩,rfl,arn,q1,q2⟩;exact fin Y arn ⟨O.t,_⟩ { a' with defers:=B.ds} w3 h0 (X.aqY q1 q2) m3
   |_=>exact hq.elim
  |ret=>obtain⟨F1,own,st,h0,h1,h2,_⟩:=hq;cases h2
  |exit jd=>obtain⟨F1,own,st,h0,h1,h2,_⟩:=hq;cases h2
  |panic ch=>obtain⟨x,F1,own,st,h0,h1,⟨h2,_⟩,_⟩:=hq;cases h2
  |_=>exact hq.elim
end
end Go.Sx
end
section
namespace Go.Sx
open Go.Proofs
def kr {p:Prop}(h:p:=by kernel_rfl):p:=h
def tz:SV:=.v (.int .i64 0)
def tn:SV:=.v (.slice none 0 0)
def tb:SV:=.v (.string (ByteArray.mk #[]))
def to:Nat×Bool:=(1,false)
def tS (e:Nat):TI:=⟨1,24,false,[tn],[],e,0,true,false,none,none,false,[],none,none,0⟩
def tM (e:Nat)(a b:Tag):TI:=⟨1,8,false,[(.v (.map none))],[],e,0,false,false,none,none,false,[],some a,some b,0⟩
def tT (n s:Nat)(z:List SV)(f:List (Nat×(Nat×Bool)))(k:Tag)(l:List Nat):TI:=⟨n,s,true,z,f,0,0,false,false,some k,none,false,l,none,none,0⟩
def ti3:TI:=⟨1,8,false,[tz],[],0,0,false,false,(some .int),(some .i64),false,[],none,none,1⟩
def ti4:TI:=⟨1,1,false,[(.v (.bool false))],[],0,0,false,false,(some .bool),none,false,[],none,none,3⟩
def ti5:TI:=⟨1,1,false,[(.v (.int .u8 0))],[],0,0,false,false,none,(some .u8),false,[],none,none,1⟩
def ti9:TI:=⟨1,16,false,[tb],[],0,0,false,false,(some .str),none,false,[],none,none,2⟩
def ach:TI:=tT 2 16 [tz,tz] [(0,to),(1,to)] .apa [1,1]
def aci:TI:=tS 67
def acj:TI:=tS 129
def ack:TI:=tS 199
def acl:TI:=tS 131
def acm:TI:=tS 203
def acn:TI:=tS 421
def aco:TI:=tT 10 184 [tb,tz,tz,tz,tn,tn,tn,tn,tn,tn] [(0,to),(1,to),(2,(2,true)),(4,to),(5,to),(6,to),(7,to),(8,to),(9,to)] .al []
def acp:TI:=tS 217
def zg:TI:=⟨1,8,false,[(.v .nilFunc)],[],0,0,false,false,none,none,false,[],none,none,0⟩
def acq:TI:=⟨1,24,false,[tn],[],3,0,true,false,(some .ints),none,false,[],none,none,0⟩
def acr:TI:=tS 75
def acs:TI:=tT 5 72 [tn,tz,tz,tz,tn] [(0,to),(1,to),(2,to),(3,to),(4,to)] .refusal []
def act:TI:=tS 58
def acu:TI:=tS 259
def acv:TI:=tT 5 40 [tz,tz,tz,tz,tz] [(0,to),(1,to),(2,to),(3,to),(4,to)] .x6 [1,1,1,1,1]
def acw:TI:=tT 2 16 [tz,tz] [(0,to),(1,to)] .range [1,1]
def acx:TI:=tT 2 16 [tz,tz] [(0,to),(1,to)] .ratio [1,1]
def acy:TI:=⟨4,32,true,[tz,tz,tz,tz],[],64,2,false,true,(some .apJ),none,false,[],none,none,0⟩
def acz:TI:=tT 12 104 [tb,tz,tz,tz,tz,tz,tz,tz,tz,tz,tz,tz] [(0,to),(1,to),(2,to),(3,to),(4,to),(5,to),(6,(2,true)),(8,(4,true))] .reach []
def acA:TI:=tT 4 32 [tz,tz,tz,tz] [(0,to),(1,to),(2,to),(3,to)] .aoY [1,1,1,1]
def acB:TI:=tT 11 208 [tb,tz,tz,tz,tn,tn,tn,tn,tn,tn,tn] [(0,(10,true)),(10,to)] .x5 []
def acC:TI:=tT 5 40 [tz,tz,tz,tz,tz] [(0,to),(1,to),(2,to),(3,to),(4,to)] .fault [1,1,1,1,1]
def MA:TI:=tM 3 .apc .int
def U4:TI:=⟨2,16,true,[tz,(.v .nilFunc)],[(0,to),(1,to)],0,0,false,false,none,none,false,[],none,none,0⟩
def MB:TI:=⟨2,16,true,[tz,tz],[],3,2,false,true,(some .apc),none,false,[1,1],none,none,0⟩
def U5:TI:=tS 107
def U6:TI:=tS 119
def U7:TI:=tT 6 48 [tz,tz,tz,tz,tz,tz] [(0,(5,true)),(5,to)] .S2 [1,1,1,1,1,1]
def U8:TI:=tT 4 40 [tb,tz,tz,tz] [(0,to),(1,to),(2,to),(3,to)] .dd [2,1,1,1]
def U9:TI:=tT 10 88 [tb,tz,tz,tz,tz,tz,tz,tz,tz,tz] [(0,to),(1,to),(2,to),(3,to),(4,to),(5,to),(6,to),(7,to),(8,to),(9,to)] .right [2,1,1,1,1,1,1,1,1,1]
def U_:TI:=tM 4 .apc .bool
def Va:TI:=tM 3 .int .int
def Vb:TI:=tM 4 .G2 .bool
def Vc:TI:=tT 3 24 [(.v (.map none)),(.v (.map none)),(.v (.map none))] [(0,to),(1,to),(2,to)] .apn []
def Vd:TI:=tT 2 16 [tz,tz] [(0,to),(1,to)] .G2 [1,1]
def Ve:TI:=tT 2 24 [tb,tz] [(0,to),(1,to)] .apL [2,1]
def Vf:TI:=tT 4 40 [tb,tz,tz,tz] [(0,to),(1,to),(2,to),(3,to)] .apX [2,1,1,1]
def Vg:TI:=tS 341
def Vh:TI:=tT 9 88 [tz,tz,tz,tz,tz,tn,tz,tz,tz] [(0,to),(1,to),(2,to),(3,to),(4,to),(5,to),(6,to),(7,to),(8,to)] .u0 []
def Vi:TI:=tS 222
def Vj:TI:=tT 4 32 [tz,tz,tz,tz] [(0,to),(1,to),(2,to),(3,to)] .holding [1,1,1,1]
def Vk:TI:=⟨1,8,false,[(.v (.int .u64 0))],[],0,0,false,false,none,(some .u64),false,[],none,none,1⟩
def Vl:TI:=tM 217 .int .u0
def Vm:TI:=tT 4 32 [tz,tz,tz,(.v (.bool false))] [(0,to),(1,to),(2,to),(3,to)] .order [1,1,1,3]
def Vn:TI:=tM 3 .bl .int
def Vo:TI:=tM 4 .bl .bool
def Vp:TI:=tT 2 16 [tz,tz] [(0,to),(1,to)] .bl [1,1]
def Vq:TI:=tM 3 .dn .int
def Vr:TI:=tT 2 16 [tz,tz] [(0,to),(1,to)] .dn [1,1]
def Vs:TI:=⟨1,8,false,[(.v .nilFunc)],[],0,0,false,false,(some .fnc),none,false,[],none,none,0⟩
def Vt:TI:=tT 3 24 [tz,tz,tz] [(0,to),(1,(2,true))] .part [1,1,1]
def Vu:TI:=tM 4 .int .bool
def Vv:TI:=tM 359 .int .fnc
def Vw:TI:=tS 335
def Vx:TI:=⟨1,8,true,[(.v .nilFunc)],[(0,to)],0,0,false,false,none,none,false,[],none,none,0⟩
def tl:List (Nat×TI):=[(3,ti3),(4,ti4),(5,ti5),(9,ti9),(23,ach),(24,aci),(25,acj),(26,ack),(27,acl),(28,acm),(29,acn),(31,aco),(32,acp),(33,zg),(35,acq),(36,acr),(38,acs),(39,ti3),(47,act),(50,acu),(58,acv),(62,acw),(64,acx),(65,acy),(67,acz),(75,acA),(80,acB),(90,acC),(102,MA),(106,zg),(107,U4),(108,MB),(109,MB),(112,U5),(115,U6),(119,U7),(129,U8),(131,U9),(137,zg),(138,zg),(143,zg),(144,U_),(170,Va),(171,Vb),(173,Vc),(183,Vd),(194,ti3),(199,Ve),(203,Vf),(215,Vg),(217,Vh),(218,Vi),(222,Vj),(229,Vk),(234,zg),(248,Vl),(259,Vm),(262,MA),(272,Vn),(273,Vo),(275,Vp),(316,Vq),(323,Vr),(335,Vs),(341,Vt),(354,Vu),(357,Vv),(373,Vw),(384,zg),(386,Vx)]
def ts:Tis:=λt=>tl.lookup t
def aap {P:Program}:∀ {l:List (Nat×TI)},l.map (λx=>jg P x.1)=l.map (λx=>some x.2)->Tis.ok (λt=>l.lookup t) P
 | [],_,t,i,h=>by cases h
 |(a,b)::l,e,t,i,h=>by
  simp only[amu,ane]at e;simp only[List.lookup_cons]at h;split at h
  rename_i q;cases h;rw[beq_iff_eq.1 q];exact e.1;exact aap e.2 t i h
def aB:Tis.ok ts Tryz.prog:=aap kr
def asv:ts 3=some ti3:=(rfl)
def asa:ts 4=some ti4:=(rfl)
def asd:ts 5=some ti5:=(rfl)
def ar3:ts 9=some ti9:=(rfl)
def arP:ts 23=some ach:=(rfl)
def ars:ts 24=some aci:=(rfl)
def arJ:ts 25=some acj:=(rfl)
def arQ:ts 26=some ack:=(rfl)
def arA:ts 27=some acl:=(rfl)
def arV:ts 28=some acm:=(rfl)
def arw:ts 29=some acn:=(rfl)
def ar0:ts 31=some aco:=(rfl)
def art:ts 32=some acp:=(rfl)
def arz:ts 33=some zg:=(rfl)
def arE:ts 35=some acq:=(rfl)
def arI:ts 36=some acr:=(rfl)
def arX:ts 38=some acs:=(rfl)
def arM:ts 39=some ti3:=(rfl)
def arW:ts 47=some act:=(rfl)
def arB:ts 50=some acu:=(rfl)
def arT:ts 58=some acv:=(rfl)
def arD:ts 62=some acw:=(rfl)
def ary:ts 64=some acx:=(rfl)
def arS:ts 65=some acy:=(rfl)
def arZ:ts 67=some acz:=(rfl)
def arU:ts 75=some acA:=(rfl)
def arK:ts 80=some acB:=(rfl)
def arR:ts 90=some acC:=(rfl)
def akz:ts 102=some MA:=(rfl)
def akA:ts 106=some zg:=(rfl)
def akB:ts 107=some U4:=(rfl)
def akC:ts 108=some MB:=(rfl)
def akD:ts 109=some MB:=(rfl)
def akE:ts 112=some U5:=(rfl)
def akF:ts 115=some U6:=(rfl)
def akG:ts 119=some U7:=(rfl)
def akH:ts 129=some U8:=(rfl)
def akI:ts 131=some U9:=(rfl)
def akJ:ts 137=some zg:=(rfl)
def akK:ts 138=some zg:=(rfl)
def akL:ts 143=some zg:=(rfl)
def akM:ts 144=some U_:=(rfl)
def akN:ts 170=some Va:=(rfl)
def akO:ts 171=some Vb:=(rfl)
def akP:ts 173=some Vc:=(rfl)
def akQ:ts 183=some Vd:=(rfl)
def akR:ts 194=some ti3:=(rfl)
def akS:ts 199=some Ve:=(rfl)
def akT:ts 203=some Vf:=(rfl)
def akU:ts 215=some Vg:=(rfl)
def akV:ts 217=some Vh:=(rfl)
def akW:ts 218=some Vi:=(rfl)
def akX:ts 222=some Vj:=(rfl)
def akY:ts 229=some Vk:=(rfl)
def akZ:ts 234=some zg:=(rfl)
def ak0:ts 248=some Vl:=(rfl)
def ak1:ts 259=some Vm:=(rfl)
def ak2:ts 262=some MA:=(rfl)
def ak3:ts 272=some Vn:=(rfl)
def ak4:ts 273=some Vo:=(rfl)
def ak5:ts 275=some Vp:=(rfl)
def ak6:ts 316=some Vq:=(rfl)
def ak7:ts 323=some Vr:=(rfl)
def ak8:ts 335=some Vs:=(rfl)
def ak9:ts 341=some Vt:=(rfl)
def ak_:ts 354=some Vu:=(rfl)
def ala:ts 357=some Vv:=(rfl)
def alb:ts 373=some Vw:=(rfl)
def alc:ts 384=some zg:=(rfl)
def ald:ts 386=some Vx:=(rfl)
attribute[go_sem]asv asa asd ar3 arP ars arJ arQ arA arV arw ar0 art arz arE arI arX arM arW arB arT arD ary arS arZ arU arK arR akz akA akB akC akD akE akF akG akH akI akJ akK akL akM akN akO akP akQ akR akS akT akU akV akW akX akY akZ ak0 ak1 ak2 ak3 ak4 ak5 ak6 ak7 ak8 ak9 ak_ ala alb alc ald
attribute [go_sem] tz tn tb to tS tM tT ti3 ti4 ti5 ti9 ach aci acj ack acl acm acn aco acp zg acq acr acs act acu acv acw acx acy acz acA acB acC MA U4 MB U5 U6 U7 U8 U9 U_ Va Vb Vc Vd Ve Vf Vg Vh Vi Vj Vk Vl Vm Vn Vo Vp Vq Vr Vs Vt Vu Vv Vw Vx
def mixed:Tryz.prog.follows .mixedOrders=true:=by kernel_rfl
def kB:List SV->Option Con
 | [.v (.iface t (.int .i64 e))] =>bif Nat.beq t 194 then some (.det True (.i e))else none|_=>none
def Br:zs Tryz.prog 60 kB:=by
 have hG:X2 Tryz.prog (mkG [] []):=oz (by simp) (by simp);refine Bq [.o] mixed aB hG (fn:=Tryz.f60) (c:=ae Tryz.f60) kr kr kr kr λl U h V=>?_;unfold kB at h;split at h
 rename_i t e;cases E:Nat.beq t 194 with
 |false=>rw[E]at h;cases h
 |true=>
  rw[E]at h;cases h;have O:=alH E;subst O;refine⟨Y2 rfl,L0,by unfold ae Tryz.f60;simp only[ak,and_self],?_⟩;unfold ae Tryz.f60;simp only[go_sem,true_imp_iff,false_imp_iff,Nat.reduceBEq,Nat.reduceLeDiff,Nat.reduceAdd,Nat.reduceSub,Nat.reduceMul,true_and,and_true,implies_true,reduceCtorEq]
 cases h
def acD:Value->Option SV
 | .iface t (.int .i64 e) =>bif Nat.beq t 194 then some (.i e)else none|_=>none
def Vy:aan Tryz.prog 59 acD:=by
 obtain⟨fn,Y,E,hn,W⟩:∃ fn,Tryz.prog.funcs[59]? =some fn/\fn.body=some (ae Tryz.f59)/\fn.ntmps=7/\fn.results= #[]:=⟨Tryz.f59,by kernel_rfl,by kernel_rfl,by kernel_rfl,by kernel_rfl⟩;have hG:X2 Tryz.prog (mkG [(60,kB)] []):=oz (by
  intro x U;simp only[alV,amw,or_false]at U;rcases U with rfl;exact Br) (by simp)
 refine⟨λargs w=>by kernel_rfl,λp w=>?_,?_⟩;refine callsDIn_of_wpSIn Y E trivial λc₀ cs V=>?_;unfold ae Tryz.f59;refine wpSIn_seq (wpSIn_region ?_);simp[wpOpsSIn,go_sem,recoverD,V,hn,Exit.thenS,Oper.about,Region.wanted];refine wpSIn_seq (wpSIn_region ?_);simp[wpOpsSIn,go_sem,recoverD,V,Exit.thenS,Oper.about,Region.wanted];refine wpSIn_cond (t:=false) (by simp[Act.eval]) ?_;simp only[alO,if_false];refine wpSIn_of_wpIn rfl (wpIn_skip ?_);cases c₀;simp_all [bodyPostS,results];intro x s U F own w h id hd b y hfw hp hob ho hpb;unfold acD at U;split at U
 rename_i t e;cases ht:Nat.beq t 194 with
 |false=>rw[ht]at U;cases U
 |true=>
  rw[ht]at U;cases U;have ht':=alH ht;subst ht';refine callsDIn_of_wpSIn Y E trivial λc₀ cs V=>?_;unfold ae Tryz.f59;refine wpSIn_seq (wpSIn_region ?_);simp[wpOpsSIn,go_sem,recoverD,V,hn,Exit.thenS,Oper.about,Region.wanted];refine wpSIn_seq (wpSIn_region ?_);simp[wpOpsSIn,go_sem,recoverD,V,Exit.thenS,Oper.about,Region.wanted];refine wpSIn_cond (t:=true) (by simp[Act.eval]) ?_;simp only[if_true];refine wpSIn_of_wpIn rfl ?_;have hr:W2 F { w:=w,own:=own} 7 own ⟨[(0,.ptr id 0),(1,.v (.iface 194 (.int .i64 e)))],h⟩ { tmps:= #[.pointer (some ⟨b,0,none⟩),.iface 194 (.int .i64 e),.iface 194 (.int .i64 e),.iface 194 (.int .i64 e),.bool true,undef,undef],defers:=[]} w:=by
   refine⟨rfl,Dfr.nil,hp,Fr.refl { w:=w,own:=own},λt=>?_⟩;rw[px];by_cases h0:0=t
   subst h0;rw[if_pos rfl];exact .ptr ho hpb;rw[if_neg h0,px];by_cases h1:1=t
   subst h1;rw[if_pos rfl];exact .v _;rw[if_neg h1];exact .any _
  refine wpIn_mono (Pf (ts:=ts) (L:=L0) (Q:=λst=>st.h=cm h id (.cells [.i e])) mixed aB hG kr ?_ hr) ?_;simp only[go_sem,hob,zf (h:=h) (i:=id) (o:=.cells [.v (.int .i64 e)]) rfl hfw,kB,Nat.reduceBEq,Nat.reduceLeDiff,Nat.reduceAdd,true_and,and_true,true_imp_iff];rintro ex a' w' ⟨rfl,X,st1,O,hh⟩;have hd0:a'.defers=[]:=by
   obtain⟨ms,Ds,q0,q1,q2,q3⟩:=O.defers;cases Ds with
   |nil=>rw[q0];simp at q1;simp[q1]
   |cons D r=>
    obtain⟨m1,m2,_⟩:=q3 D (by simp);have:=hp.ao1 D m2;simp only at m1;omega
  refine⟨hd0,.panicking [{ v:=.iface 194 (.int .i64 e),recovered:=true}],?_,_,by simp[results,W];rfl,⟨_,rfl⟩,rfl,X,hh▸O.hp,O.fr⟩;cases c₀;simp_all
 cases U
attribute [go_sem] kB
abbrev SV.u (n:Nat):SV:=.v (.int .u64 (n:Int))
def Ag (ps:List (Nat×(List SV->Option Con)))(os:List (Nat×(List SV->List Ob->Option apd)))(Y:List SV->Res->Option aqo):Cons:=⟨mkP ps,mkO os,Y⟩
variable {ps:List (Nat×(List SV->Option Con))}{os:List (Nat×(List SV->List Ob->Option apd))}{Y:List SV->Res->Option aqo}
def ale:(Ag ps os Y).p=mkP ps:=(rfl)
def alf:(Ag ps os Y).o=mkO os:=(rfl)
def alg:(Ag ps os Y).y=Y:=(rfl)
attribute[go_sem]ale alf alg
def DQ{P:Program}{O:List (Nat×(List SV->Option Con))}{E:List (Nat×(List SV->List Ob->Option apd))}(h1:∀ x∈O,zs P x.1 x.2)(h2:∀ x∈E,ape P x.1 x.2)(U:YOk P Y):X2 P (Ag O E Y):=⟨Pb O h1,Pc E h2,U⟩
def C90:List SV->List Ob->Option apd:=λl h=>noH h ((pU λn=>pU λd=>pE { α:=Unit,pre:=True,post:=λ_=>True,res:=λ_=>.ret (.fn 336 [] [.ptr 0 0,.ptr 1 0]) [.cells [.v (.int .u64 n)],.cells [.v (.int .u64 d)]]}) l)
theorem acE:ape Tryz.prog 309 C90:=by
 have hG:X2 Tryz.prog (mkG [] []):=oz (by simp) (by simp);refine oy mixed aB hG (fn:=Tryz.f309) (c:=ae Tryz.f309) kr kr kr kr λl o E h U=>?_;unfold C90 at h;obtain⟨rfl,h⟩:=QV h;obtain⟨n,l0,rfl,O⟩:=Kg h;obtain⟨d,l1,rfl,h1⟩:=Kg O;obtain⟨rfl,rfl⟩:=wW h1;refine⟨Y2 rfl,L0,by unfold ae Tryz.f309;simp only[ak,and_self],?_⟩;unfold ae Tryz.f309;simp only[go_sem,true_imp_iff,decide_eq_true_eq,Nat.reduceBEq,Nat.reduceLeDiff,Nat.reduceAdd,Nat.reduceSub,Nat.reduceMul,true_and,and_true,implies_true];refine⟨(),_,_,[0,1],rfl,?_⟩;simp only[go_sem,Nat.reduceBEq,Nat.reduceLeDiff,Nat.reduceAdd,true_and,and_true];exact⟨rfl,rfl⟩
def Bt:Nat->Nat->Nat->List Nat
 |0,n,d=>if n=0 then []else [n,d]|f+1,n,d=>if n=0 then []else n::(if n % max d 1=0 then [d]else Bt f d (n % max d 1))
def rl (f n d:Nat):List (List SV):=(Bt f n d).map λx=>[SV.u x]
theorem Vz (f d:Nat):rl f 0 d=[]:=by cases f <;>rfl
theorem VA {f n d:Nat}(O:n≠0)(V:d<=f):∃ T,rl f n d=[SV.u n]::T/\(n % max d 1=0->T=[[SV.u d]])/\(n % max d 1≠0->∃ U,T=rl U d (n % max d 1)/\n % max d 1<=U/\n % max d 1<d):=by
 cases f with
 |zero=>
  have hd:d=0:=by omega
  subst hd;refine⟨[[SV.u 0]],by simp[rl,Bt,O],λ_=>rfl,λh=>?_⟩;exfalso;apply h;simp[ao4]
 |succ f=>
  by_cases E:n % max d 1=0
  exact⟨[[SV.u d]],by simp[rl,Bt,O,E],λ_=>rfl,λh=>absurd E h⟩;refine⟨rl f d (n % max d 1),by simp[rl,Bt,O,E],λh=>absurd h E,λ_=>⟨f,rfl,?_⟩⟩;have hlt:n % max d 1<max d 1:=anP _ (by omega);have hd:1<=d:=by
   rcases Nat.eq_zero_or_pos d with h|h;subst h;exfalso;apply E;simp[ao4];exact h
  omega
theorem VB (n d:Nat):((n:Int).tmod (if(d:Int) <1 then 1 else(d:Int)))=((n % max d 1:Nat):Int):=by
 have e:(if(d:Int) <1 then(1:Int)else(d:Int))=((max d 1:Nat):Int):=by split <;>omega
 rw[e,amy (by omega)];rfl
open Classical in
theorem acF (n0 E:Nat):Af Tryz.prog 336 (λy=>[y,.ptr 1 0,.ptr 2 0]) [.cells [SV.u n0],.cells [SV.u E]] (rl E n0 E):=by
 refine QW (λr hr hy=>?_) (λargs w=>by kernel_rfl);have hG:X2 Tryz.prog (Ag [] [] (itY (rl E n0 E) r)):=DQ (by simp) (by simp) hy;refine⟨λl h=>if l=[.os 0,.ptr 1 0,.ptr 2 0]/\h=[.ab (r 1),.cells [SV.u n0],.cells [SV.u E]]then some { α:=Nat,pre:=True,post:=λj=>j=0\/j=(rl E n0 E).length+1,res:=λj=>.ret (.tup []) [.ab (r j),.dead,.dead]}else none,
  ?_,_,if_pos ⟨rfl,rfl⟩,trivial,λj hj=>⟨_,j,_,rfl,hj⟩⟩
 refine oy mixed aB hG (fn:=Tryz.f336) (c:=ae Tryz.f336) kr kr kr kr λl o con h hp=>?_;split at h
 rename_i hlo;obtain⟨rfl,rfl⟩:=hlo;cases h;refine⟨Y2 rfl,λid st=>bif Nat.beq id 0 then some { α:=Nat×Bool,pre:=lk 0 st.t=.os 0/\lk 1 st.t=.ptr 1 0/\lk 2 st.t=.ptr 2 0/\st.h=[.ab (r 1),.cells [SV.u n0],.cells [SV.u E]],post:=λj=>j.1=0\/j.1=(rl E n0 E).length+1,ex:=λj=>bif j.2 then .ret else .normal,out:=λj=>⟨[],[.ab (r j.1),.dead,.dead]⟩:apN}else none,?_,?_⟩;unfold ae Tryz.f336;simp only[ak,true_and,and_true];refine wV mixed aB hG kr λst lc hC hp=>?_;simp only[go_sem,Nat.reduceBEq,alK]at hC;subst hC;obtain⟨t,h⟩:=st;dsimp only at hp;obtain⟨h0,h1,h2,rfl⟩:=hp;refine⟨Nat×Nat×Nat×Nat,λx=>⟨[(0,.os 0),(1,.ptr 1 0),(2,.ptr 2 0)],[.ab (r (x.1+1)),.cells [SV.u x.2.2.1],.cells [SV.u x.2.2.2]]⟩,λx=>x.2.2.2<=x.2.1/\(rl E n0 E).drop x.1=rl x.2.1 x.2.2.1 x.2.2.2/\x.1<=(rl E n0 E).length,λx=>x.2.2.2,(0,E,n0,E),[0,1,2],⟨alJ _,rfl,ame _⟩,alJ _,?_,?_⟩;simp only[go_sem,h0,h1,h2,Nat.reduceBEq,Nat.reduceLeDiff,Nat.reduceAdd,true_and,and_true];decide;rintro⟨k,f,n,d⟩ ⟨hf,O,hk⟩;simp only at hf O hk;refine⟨L0,_,by simp only[ak,and_self],λ_ _ q=>q,?_⟩;simp only[go_sem,E7 hr,true_imp_iff,decide_eq_true_eq,VB,alO,false_imp_iff,Nat.reduceBEq,Nat.reduceLeDiff,Nat.reduceAdd,Nat.reduceSub,Nat.reduceMul,true_and,and_true,implies_true];have hget:∀ (l:List (List SV)) (j:Nat),l=(rl E n0 E).drop k->(rl E n0 E)[k+j]? =l[j]?:=λl j e=>by rw[e,aoa]
 have U:(rl f n d).length=(rl E n0 E).length - k:=by rw[<-O,amQ]
 refine⟨λX=>?_,λX=>?_⟩;have V:n≠0:=by simpa using X
 obtain⟨T,e1,e2,e3⟩:=VA V hf;have hT:(rl E n0 E).drop (k+1)=T:=by rw[<-aoK,O,e1];rfl
 have W:=hget _ 0 O.symm;rw[e1]at W;have hk1:k+1<=(rl E n0 E).length:=by
  have:=(alM.1 W).1;omega
 refine⟨W,⟨λ_=>⟨by split <;>omega,rfl,λh2=>?_,λh2=>?_⟩,λh2=>?_⟩,?_⟩;have h3:n % max d 1=0:=by
  have:=eq_of_beq h2;generalize n % max d 1=q at this |-;omega
 have Y:=e2 h3;have hl2:(rl E n0 E).length=k+2:=by
  have:=congrArg List.length hT;rw[Y,amQ]at this;simp at this;omega
 refine⟨?_,⟨(k+1+2,true),[0,1,2],.inr (by rw[hl2]),rfl,⟨rfl,rfl,rfl⟩,by simp[Hi,JN,En,unp,ap,dx,va,v7]⟩,⟨(0,true),[0,1,2],.inl rfl,rfl,⟨rfl,rfl,rfl⟩,by simp[Hi,JN,En,unp,ap,dx,va,v7]⟩⟩;have:(rl E n0 E)[k+1]? =T[0]?:=by rw[<-hT,aoa]
 rw[this,Y];rfl;have h3:n % max d 1≠0:=λe=>by rw[e]at h2;simp at h2
 obtain⟨f',m1,m2,m3⟩:=e3 h3;exact⟨(k+1,f',d,n % max d 1),[0,1,2],⟨m2,by rw[hT,m1],hk1⟩,m3,⟨rfl,rfl,rfl⟩,by simp[Hi,JN,En,unp,ap,dx,va,v7,nth,mF,ren,wkL,Qw]⟩;exact absurd X (by rw[h2];simp);exact⟨(0,false),[0,1,2],.inl rfl,rfl,⟨rfl,rfl,rfl⟩,by simp[Hi,JN,En,unp,ap,dx,va,v7]⟩;have V:n=0:=by simpa using X
 subst V;rw[Vz]at U;simp at U;exact⟨by simpa using X,(k+1,false),[0,1,2],.inr (by show k+1=_;omega),rfl,⟨rfl,rfl,rfl⟩,by simp[Hi,JN,En,unp,ap,dx,va,v7]⟩;unfold ae Tryz.f336;simp only[go_sem,true_imp_iff,decide_eq_true_eq,Nat.reduceBEq,Nat.reduceLeDiff,Nat.reduceAdd,Nat.reduceSub,Nat.reduceMul,true_and,and_true,implies_true];rintro⟨j,b⟩ hj;cases b;simp only[go_sem];exact⟨j,_,_,[0,1,2],hj,rfl,alJ 3,by simp only[go_sem,Nat.reduceBEq,Nat.reduceLeDiff,Nat.reduceAdd,true_and,and_true];decide⟩;simp only[go_sem];exact⟨j,_,_,[0,1,2],hj,rfl,alJ 3,by simp only[go_sem,Nat.reduceBEq,Nat.reduceLeDiff,Nat.reduceAdd,true_and,and_true];decide⟩;cases h
def MC (n d:Nat):Nat:=if d=0 then n else(Bt d n d).getLastD d
def C83:List SV->Option Con:=pU λn=>pU λd=>pE (.det (0<=n/\0<=d) (SV.u (MC n.toNat d.toNat)))
theorem VC:zs Tryz.prog 274 C83:=by
 have hG:X2 Tryz.prog (mkG [] [(309,C90)]):=oz (by simp) (by
  intro x E;simp only[alV,amw,or_false]at E;rcases E with rfl;exact acE)
 refine UK false mixed aB hG (fn:=Tryz.f274) (c:=ae Tryz.f274) kr kr kr kr λl con h O=>?_;unfold C83 at h;obtain⟨n',l0,rfl,X⟩:=Kg h;obtain⟨d',l1,rfl,h1⟩:=Kg X;obtain⟨rfl,rfl⟩:=wW h1;clear h X h1;obtain⟨hn,hd⟩:=O;obtain⟨n,rfl⟩:=aop hn;obtain⟨d,rfl⟩:=aop hd;refine⟨Y2 rfl,λid st=>bif Nat.beq id 0 then some { α:=Unit,pre:=st.h=[.cells [SV.u d],.cells [SV.u n],.cells [SV.u d]]/\lk 12 st.t=.fn 336 [] [.ptr 1 0,.ptr 2 0]/\lk 4 st.t=.ptr 0 0,post:=λ_=>True,ex:=λ_=>.normal,out:=λ_=>⟨[(4,.ptr 0 0)],[.cells [SV.u ((Bt d n d).getLastD d)],.dead,.dead]⟩:apN}else none,?_,?_⟩;unfold ae Tryz.f274;simp only[ak,true_and,and_true];refine My mixed aB hG (by decide) (by decide) kr kr λst lc hC O=>?_;simp only[go_sem,Nat.reduceBEq,alK]at hC;subst hC;obtain⟨t,h⟩:=st;dsimp only at O;obtain⟨rfl,U,h4⟩:=O;refine⟨336,[.ptr 1 0,.ptr 2 0],rl d n d,Nat,[(4,.ptr 0 0)],λv=>[.cells [SV.u v],.dead,.dead],λk v=>v=((Bt d n d).take k).getLastD d,λ_ _=>False,d,[0,1,2],U,rfl,alJ _,?_,acF n d,?_,?_,λ_ h=>h.elim,λ_ _ h=>h.elim⟩;show Sub [0,1,2] 3 ⟨t,[.cells [SV.u d],.dead,.dead]⟩ ⟨[(4,.ptr 0 0)],[.cells [SV.u d],.dead,.dead]⟩;simp only[go_sem,h4,Nat.reduceBEq,Nat.reduceLeDiff,Nat.reduceAdd,true_and,and_true];decide;intro k y args W Y;unfold rl at W;rw[amB,amX]at W;obtain⟨x,E,rfl⟩:=W;refine⟨rfl,L0,_,λl=>by simp only[ak],λl=>by simp only[ak],λ_ _ q=>q,?_⟩;show exec ts _ L0 _ ⟨[(13,SV.u x),(4,SV.ptr 0 0)],[.cells [SV.u y],.dead,.dead]⟩ _;simp only[go_sem,true_imp_iff,Nat.reduceBEq,Nat.reduceLeDiff,Nat.reduceAdd,true_and,and_true];refine⟨x,[0,1,2],?_,alJ 3,?_⟩;have hlt:=(alM.1 E).1;have V:=(alM.1 E).2;show x=((Bt d n d).take (k+1)).getLastD d;rw[amY hlt,V];simp[List.getLastD_concat];simp only[go_sem,Nat.reduceBEq,Nat.reduceLeDiff,Nat.reduceAdd,true_and,and_true];decide;intro y Y;refine⟨(),[0,1,2],trivial,rfl,alJ _,?_⟩;have hy:y=(Bt d n d).getLastD d:=by rw[Y,List.take_of_length_le (by simp[rl])]
 subst hy;show Sub [0,1,2] 3 ⟨[(4,.ptr 0 0)],[.cells [SV.u _],.dead,.dead]⟩ ⟨[(4,.ptr 0 0)],[.cells [SV.u _],.dead,.dead]⟩;simp only[go_sem,Nat.reduceBEq,Nat.reduceLeDiff,Nat.reduceAdd,true_and,and_true];decide;unfold ae Tryz.f274;simp only[go_sem,C90,true_imp_iff,decide_eq_true_eq,alO,false_imp_iff,Nat.reduceBEq,Nat.reduceLeDiff,Nat.reduceAdd,Nat.reduceSub,Nat.reduceMul,true_and,and_true,implies_true];refine⟨λh=>?_,λh _ _=>?_⟩;have h':d=0:=by simpa using h
 simp[MC,h'];have h':d≠0:=by simpa using h
 simp[MC,h']
attribute [go_sem] C83
end Go.Sx
end
section
namespace Go.Sx
open Go.RowKit
inductive apT:St->St->Prop where
 |refl (st:St):apT st st
 |cell {st:St} {t:List (Nat×SV)} {h:List Ob} {i j:Nat} {l:List SV} (o:Ob):apT st ⟨t,h⟩->ap h i=.cells l->l[j]? =some (.v (.slice none 0 0))->((∃ k,o=.row k [])\/∃ k,o=.apw k [])->apT st ⟨t,cm h i (.cells (l.set j (.os h.length)))++[o]⟩
 |slot {st:St} {t:List (Nat×SV)} {h:List Ob} {i:Nat} (o:Ob):apT st ⟨t,h⟩->lk i t=.v (.slice none 0 0)->((∃ k,o=.row k [])\/∃ k,o=.apw k [])->apT st ⟨(i,.os h.length)::t,h++[o]⟩
 |aqV {st:St} {t:List (Nat×SV)} {h:List Ob} {i:Nat} (k:Tag):apT st ⟨t,h⟩->lk i t=.e0->apT st ⟨(i,.os h.length)::t,h++[.row k []]⟩
section
variable {P:Program}{F:Nat->Prop}{w0:Bs}{N:Nat}
theorem IQ (h:List Ob)(o:Ob):ap (h++[o]) h.length=o:=by simp_all [sC,ap]
variable {h:List Ob}{a:Act}{w:World}{t:List (Nat×SV)}
theorem QZ{own:Own}(O:W2 F w0 N own ⟨t,h⟩ a w)(o:Ob)(ho:(∃ k,o=.row k [])\/∃ k,o=.apw k []):
  ∃ bn,W2 F w0 N bn ⟨t,h++[o]⟩ a w/\(∀ id hd,own id=some hd->bn id=some hd)/\bn h.length=some { v:=.slice none 0 0}:=by
 let bn:Own:=λid=>if id=h.length then some { v:=.slice none 0 0}else own id
 have V:∀ id hd,own id=some hd->bn id=some hd:=λid hd e=>by
  have:id≠h.length:=by have:=O.hp.dom id hd e;grind
  grind
 have E:∀ id hd b,bn id=some hd->b∈hd.bs->own id=some hd:=λid hd b e U=>by
  grind
 have hc:apz F own w F bn w:=⟨λid hd e=>⟨hd,V id hd e,.refl _⟩,λb _ hn=>⟨by
  rintro (hf| ⟨id,hd,e,U⟩);exact hn (.inl hf);exact hn (.inr ⟨id,hd,E id hd b e U,U⟩),rfl⟩⟩
 refine⟨bn,⟨O.size,O.defers,⟨λid hd e=>?_,O.hp.ao1,λid hd b e U=>O.hp.apart id hd b (E id hd b e U) U,λi j hi hj b X W b1 b2=>O.hp.inj i j hi hj b (E i hi b X b1) (E j hj b W b2) b1 b2,λid hd b e U=>O.hp.lt id hd b (E id hd b e U) U,λid hd=>?_⟩,
  ⟨λid hd e=>?_,λid hd b e U=>O.fr.base id hd b (E id hd b e U) U,O.fr.os,O.fr.tape,O.fr.output,O.fr.size,O.fr.block⟩,λt=>(O.slots t).carry hc⟩,V,by simp[bn]⟩
 simp only[alN,alL,alS];by_cases hi:id=h.length
 omega;simp only[bn,if_neg hi]at e;have:=O.hp.dom id hd e;grind;simp only at hd |-;by_cases hi:id<h.length
 rw[sC,if_pos hi]at hd |-;obtain⟨hd',X,W⟩:=O.hp.obs id hd;exact⟨hd',V id hd' X,W.carry hc (alJ _) λ_ _=>rfl⟩;by_cases Y:id=h.length
 subst Y;rw[IQ];refine⟨_,by simp[bn];rfl,?_⟩;rcases ho with⟨k,rfl⟩ | ⟨k,rfl⟩;exact .inl ⟨none,rfl,rfl,rfl⟩;exact .inl ⟨rfl,rfl,rfl,rfl⟩;rw[mQ (by simp;omega)]at hd;cases hd;obtain⟨hd',X,W⟩:=O.fr.ids id hd e;grind
theorem VD{own:Own}(O:W2 F w0 N own ⟨t,h⟩ a w)(k:Tag)(ad:Option Addr):
  ∃ bn,W2 F w0 N bn ⟨t,h++[.row k []]⟩ a w/\(∀ id hd,own id=some hd->bn id=some hd)/\bn h.length=some { v:=.slice ad 0 0}:=by
 let bn:Own:=λid=>if id=h.length then some { v:=.slice ad 0 0}else own id
 have V:∀ id hd,own id=some hd->bn id=some hd:=λid hd e=>by
  have:id≠h.length:=by have:=O.hp.dom id hd e;grind
  grind
 have E:∀ id hd b,bn id=some hd->b∈hd.bs->own id=some hd:=λid hd b e U=>by
  grind
 have hc:apz F own w F bn w:=⟨λid hd e=>⟨hd,V id hd e,.refl _⟩,λb _ hn=>⟨by
  rintro (hf| ⟨id,hd,e,U⟩);exact hn (.inl hf);exact hn (.inr ⟨id,hd,E id hd b e U,U⟩),rfl⟩⟩
 refine⟨bn,⟨O.size,O.defers,⟨λid hd e=>?_,O.hp.ao1,λid hd b e U=>O.hp.apart id hd b (E id hd b e U) U,λi j hi hj b X W b1 b2=>O.hp.inj i j hi hj b (E i hi b X b1) (E j hj b W b2) b1 b2,λid hd b e U=>O.hp.lt id hd b (E id hd b e U) U,λid hd=>?_⟩,
  ⟨λid hd e=>?_,λid hd b e U=>O.fr.base id hd b (E id hd b e U) U,O.fr.os,O.fr.tape,O.fr.output,O.fr.size,O.fr.block⟩,λt=>(O.slots t).carry hc⟩,V,by simp[bn]⟩
 simp only[alN,alL,alS];by_cases hi:id=h.length
 omega;simp only[bn,if_neg hi]at e;have:=O.hp.dom id hd e;grind;simp only at hd |-;by_cases hi:id<h.length
 rw[sC,if_pos hi]at hd |-;obtain⟨hd',X,W⟩:=O.hp.obs id hd;exact⟨hd',V id hd' X,W.carry hc (alJ _) λ_ _=>rfl⟩;by_cases Y:id=h.length
 subst Y;rw[IQ];refine⟨_,by simp[bn];rfl,?_⟩;exact .inl ⟨ad,rfl,rfl,rfl⟩;rw[mQ (by simp;omega)]at hd;cases hd;obtain⟨hd',X,W⟩:=O.fr.ids id hd e;grind
theorem apT.rel{st st':St}(hn:apT st st'){own:Own}(hr:W2 F w0 N own st a w):∃ bn,W2 F w0 N bn st' a w:=by
 induction hn with
 |refl=>grind
 | @slot t h i o _ V ho W=>
  obtain⟨U,h1⟩:=W;obtain⟨A1,h2,h3,Y⟩:=QZ h1 o ho;refine⟨A1,h2.size,h2.defers,h2.hp,h2.fr,λu=>?_⟩;rw[px];split
  rename_i e;subst e;have:=h1.slots i;rw[V]at this;rw[cG this];exact .os (hd:= { v:=.slice none 0 0}) Y rfl;exact h2.slots u
 | @aqV t h i k _ V W=>
  obtain⟨U,h1⟩:=W;have O:=h1.slots i;rw[V]at O;generalize hv:a.tmps.getD i undef=v at O;cases O with
  | @e0 ad=>
   obtain⟨A1,h2,h3,Y⟩:=VD h1 k ad;refine⟨A1,h2.size,h2.defers,h2.hp,h2.fr,λu=>?_⟩;rw[px];split
   rename_i e;subst e;rw[hv];exact .os (hd:= { v:=.slice ad 0 0}) Y rfl;exact h2.slots u
 | @cell t h i j l o _ hc V ho W=>
  obtain⟨U,h1⟩:=W;obtain⟨A1,h2,h3,Y⟩:=QZ h1 o ho;have hlt:i<h.length:=by
   grind [mQ]
  have X:(cm h i (.cells (l.set j (.os h.length)))).length=h.length:=by rw[cA,if_pos hlt]
  refine⟨A1,h2.size,h2.defers,⟨λid hd e=>?_,h2.hp.ao1,h2.hp.apart,h2.hp.inj,h2.hp.lt,λid hd=>?_⟩,h2.fr,h2.slots⟩;have:=h2.hp.dom id hd e;grind;simp only at hd |-;have E:=h2.hp.obs id;simp only at E;by_cases hi:id<h.length
  rw[sC,if_pos (by rw[X];exact hi)]at hd |-;rw[sC,if_pos hi]at E;rw[dy]at hd |-;by_cases hii:i=id
  subst hii;rw[if_pos rfl]at hd |-;rw[hc]at E;obtain⟨hd',e1,b,cs,ty,m1,m2,m3,m4,m5⟩:=E rfl;refine⟨hd',e1,b,cs,ty,m1,m2,m3,by grind,λj' s O=>?_⟩;rw[anA]at O;by_cases hj:j=j'
  subst hj;rw[if_pos rfl]at O;split at O
  cases O;have:=m5 j _ V;rw[cG this];exact .os (hd:= { v:=.slice none 0 0}) Y rfl;cases O;grind
  grind
  simp_all [sC,if_neg]
end
section
variable {P:Program}{F:Nat->Prop}{w0:Bs}{ro:Option Nat}{nd:Nat}{ts:Tis}{G:Cons}{L:vZ}{N:Nat}
theorem uI {ts:Tis}{G:Cons}{ro:Option Nat}{N:Nat}(hm:P.follows .mixedOrders=true)(hts:ts.ok P)(hG:X2 P G){id:Nat}{c:Code}(hc:cP N c=true){C:St->Option apN}
  (h:∀ st U,C st=some U->U.pre->∃ (σ:Type) (D:σ->St) (I:σ->Prop) (m:σ->Nat) (x0:σ) (X:St) (js:List Nat),I x0/\apT st X/\st.h.length<=(D x0).h.length/\Sub js st.h.length X (D x0)/\
   ∀ x,I x->∃ L Qx,ak P ro N L c/\(∀ e st',Qx e st'->ve D I m st.h.length x id (λe st'=>∃ r js,U.post r/\U.ex r=e/\st.h.length<=(U.out r).h.length/\Sub js st.h.length st' (U.out r)) e st')/\exec ts G L c (D x) Qx):kV P ro N id (.loop c) C:=by
 intro nd F w0 st U hC hpre own a w hr;obtain⟨σ,D,I,m,x0,X,js,h1,hN,h2,h3,h4⟩:=h st U hC hpre;obtain⟨ownN,hrN⟩:=hN.rel hr;refine wpIn_mono (II hm hts hG hc D I m st.h.length hr.aqc _ h4 x0 h1 _ a w (hrN.sub h3 hr.aqc h2)) ?_;intro e a' w' hq;have key:∀ ex O bn st',W2 O w0 N bn st' a' w'->(∃ r js,U.post r/\U.ex r=ex/\st.h.length<=(U.out r).h.length/\Sub js st.h.length st' (U.out r))->∃ A1 E,W2 O w0 N A1 E a' w'/\∃ r,U.post r/\ex=U.ex r/\E=U.out r:=by
  rintro ex O bn st' hst ⟨r,js,V,W,q3,q4⟩;exact⟨_,_,hst.sub q4 hr.aqc q3,r,V,W.symm,rfl⟩
 cases e with
 |normal=>obtain⟨O,bn,st',Y,k1,k2⟩:=hq;obtain⟨A1,E,V,W⟩:=key _ O bn st' k1 k2;exact⟨O,A1,E,Y,V,W⟩
 |exit j=>obtain⟨O,bn,st',Y,k1,k2⟩:=hq;obtain⟨A1,E,V,W⟩:=key _ O bn st' k1 k2;exact⟨O,A1,E,Y,V,W⟩
 |ret=>obtain⟨O,bn,st',Y,k1,k2⟩:=hq;obtain⟨A1,E,V,W⟩:=key _ O bn st' k1 k2;exact⟨O,A1,E,Y,V,W⟩
 |panic ch=>
  obtain⟨x,O,bn,st',Y,k1,k2,k3⟩:=hq;obtain⟨A1,E,V,W⟩:=key _ O bn st' k1 k2;exact⟨x,O,A1,E,Y,V,W,k3⟩
 |_=>exact hq.elim
end
section
variable {P:Program}{ρ σ:Type}
def oo (st2:St)(n0:Nat)(st:St):Prop:= ∃ js,n0<=st2.h.length/\Sub js n0 st st2
def Kk {E st:St}{n0:Nat}(js:List Nat)(h1:n0<=E.h.length)(h2:Sub js n0 st E):oo E n0 st:=⟨js,h1,h2⟩
def Ah (D:Nat->σ->St)(n0 k:Nat)(st:St):ρ⊕σ->Prop
 | .inl _=>False| .inr s'=>oo (D (k+1) s') n0 st
def uc (exE:ρ->Ex)(P1:ρ->St)(n0:Nat)(e:Ex)(st:St):ρ⊕σ->Prop
 | .inl x=>exE x=e/\oo (P1 x) n0 st| .inr _=>False
def cE (step:Nat->σ->ρ⊕σ)(n:Nat)(exE:ρ->Ex)(P1:ρ->St)(ao_:σ->St)(D:Nat->σ->St)(n0 id k:Nat)(s:σ):Ex->St->Prop
 | .normal,st=>k<n/\Ah D n0 k st (step k s)| .exit j,st=>bif Nat.beq j id then(n<=k->oo (ao_ s) n0 st)/\(k<n->uc exE P1 n0 .normal st (step k s))else k<n/\uc exE P1 n0 (.exit j) st (step k s)| .ret,st=>k<n/\uc exE P1 n0 .ret st (step k s)| .pan x,st=>k<n/\uc exE P1 n0 (.pan x) st (step k s)
variable {step:Nat->σ->ρ⊕σ}{n n0 id k j:Nat}{exE:ρ->Ex}{P1:ρ->St}{ao_:σ->St}{D:Nat->σ->St}{s s':σ}{st:St}{x:Value}{e:Ex}{y:ρ}
@[go_sem] def afg:= @Ah.eq_2
@[go_sem] def ahe:= @uc.eq_1
@[go_sem] def afh:= @cE.eq_1
@[go_sem] def ajQ:= @cE.eq_2
@[go_sem] def alh:= @cE.eq_3
@[go_sem] def ali:= @cE.eq_4
@[congr] theorem aaq {r r':ρ⊕σ}(h:r=r'):Ah D n0 k st r=Ah D n0 k st r':=by rw[h]
@[congr] theorem ahf {st st':St}{e e':Ex}(h:st=st')(he:e=e'):cE step n exE P1 ao_ D n0 id k s e st=cE step n exE P1 ao_ D n0 id k s e' st':=by rw[h,he]
theorem SI {ts:Tis}{G:Cons}{ro:Option Nat}{N:Nat}(hm:P.follows .mixedOrders=true)(hts:ts.ok P)(hG:X2 P G){id:Nat}{c:Code}(hc:cP N c=true){C:St->Option apN}
  (h:∀ st lc,C st=some lc->lc.pre->∃ (ρ σ:Type) (pre:Prop) (step:Nat->σ->ρ⊕σ) (p:Nat->σ->Prop) (n:Nat) (s0:σ) (exE:ρ->Ex) (P1:ρ->St) (ao_:σ->St) (D:Nat->σ->St) (O:St) (js:List Nat),
   lc=LC pre (aj step n 0 s0) exE P1 ao_/\okI step p n 0 s0/\apT st O/\st.h.length<=(D 0 s0).h.length/\Sub js st.h.length O (D 0 s0)/\
   ∀ k s,k<=n->(k<n->p k s)->∃ L,ak P ro N L c/\exec ts G L c (D k s) (cE step n exE P1 ao_ D st.h.length id k s)):kV P ro N id (.loop c) C:=by
 refine uI hm hts hG hc λst lc hC hp=>?_;obtain⟨ρ,σ,pre,step,p,n,s0,exE,P1,ao_,D,O,js,rfl,h1,hN,h2,h3,h4⟩:=h st lc hC hp;refine⟨Nat×σ,λx=>D x.1 x.2,λx=>x.1<=n/\okI step p (n - x.1) x.1 x.2/\aj step (n - x.1) x.1 x.2=aj step n 0 s0,λx=>n - x.1,(0,s0),O,js,⟨ame _,by omega,by simp⟩,hN,h2,h3,?_⟩;rintro⟨k,s⟩ ⟨hk,hJ,E⟩;simp only at hk hJ E;obtain⟨L,hl,hex⟩:=h4 k s hk (λhlt=>by
  rw[show n - k=(n - k - 1)+1 by omega]at hJ;exact hJ.1)
 refine⟨L,_,hl,?_,hex⟩;have U:∀ e st',k<n->uc exE P1 st.h.length e st' (step k s)->∃ r js,(LC pre (aj step n 0 s0) exE P1 ao_).post r/\(LC pre (aj step n 0 s0) exE P1 ao_).ex r=e/\st.h.length<=((LC pre (aj step n 0 s0) exE P1 ao_).out r).h.length/\Sub js st.h.length st' ((LC pre (aj step n 0 s0) exE P1 ao_).out r):=by
  intro e st' hlt q;cases V:step k s with
  |inr s'=>rw[V]at q;exact q.elim
  |inl x=>
   rw[V]at q;obtain⟨X,js,q3,q4⟩:=q;rw[show n - k=(n - k - 1)+1 by omega]at E;simp only[aj,V]at E;exact⟨.inl x,js,E,X,q3,q4⟩
 intro e st' Y;cases e with
 |normal=>
  obtain⟨q1,X⟩:=Y;cases V:step k s with
  |inl x=>rw[V]at X;exact X.elim
  |inr s'=>
   rw[V]at X;obtain⟨js,q3,q4⟩:=X;rw[show n - k=(n - (k+1))+1 by omega]at E hJ;simp only[aj,V]at E;exact⟨(k+1,s'),js,⟨q1,hJ.2 s' V,E⟩,by grind,q3,q4⟩
 |exit j=>
  have W:(bif Nat.beq j id then(n<=k->oo (ao_ s) st.h.length st')/\(k<n->uc exE P1 st.h.length .normal st' (step k s))else k<n/\uc exE P1 st.h.length (.exit j) st' (step k s)):=Y;show bif Nat.beq j id then _ else _;cases hb:Nat.beq j id with
  |true=>
   rw[hb]at W;simp only[cond_true]at W |-;by_cases hlt:k<n
   grind
   obtain⟨js,q3,q4⟩:=W.1 (by omega);have hkn:k=n:=by omega
   subst hkn;simp only[anI,aj]at E;exact⟨.inr s,js,E,rfl,q3,q4⟩
  |false=>grind
 |ret=>exact U _ _ Y.1 Y.2|pan x=>exact U _ _ Y.1 Y.2
end
def ft (p:Prop)(S:SV)(H:List Ob):apd:= { α:=Unit,pre:=p,post:=λ_=>True,res:=λ_=>.ret S H}
def VE (n0:Nat)(S:SV)(H:List Ob)(h:List Ob):Option SV->Prop
 |some s=>oo ⟨[(0,S)],H⟩ n0 ⟨[(0,s)],h⟩|none=>False
def Q0 (n0:Nat)(rs:List ResultVar)(ts:Tis)(S:SV)(H:List Ob):Ex->St->Prop
 | .exit _,_=>False| .normal,st=>VE n0 S H st.h (rj (pi ts st rs))| .ret,st=>VE n0 S H st.h (rj (pi ts st rs))| .pan _,_=>False
section
variable {P:Program}{ts:Tis}{G:Cons}{n0:Nat}{S s:SV}{H h:List Ob}{rs:List ResultVar}{st:St}{x:Value}{j:Nat}
@[go_sem] def afi:= @VE.eq_1
@[go_sem] def YI:= @Q0.eq_2
@[go_sem] def afj:= @Q0.eq_3
@[go_sem high] theorem acG {p:Prop}{ids:List Nat}{d:Option Nat}{K:St->Prop}{Z:Value->St->Prop}:yC ids d st K Z (some (ft p S H))=(p/\JK ids d st K Z (.ret S H)):=by
 show(p/\∀ r:Unit,True->JK ids d st K Z (.ret S H))=_;simp
def hCR (t:Tag)(k:List t.T->Option apd):List Ob->Option apd
 | [.cells [.os 1],.row k' l] =>if h:k'=t then k (h▸l)else none|_=>none
theorem ajR {t:Tag}{k:List t.T->Option apd}{h:List Ob}{c:apd}(E:hCR t k h=some c):∃ l,h=[.cells [.os 1],.row t l]/\k l=some c:=by
 unfold hCR at E;grind
open Classical in
noncomputable def pQ {α:Type 1}(X:SV)(k:List SV->Option α):List SV->Option α
 |s::r=>if s=X then k r else none| [] =>none
variable {α:Type 1}{X:SV}{k:List SV->Option α}{r:List SV}
@[go_sem] theorem asD:pQ X k (X::r)=k r:=by simp[pQ]
theorem E9{l:List SV}{c:α}(h:pQ X k l=some c):∃ r,l=X::r/\k r=some c:=by
 unfold pQ at h;grind
def pXR {α:Type 1}(t:Tag)(k:List t.T->List SV->Option α):List SV->Option α
 | .ep [.rs k' l] 0::r=>IL t k r k' l|_=>none
@[go_sem] theorem alj{t:Tag}{k:List t.T->List SV->Option α}{l:List t.T}:pXR t k (.ep [.rs t l] 0::r)=k l r:=by simp[pXR,IL]
theorem YJ{t:Tag}{k:List t.T->List SV->Option α}{l:List SV}{c:α}(h:pXR t k l=some c):∃ x r,l=.ep [.rs t x] 0::r/\k x r=some c:=by
 unfold pXR at h;grind [IL]
theorem MD (hm:P.follows .mixedOrders=true) (Y:ts.ok P) (hG:X2 P G) {f:FuncId} {fn:Func} {c:Code} (hf:P.funcs[f]? =some fn) (hb:fn.body=some c) (U:(fn.name== "runtime.NumGoroutine")=false)
  (hc:cP fn.ntmps c=true) {C:List SV->List Ob->Option apd}
  (h:∀ l o O,C l o=some O->∃ p S H,O=ft p S H/\(p->l.length<=fn.ntmps/\∃ L,ak P none fn.ntmps L c/\exec ts G L c ⟨nY 0 l,o⟩ (Q0 o.length fn.results.toList ts S H))):ape P f C:=by
 refine E3 hm Y hG hf hb U hc λl o O hC hp=>?_;obtain⟨p,S,H,rfl,h2⟩:=h l o O hC;obtain⟨h3,L,h4,h5⟩:=h2 hp;refine⟨h3,L,_,h4,λe st E=>?_,h5⟩;cases e with
 |normal=>
  change VE _ _ _ _ _ at E;show Er _ _ _ _;cases V:rj (pi ts st fn.results.toList)with
  |none=>rw[V]at E;exact E.elim
  |some s=>rw[V]at E;obtain⟨js,W,X⟩:=E;exact⟨(),S,H,js,trivial,rfl,W,X⟩
 |ret=>
  change VE _ _ _ _ _ at E;show Er _ _ _ _;cases V:rj (pi ts st fn.results.toList)with
  |none=>rw[V]at E;exact E.elim
  |some s=>rw[V]at E;obtain⟨js,W,X⟩:=E;exact⟨(),S,H,js,trivial,rfl,W,X⟩
 |exit j=>exact E.elim|pan x=>exact E.elim
end
end Go.Sx
end
section
namespace Go.Sx
attribute [go_sem] true_imp_iff false_imp_iff Bool.false_eq_true Int.toNat_natCast Int.toNat_zero true_and and_true and_self implies_true forall_const
theorem cl {p:Prop}(h:p:=by(first|done|(repeat' (first|with_reducible refine And.intro ?_ ?_|((with_reducible show _≠_);first|assumption|omega|(simp_all [ci,d8];done) |grind) |with_reducible intro _)) <;>(first|done|with_reducible exact Empty.elim ‹Empty› |with_reducible assumption|rfl|omega|assumption|(simp only[*,cond_true,cond_false,alZ,amd,go_sem,Nat.reduceBEq,Nat.reduceLeDiff,Nat.reduceAdd,Nat.reduceSub,Nat.reduceMul,Int.reduceLE,Int.reduceLT,Int.reduceToNat,Int.reduceNeg,reduceCtorEq];done) |(simp only[*,cond_true,cond_false,alZ,amd,go_sem,Nat.reduceBEq,Nat.reduceLeDiff,Nat.reduceAdd,Nat.reduceSub,Nat.reduceMul,Int.reduceLE,Int.reduceLT,Int.reduceToNat,Int.reduceNeg,reduceCtorEq];(repeat' (first|with_reducible refine And.intro ?_ ?_|((with_reducible show _≠_);first|assumption|omega|(simp_all [ci,d8];done) |grind) |with_reducible intro _)) <;>(first|done|assumption|rfl|omega|(simp_all [ci,d8];done))) |(simp_all [okI,ci,d8];done) |grind))):p:=h
theorem cl2 {p:Prop}(h:p:=by(first|done|(repeat' (first|with_reducible refine And.intro ?_ ?_|((with_reducible show _≠_);first|assumption|omega|(simp_all [ci,d8];done) |grind) |with_reducible intro _)) <;>(first|done|with_reducible exact Empty.elim ‹Empty› |with_reducible assumption|rfl|omega|assumption|(simp only[*,go_sem,Nat.reduceBEq,Nat.reduceLeDiff,Nat.reduceAdd,Nat.reduceSub,Nat.reduceMul,Int.reduceLE,Int.reduceLT,Int.reduceToNat,Int.reduceNeg,reduceCtorEq];done) |(simp_all [ci,d8];done)))):p:=h
inductive JL:List Nat->Prop
 |mk (l:List Nat):JL l
def jl (l:List Nat):JL l:=.mk l
variable {js:List Nat}
theorem fk{E st:St}{n0:Nat}(_:JL js)(h1:n0<=E.h.length:=by(first|(show _<=_;decide) |(simp only[*,go_sem,Nat.reduceBEq,Nat.reduceLeDiff,Nat.reduceAdd,Nat.reduceSub,Nat.reduceMul,Int.reduceLE,Int.reduceLT,Int.reduceToNat,Int.reduceNeg,reduceCtorEq];done) |(simp only[*,go_sem,Nat.reduceBEq,Nat.reduceLeDiff,Nat.reduceAdd,Nat.reduceSub,Nat.reduceMul,Int.reduceLE,Int.reduceLT,Int.reduceToNat,Int.reduceNeg,reduceCtorEq];(repeat' (first|with_reducible refine And.intro ?_ ?_|((with_reducible show _≠_);first|assumption|omega|(simp_all [ci,d8];done) |grind) |with_reducible intro _)) <;>(first|rfl|decide|assumption|omega|(simp_all [ci,d8];done)))))(h2:Sub js n0 st E:=by(first|(show _<=_;decide) |(simp only[*,go_sem,Nat.reduceBEq,Nat.reduceLeDiff,Nat.reduceAdd,Nat.reduceSub,Nat.reduceMul,Int.reduceLE,Int.reduceLT,Int.reduceToNat,Int.reduceNeg,reduceCtorEq];done) |(simp only[*,go_sem,Nat.reduceBEq,Nat.reduceLeDiff,Nat.reduceAdd,Nat.reduceSub,Nat.reduceMul,Int.reduceLE,Int.reduceLT,Int.reduceToNat,Int.reduceNeg,reduceCtorEq];(repeat' (first|with_reducible refine And.intro ?_ ?_|((with_reducible show _≠_);first|assumption|omega|(simp_all [ci,d8];done) |grind) |with_reducible intro _)) <;>(first|rfl|decide|assumption|omega|(simp_all [ci,d8];done))))):oo E n0 st:=Kk js h1 h2
theorem fk2{E st:St}{n0:Nat}(_:JL js)(h1:n0<=E.h.length:=by(first|(show _<=_;decide) |(simp only[go_sem,Nat.reduceBEq,Nat.reduceLeDiff,Nat.reduceAdd,Nat.reduceSub,Nat.reduceMul,Int.reduceLE,Int.reduceLT,Int.reduceToNat,Int.reduceNeg,reduceCtorEq];(repeat' (first|with_reducible refine And.intro ?_ ?_|((with_reducible show _≠_);first|assumption|omega|(simp_all [ci,d8];done) |grind) |with_reducible intro _)) <;>(first|rfl|decide|assumption|omega|(simp_all [ci,d8];done)))))(h2:Sub js n0 st E:=by(first|(show _<=_;decide) |(simp only[go_sem,Nat.reduceBEq,Nat.reduceLeDiff,Nat.reduceAdd,Nat.reduceSub,Nat.reduceMul,Int.reduceLE,Int.reduceLT,Int.reduceToNat,Int.reduceNeg,reduceCtorEq];(repeat' (first|with_reducible refine And.intro ?_ ?_|((with_reducible show _≠_);first|assumption|omega|(simp_all [ci,d8];done) |grind) |with_reducible intro _)) <;>(first|rfl|decide|assumption|omega|(simp_all [ci,d8];done))))):oo E n0 st:=Kk js h1 h2
variable {α:Type _}{p:α->Prop}
theorem C1:∀ x∈([]:List α),p x:=λ_ h=>by cases h
theorem cgc{a:α}{l:List α}(h:p a)(t:∀ x∈l,p x):∀ x∈a::l,p x:=λx hx=>by
 rcases alV.1 hx with rfl|hx;exact h;exact t x hx
attribute [go_sem] if_true
end Go.Sx
end
section
namespace Go.Sx
open Go.RowKit
open IntKind (i64)
section
variable {P:Program}
end
def okL {ρ σ τ:Type}(step:τ->σ->ρ⊕σ)(p:τ->σ->Prop):List τ->σ->Prop
 | [],_=>True|x::l,s=>p x s/\∀ s',step x s=.inr s'->okL step p l s'
theorem DR {ρ σ τ:Type}{step:τ->σ->ρ⊕σ}{p:τ->σ->Prop}:∀ (l:List τ) (s:σ),(∀ x∈l,∀ s,p x s)->okL step p l s
 | [],_,_=>trivial
 |x::l,s,h=>⟨h x (by simp) s,λs' _=>DR l s' λy hy=>h y (by simp[hy])⟩
section
variable {ρ σ τ:Type}
def rgN (T:List (Nat×SV))(H:σ->List Ob)(n0:Nat)(st:St):ρ⊕σ->Prop
 | .inl _=>False| .inr s'=>oo ⟨T,H s'⟩ n0 ⟨T,st.h⟩
def rgX (exE:ρ->Ex)(T:List (Nat×SV))(Hy:ρ->List Ob)(n0:Nat)(e:Ex)(st:St):ρ⊕σ->Prop
 | .inl y=>exE y=e/\oo ⟨T,Hy y⟩ n0 ⟨T,st.h⟩| .inr _=>False
def rgQ (step:τ->σ->ρ⊕σ)(exE:ρ->Ex)(T:List (Nat×SV))(H:σ->List Ob)(Hy:ρ->List Ob)(n0 id:Nat)(x:τ)(s:σ):Ex->St->Prop
 | .normal,st=>rgN T H n0 st (step x s)| .exit j,st=>rgX exE T Hy n0 (bif Nat.beq j id then .normal else .exit j) st (step x s)| .ret,st=>rgX exE T Hy n0 .ret st (step x s)| .pan _,_=>False
variable {step:τ->σ->ρ⊕σ}{exE:ρ->Ex}{T:List (Nat×SV)}{H:σ->List Ob}{Hy:ρ->List Ob}{n0 id j:Nat}{x:τ}{s s':σ}{y:ρ}{st:St}{e:Ex}
@[go_sem] def ajS:= @rgN.eq_2
@[go_sem] def ajT:= @rgX.eq_1
@[go_sem] def acH:= @rgQ.eq_1
@[go_sem] def ajU:= @rgQ.eq_3
@[go_sem] def ahg:= @rgQ.eq_2
variable {r r':ρ⊕σ}
@[congr] theorem afk(h:r=r'):rgN T H n0 st r=rgN T H n0 st r':=by rw[h]
@[congr] theorem afl{e e':Ex}(h:r=r')(he:e=e'):rgX exE T Hy n0 e st r=rgX exE T Hy n0 e' st r':=by rw[h,he]
end
section
variable {P:Program}{ts:Tis}{G:Cons}{N:Nat}
theorem se (hm:P.follows .mixedOrders=true)(hts:ts.ok P)(hG:X2 P G){id:Nat}{g:Operand}{ps:Array Tmp}{assign body:Code}{C:St->Option apN}
  (hpn:ps.toList.Nodup) (hpN:∀ p∈ps.toList,p<N) (hca:cP N assign=true) (hcb:cP N body=true)
  (h:∀ st lc,C st=some lc->lc.pre->∃ (f:FuncId) (caps:List SV) (τ ρ σ:Type) (l:List τ) (mk:τ->List SV) (step:τ->σ->ρ⊕σ) (p:τ->σ->Prop) (pre:Prop) (s0:σ) (exE:ρ->Ex) (P1:ρ->St) (ao_:σ->St) (T:List (Nat×SV)) (H:σ->List Ob) (Hy:ρ->List Ob) (js:List Nat),
   raw st.t g=.fn f [] caps/\lc=LC pre (di step l s0) exE P1 ao_/\okL step p l s0/\st.h.length<=(H s0).length/\Sub js st.h.length ⟨st.t,sI (jR st caps) st.h⟩ ⟨T,H s0⟩/\
   Af P f (λy=>y::caps.map (ren (Pe (jR st caps)) 3)) (Mx (jR st caps) st.h) (l.map mk)/\
   (∀ x s,p x s->(mk x).length=ps.size/\∃ L,(∀ l,ak P (some l) N L assign)/\(∀ l,ak P (some l) N L body)/\exec ts G L assign ⟨psT ps.toList (mk x)++T,H s⟩ (λe st1=>e=.normal/\exec ts G L body st1 (rgQ step exE T H Hy st.h.length id x s)))/\
   (∀ s,oo (ao_ s) st.h.length ⟨T,H s⟩)/\∀ y,oo (P1 y) st.h.length ⟨T,Hy y⟩):kV P none N id (.rangeFunc g ps assign body) C:=by
 refine My hm hts hG hpn hpN hca hcb λst lc hC hp=>?_;obtain⟨f,caps,τ,ρ,σ,l,mk,step,p,pre,s0,exE,P1,ao_,T,H,Hy,js,h1,rfl,h2,h3,h4,h5,h6,h7,h8⟩:=h st lc hC hp;refine⟨f,caps,l.map mk,σ⊕ρ,T,λz=>match z with| .inl s=>H s| .inr y=>Hy y,λk z=>match z with| .inl s=>di step (l.drop k) s=di step l s0/\okL step p (l.drop k) s| .inr _=>False,
  λe z=>match z with| .inl _=>False| .inr y=>di step l s0=.inl y/\(match e with| .ret=>exE y=.ret| .exit j=>exE y=(bif Nat.beq j id then .normal else .exit j) |_=>False),.inl s0,js,h1,⟨rfl,h2⟩,h3,h4,h5,?_,?_,?_,?_⟩
 rintro k z args hk hI;cases z with
 |inr y=>exact hI.elim
 |inl s=>
  obtain⟨U,W⟩:=hI;rw[amB,amX]at hk;obtain⟨x,hx,rfl⟩:=hk;have hlt:=(alM.1 hx).1;have hd:l.drop k=x::l.drop (k+1):=by
   grind [List.drop_eq_getElem_cons]
  rw[hd]at U W;obtain⟨hl,L,hla,hlb,hex⟩:=h6 x s W.1;refine⟨hl,L,_,hla,hlb,?_,hex⟩;intro e st' V;have fin:∀ e',rgX exE T Hy st.h.length e' st' (step x s)->∃ y js,exE y=e'/\di step l s0=.inl y/\st.h.length<=(Hy y).length/\Sub js st.h.length ⟨T,st'.h⟩ ⟨T,Hy y⟩:=by
   intro e' q;cases Y:step x s with
   |inr s'=>rw[Y]at q;exact q.elim
   |inl y=>
    rw[Y]at q;obtain⟨E,js,O,q3⟩:=q;grind [di]
  cases e with
  |normal=>
   change rgN T H st.h.length st' (step x s)at V;cases Y:step x s with
   |inl y=>rw[Y]at V;exact V.elim
   |inr s'=>
    rw[Y]at V;obtain⟨js,E,O⟩:=V;simp only[di,Y]at U;exact⟨.inl s',js,⟨U,W.2 s' Y⟩,E,O⟩
  |exit j=>
   obtain⟨y,js,E,O,q3,q4⟩:=fin _ V;exact⟨.inr y,js,⟨O,E⟩,q3,q4⟩
  |ret=>
   obtain⟨y,js,E,O,q3,q4⟩:=fin _ V;exact⟨.inr y,js,⟨O,E⟩,q3,q4⟩
  |pan x=>exact V.elim
 intro z hI;cases z with
 |inr y=>exact hI.elim
 |inl s=>
  obtain⟨js,E,O⟩:=h7 s;have:=hI.1;rw[amM,aoq]at this;exact⟨.inr s,js,this,rfl,E,O⟩
 intro z X;cases z with
 |inl s=>exact X.elim
 |inr y=>
  obtain⟨js,E,O⟩:=h8 y;exact⟨.inl y,js,X.1.symm,X.2,E,O⟩
 intro j z X;cases z with
 |inl s=>exact X.elim
 |inr y=>
  obtain⟨js,E,O⟩:=h8 y;refine⟨.inl y,js,X.1.symm,?_,E,O⟩;have:=X.2;show exE y=_;rw[this];by_cases hj:j=id
  rw[if_pos hj];have hb:Nat.beq j id=true:=by rw[hj];exact aoZ id
  rw[hb];rfl;rw[if_neg hj];cases hb:Nat.beq j id with
  |true=>exact absurd (alH hb) hj|false=>rfl
end
section
variable {P:Program}{ρ σ τ:Type}
def zh:Ob->Option Nat
 | .mi _ _ _ c=>c|_=>none
def nxC (step:τ->σ->ρ⊕σ)(l:List τ)(d:τ)(D:List Nat->Option Nat->σ->St)(n0:Nat)(left:List Nat)(s:σ)(st:St):Option Nat->Prop
 |some j=>j∈left/\Ah (λ_ s'=>D (left.erase j) (some j) s') n0 0 st (step (l.getD j d) s)
 |none=>False
def exC (step:τ->σ->ρ⊕σ)(l:List τ)(d:τ)(exE:ρ->Ex)(P1:ρ->St)(n0:Nat)(left:List Nat)(s:σ)(e:Ex)(st:St):Option Nat->Prop
 |some j=>j∈left/\uc exE P1 n0 e st (step (l.getD j d) s)|none=>False
def cM (step:τ->σ->ρ⊕σ)(l:List τ)(d:τ)(exE:ρ->Ex)(P1:ρ->St)(ao_:σ->St)(D:List Nat->Option Nat->σ->St)(n0 id it:Nat)(left:List Nat)(s:σ):Ex->St->Prop
 | .normal,st=>nxC step l d D n0 left s st (zh (ap st.h it))| .exit j,st=>bif Nat.beq j id then(left=[]->oo (ao_ s) n0 st)/\(left≠[]->exC step l d exE P1 n0 left s .normal st (zh (ap st.h it)))else exC step l d exE P1 n0 left s (.exit j) st (zh (ap st.h it))| .ret,st=>exC step l d exE P1 n0 left s .ret st (zh (ap st.h it))| .pan x,st=>exC step l d exE P1 n0 left s (.pan x) st (zh (ap st.h it))
variable {step:τ->σ->ρ⊕σ}{l:List τ}{d:τ}{n0 id it j:Nat}{exE:ρ->Ex}{P1:ρ->St}{ao_:σ->St}{D:List Nat->Option Nat->σ->St}{left:List Nat}{s s':σ}{st:St}{x:Value}{e:Ex}{y:ρ}{t:List (Nat×SV)}{h:List Ob}
@[go_sem] def ajV:= @zh.eq_1
@[go_sem] def ahh:= @nxC.eq_1
@[go_sem] def ahi:= @exC.eq_1
def afm:cM step l d exE P1 ao_ D n0 id it left s .normal ⟨t,h⟩=nxC step l d D n0 left s ⟨t,h⟩ (zh (ap h it)):=(rfl)
def ajW:cM step l d exE P1 ao_ D n0 id it left s (.exit j) ⟨t,h⟩=bif Nat.beq j id then(left=[]->oo (ao_ s) n0 ⟨t,h⟩)/\(left≠[]->exC step l d exE P1 n0 left s .normal ⟨t,h⟩ (zh (ap h it)))else exC step l d exE P1 n0 left s (.exit j) ⟨t,h⟩ (zh (ap h it)):=(rfl)
def alk:cM step l d exE P1 ao_ D n0 id it left s .ret ⟨t,h⟩=exC step l d exE P1 n0 left s .ret ⟨t,h⟩ (zh (ap h it)):=(rfl)
def alm:cM step l d exE P1 ao_ D n0 id it left s (.pan x) ⟨t,h⟩=exC step l d exE P1 n0 left s (.pan x) ⟨t,h⟩ (zh (ap h it)):=(rfl)
attribute[go_sem]afm ajW alk alm
@[congr] theorem ahj {st st':St}{e e':Ex}(h:st=st')(he:e=e'):cM step l d exE P1 ao_ D n0 id it left s e st=cM step l d exE P1 ao_ D n0 id it left s e' st':=by rw[h,he]
attribute [go_sem] T6
def ahk {t:List (Nat×SV)}{h:List Ob}{d:Nat}{s:SV}:St.put ⟨t,h⟩ (some d) s=⟨(d,s)::t,h⟩:=(rfl)
def ahl {t:List (Nat×SV)}{h:List Ob}{s:SV}:St.put ⟨t,h⟩ none s=⟨t,h⟩:=(rfl)
attribute[go_sem]ahk ahl
theorem E_ (l:List τ)(d:τ):(List.range l.length).map (λj=>l.getD j d)=l:=by
 apply aor <;>grind
end
inductive aqh where
 |slot (i:Nat) (o:Ob)
 |cell (i j:Nat) (o:Ob)
def acI (j n:Nat):Ob->Ob
 | .cells l=>.cells (l.set j (.os n))|o=>o
def acJ (j:Nat):Ob->Prop
 | .cells l=>nth l j=some (.v (.slice none 0 0))|_=>False
def ME:Ob->Prop
 | .row _ l=>l=[]| .apw _ l=>l=[]|_=>False
def VF:SV->Ob->Prop
 | .v (.slice none 0 0),_=>True| .e0,.row _ _=>True|_,_=>False
def mkN:List aqh->St->St
 | [],st=>st| .slot i o::r,⟨t,h⟩ =>mkN r ⟨(i,.os h.length)::t,h++[o]⟩| .cell i j o::r,⟨t,h⟩ =>mkN r ⟨t,cm h i (acI j h.length (ap h i))++[o]⟩
def okN:List aqh->St->Prop
 | [],_=>True| .slot i o::r,⟨t,h⟩ =>VF (lk i t) o/\ME o/\okN r ⟨(i,.os h.length)::t,h++[o]⟩| .cell i j o::r,⟨t,h⟩ =>acJ j (ap h i)/\ME o/\okN r ⟨t,cm h i (acI j h.length (ap h i))++[o]⟩
section
variable {i j m n:Nat}{o:Ob}{r:List aqh}{t t2:List (Nat×SV)}{h h2:List Ob}{l:List SV}{ns:List aqh}{js:List Nat}{st:St}
@[go_sem] def ajX:= @mkN.eq_1
@[go_sem] def ahm:= @mkN.eq_2
@[go_sem] def ahn:= @mkN.eq_3
@[go_sem] def ajY:= @okN.eq_1
@[go_sem] def aho:= @okN.eq_2
@[go_sem] def ahp:= @okN.eq_3
@[go_sem] theorem ahq:VF (.v (.slice none 0 0)) o=True:=by rfl
@[go_sem] def ajZ:= @VF.eq_2
@[go_sem] def acK:= @acI.eq_1
@[go_sem] def acL:= @acJ.eq_1
theorem Q2 (h:ME o):(∃ k,o=.row k [])\/∃ k,o=.apw k []:=by
 cases o <;>simp only[ME]at h <;>simp_all
theorem VG {s:SV}{o:Ob}(h:VF s o):s=.v (.slice none 0 0)\/(s=.e0/\∃ k l,o=.row k l):=by
 unfold VF at h;grind
theorem wY:∀ (ns:List aqh) (E st:St),apT E st->okN ns st->apT E (mkN ns st)
 | [],_,_,hn,_=>hn
 | .slot i o::r,E,⟨t,h⟩,hn,hk=>by
  rcases VG hk.1 with e| ⟨e,k,l,O⟩;exact wY r E _ (.slot o hn e (Q2 hk.2.1)) hk.2.2;have h2:=hk.2.1;have U:=hk.2.2;rw[O]at h2 U;simp only[ME]at h2;subst h2;subst O;exact wY r E _ (.aqV k hn e) U
 | .cell i j o::r,E,⟨t,h⟩,hn,hk=>by
  refine wY r E _ ?_ hk.2.2;have h1:=hk.1;cases O:ap h i with
  |cells l=>
   rw[O]at h1;simp only[acJ,gu]at h1;exact .cell o hn O h1 (Q2 hk.2.1)
  |_=>rw[O]at h1;exact h1.elim
def sK (m:Nat)(ns:List aqh)(js:List Nat)(st d:St):Prop:=st.h.length=m/\okN ns st/\m<=d.h.length/\Sub js m (mkN ns st) d
@[go_sem]def afn:sK m ns js ⟨t,h⟩ ⟨t2,h2⟩=(h.length=m/\okN ns ⟨t,h⟩/\m<=h2.length/\Sub js m (mkN ns ⟨t,h⟩) ⟨t2,h2⟩):=(rfl)
end
theorem ag {P:Program}{ro:Option Nat}{N:Nat}(c:Code):ak P ro N L0 c:=by
 induction c with
 |seq a b O E=>exact⟨O,E⟩|cond _ a b O E=>exact⟨O,E⟩
 |block id c hc=>
  cases c with
  |loop c=>exact λ_ _ _ _ _ h=>by cases h
  |rangeFunc f U a b=>exact λ_ _ _ _ _ h=>by cases h
  |_=>exact hc
 |_=>trivial
section
variable {ρ σ τ:Type}
def pT:Nat->σ->Prop:=λ_ _=>True
@[go_sem]def aln {step:Nat->σ->ρ⊕σ}{n i:Nat}{s:σ}:okI step pT n i s=True:=eq_true (gX _ _ _ λ_ _ _ _=>trivial)
def LCR (m:Nat)(ns:List aqh)(js:List Nat)(D:Nat->σ->St)(step:Nat->σ->ρ⊕σ)(p:Nat->σ->Prop)(n:Nat)(s0:σ)(B:Prop)(exE:ρ->Ex)(P1:ρ->St)(st:St):apN:=
 LC (sK m ns js st (D 0 s0)/\B/\okI step p n 0 s0) (aj step n 0 s0) exE P1 (D n)
def LCV (m:Nat)(ns:List aqh)(js:List Nat)(D:Nat->σ->St)(step:Nat->σ->ρ⊕σ)(p:Nat->σ->Prop)(n:Nat)(s0:σ)(exE:ρ->Ex)(P1:ρ->St)(st:St):apN:=
 LC (sK m ns js st (D 0 s0)/\okI step p n 0 s0/\∀ s,aj step n 0 s0≠ .inr s) (aj step n 0 s0) exE P1 (D n)
variable {m:Nat}{ns:List aqh}{js:List Nat}{step:Nat->σ->ρ⊕σ}{p:Nat->σ->Prop}{n:Nat}{s0:σ}{B:Prop}{exE:ρ->Ex}{P1:ρ->St}{ao_:σ->St}{st:St}{Q:Ex->St->Prop}
variable {D:Nat->σ->St}
@[go_sem]def afo:rI Q (some (LCR m ns js D step p n s0 B exE P1 st))=((sK m ns js st (D 0 s0)/\B/\okI step p n 0 s0)/\(∀ x,aj step n 0 s0=.inl x->Q (exE x) (P1 x))/\∀ s,aj step n 0 s0=.inr s->Q .normal (D n s)):=Mv
@[go_sem] theorem afp:rI Q (some (LCV m ns js D step p n s0 exE P1 st))=((sK m ns js st (D 0 s0)/\okI step p n 0 s0/\∀ s,aj step n 0 s0≠ .inr s)/\∀ x,aj step n 0 s0=.inl x->Q (exE x) (P1 x)):=by
 refine Mv.trans ?_;grind
def cR (step:Nat->σ->ρ⊕σ)(exE:ρ->Ex)(P1:ρ->St)(D:Nat->σ->St)(m id k:Nat)(s:σ):Ex->St->Prop
 | .normal,st=>Ah D m k st (step k s)| .exit j,st=>uc exE P1 m (bif Nat.beq j id then .normal else .exit j) st (step k s)| .ret,st=>uc exE P1 m .ret st (step k s)| .pan x,st=>uc exE P1 m (.pan x) st (step k s)
def cZ (d:St)(m id:Nat):Ex->St->Prop
 | .exit j,st=>bif Nat.beq j id then oo d m st else False|_,_=>False
variable {D:Nat->σ->St}{id k j:Nat}{s:σ}{x:Value}{d:St}{e e':Ex}
@[go_sem] def afq:= @cR.eq_1
@[go_sem] def aj0:= @cR.eq_2
@[go_sem] def alo:= @cR.eq_3
@[go_sem] def alp:= @cR.eq_4
@[go_sem] def aj1:= @cZ.eq_1
@[congr] theorem ahr {st':St}(h:st=st')(he:e=e'):cR step exE P1 D m id k s e st=cR step exE P1 D m id k s e' st':=by rw[h,he]
@[congr] theorem ahs {st':St}(h:st=st')(he:e=e'):cZ d m id e st=cZ d m id e' st':=by rw[h,he]
@[congr] theorem aar {r r':ρ⊕σ}(h:r=r')(he:e=e'):uc exE P1 m e st r=uc exE P1 m e' st r':=by rw[h,he]
end
section
variable {P:Program}{ρ σ τ:Type}{ts:Tis}{G:Cons}{ro:Option Nat}{N:Nat}{id:Nat}{c:Code}{C:St->Option apN}{m:Nat}{ns:List aqh}{js:List Nat}{step:Nat->σ->ρ⊕σ}{p:Nat->σ->Prop}{n:Nat}{s0:σ}{exE:ρ->Ex}{P1:ρ->St}{D:Nat->σ->St}
theorem VH {n0:Nat}(W:n0=m){s:σ}{k:Nat}(hlt:k<n){I:Nat×σ->Prop}{μ:Nat×σ->Nat}{ao_:σ->St}{pre:Prop}{E:ρ⊕σ}
  (hI:∀ s',step k s=.inr s'->I (k+1,s')/\μ (k+1,s') <μ (k,s)) (hx:∀ x,step k s=.inl x->E=.inl x):
  ∀ e st',cR step exE P1 D m id k s e st'->ve (λx:Nat×σ=>D x.1 x.2) I μ n0 (k,s) id (λe st'=>∃ r js,(LC pre E exE P1 ao_).post r/\(LC pre E exE P1 ao_).ex r=e/\n0<=((LC pre E exE P1 ao_).out r).h.length/\Sub js n0 st' ((LC pre E exE P1 ao_).out r)) e st':=by
 subst W;have U:∀ e st',uc exE P1 n0 e st' (step k s)->∃ r js,(LC pre E exE P1 ao_).post r/\(LC pre E exE P1 ao_).ex r=e/\n0<=((LC pre E exE P1 ao_).out r).h.length/\Sub js n0 st' ((LC pre E exE P1 ao_).out r):=by
  intro e st' q;cases V:step k s with
  |inr s'=>rw[V]at q;exact q.elim
  |inl x=>
   rw[V]at q;obtain⟨q2,js,X,Y⟩:=q;exact⟨.inl x,js,(hx x V).symm,q2,X,Y⟩
 intro e st' O;cases e with
 |normal=>
  change Ah D n0 k st' (step k s)at O;cases V:step k s with
  |inl x=>rw[V]at O;exact O.elim
  |inr s'=>
   rw[V]at O;obtain⟨js,X,Y⟩:=O;obtain⟨i1,i2⟩:=hI s' V;exact⟨(k+1,s'),js,i1,i2,X,Y⟩
 |exit j=>
  change uc exE P1 n0 (bif Nat.beq j id then .normal else .exit j) st' (step k s)at O;show bif Nat.beq j id then _ else _;grind
 |ret=>exact U _ _ O|pan x=>exact U _ _ O
theorem Bu {B:Prop}(hm:P.follows .mixedOrders=true)(hts:ts.ok P)(hG:X2 P G)(hc:cP N c=true)(hC:∀ st,C st=some (LCR m ns js D step p n s0 B exE P1 st))
  (h:B->∀ k s,k<n->p k s->∃ L Q,ak P ro N L c/\(∀ e st',Q e st'->cR step exE P1 D m id k s e st')/\exec ts G L c (D k s) Q)
  (h2:B->∀ s,∃ Q,(∀ e st',Q e st'->cZ (D n s) m id e st')/\exec ts G L0 c (D n s) Q):kV P ro N id (.loop c) C:=by
 refine uI hm hts hG hc λst lc V hp=>?_;rw[hC st]at V;cases V;obtain⟨⟨O,hok,hle,hsub⟩,hB,h1⟩:=hp;refine⟨Nat×σ,λx=>D x.1 x.2,λx=>x.1<=n/\okI step p (n - x.1) x.1 x.2/\aj step (n - x.1) x.1 x.2=aj step n 0 s0,λx=>n - x.1,(0,s0),mkN ns st,js,⟨ame _,by omega,by simp⟩,wY ns st st (.refl _) hok,by grind,by grind,?_⟩;rintro⟨k,s⟩ ⟨hk,W,E⟩;simp only at hk W E;rcases amN k n with hlt|hge;rw[show n - k=(n - k - 1)+1 by omega]at E W;obtain⟨L,Q,hl,hQ,U⟩:=h hB k s hlt W.1;have hI:∀ s',step k s=.inr s'->okI step p (n - (k+1)) (k+1) s'/\aj step (n - (k+1)) (k+1) s'=aj step n 0 s0:=λs' X=>by
  have:=W.2 s' X;grind [aj]
 have hx:∀ x,step k s=.inl x->aj step n 0 s0=.inl x:=λx X=>by
  grind [aj]
 exact⟨L,Q,hl,λe st' q=>VH O hlt (λs' X=>⟨⟨hlt,hI s' X⟩,by omega⟩) hx e st' (hQ e st' q),U⟩;have hkn:k=n:=by omega
 subst hkn;obtain⟨Q,hQ,U⟩:=h2 hB s;refine⟨L0,Q,ag c,λe st' q=>?_,U⟩;have Y:=hQ e st' q;simp only[anI,aj]at E;cases e with
 |exit j=>
  change bif Nat.beq j id then oo (D k s) m st' else False at Y;show bif Nat.beq j id then _ else _;cases hb:Nat.beq j id with
  |true=>
   rw[hb]at Y;obtain⟨js,q3,q4⟩:=Y;exact⟨.inr s,js,E,rfl,by rw[O];exact q3,by rw[O];exact q4⟩
  |false=>grind
 |_=>exact Y.elim
theorem bL {B:Prop}(X:P.follows .mixedOrders=true)(E:ts.ok P)(hG:X2 P G)(hc:cP N c=true)(O:∀ st,C st=some (LCR m ns js D step p n s0 B exE P1 st))(M:Int)(U:n=M.toNat)(W:B->M<9223372036854775808)
  (h:B->∀ k s,k<n->p k s->i64.wrap ((k:Int)+1)=((k+1:Nat):Int)->decide ((k:Int) <M)=true->∃ L,ak P ro N L c/\exec ts G L c (D k s) (cR step exE P1 D m id k s))
  (h2:B->∀ s,decide ((n:Int) <M)=false->exec ts G L0 c (D n s) (cZ (D n s) m id)):kV P ro N id (.loop c) C:=by
 refine Bu X E hG hc O (λb k s hlt V=>?_) λb s=>⟨_,λ_ _ q=>q,h2 b s ?_⟩;obtain⟨L,h1,Y⟩:=h b k s hlt V (QY (U▸hlt) (W b)) (decide_eq_true (by omega));grind
 grind
theorem ez (E:Prop)(X:P.follows .mixedOrders=true)(U:ts.ok P)(hG:X2 P G)(hc:cP N c=true)(V:∀ st,C st=some (LCR m ns js D step p n s0 True exE P1 st))(M:Int)(hn:n=M.toNat)(Y:E->M<9223372036854775808)
  (h:E->∀ k s,k<n->p k s->i64.wrap ((k:Int)+1)=((k+1:Nat):Int)->decide ((k:Int) <M)=true->∃ L,ak P ro N L c/\exec ts G L c (D k s) (cR step exE P1 D m id k s))
  (h2:E->∀ s,decide ((n:Int) <M)=false->exec ts G L0 c (D n s) (cZ (D n s) m id)) (W:¬E->∀ k s,exec ts G L0 c (D k s) λ_ _=>False):kV P ro N id (.loop c) C:=by
 by_cases O:E
 refine Bu X U hG hc V (λb k s hlt hp=>?_) λb s=>⟨_,λ_ _ q=>q,h2 O s ?_⟩;obtain⟨L,h1,h4⟩:=h O k s hlt hp (QY (hn▸hlt) (Y O)) (decide_eq_true (by omega));grind
 grind
 exact Bu X U hG hc V (λ_ k s _ _=>⟨L0,_,ag c,λ_ _ q=>q.elim,W O k s⟩) λ_ s=>⟨_,λ_ _ q=>q.elim,W O n s⟩
theorem eJ (hm:P.follows .mixedOrders=true)(hts:ts.ok P)(hG:X2 P G)(hc:cP N c=true)(hC:∀ st,C st=some (LCV m ns js D step p n s0 exE P1 st))
  (h:∀ k s,p k s->∃ L,ak P ro N L c/\exec ts G L c (D k s) (cR step exE P1 D m id k s)):kV P ro N id (.loop c) C:=by
 refine uI hm hts hG hc λst lc U hp=>?_;rw[hC st]at U;cases U;obtain⟨⟨O,Y,hle,hsub⟩,h1,hno⟩:=hp;refine⟨Nat×σ,λx=>D x.1 x.2,λx=>x.1<=n/\okI step p (n - x.1) x.1 x.2/\aj step (n - x.1) x.1 x.2=aj step n 0 s0,λx=>n - x.1,(0,s0),mkN ns st,js,⟨ame _,by omega,by simp⟩,wY ns st st (.refl _) Y,by grind,by grind,?_⟩;rintro⟨k,s⟩ ⟨hk,W,E⟩;simp only at hk W E;have hlt:k<n:=by
  rcases amN k n with h|h;exact h;have hkn:k=n:=by omega
  subst hkn;simp only[anI,aj]at E;grind
 rw[show n - k=(n - k - 1)+1 by omega]at E W;obtain⟨L,hl,X⟩:=h k s W.1;have hI:∀ s',step k s=.inr s'->okI step p (n - (k+1)) (k+1) s'/\aj step (n - (k+1)) (k+1) s'=aj step n 0 s0:=λs' V=>by
  have:=W.2 s' V;grind [aj]
 have hx:∀ x,step k s=.inl x->aj step n 0 s0=.inl x:=λx V=>by
  grind [aj]
 exact⟨L,_,hl,λe st' q=>VH O hlt (λs' V=>⟨⟨hlt,hI s' V⟩,by omega⟩) hx e st' q,X⟩
theorem fj {α:Type}{l:List α}(h:l.length<=aH):(l.length:Int) <9223372036854775808:=by grind [aH]
end
section
universe u
variable {α:Type u}{G:List SV->α->Prop}{r:List SV}
theorem az {k:Int->List SV->Option α}(h:∀ n l c,k n l=some c->G (.v (.int .i64 n)::l) c):∀ l c,pI k l=some c->G l c:=λl c hc=>by
 obtain⟨n,r,rfl,h1⟩:=UV hc;grind
theorem Bv {k:Bool->List SV->Option α}(h:∀ n l c,k n l=some c->G (.v (.bool n)::l) c):∀ l c,pB k l=some c->G l c:=λl c hc=>by
 obtain⟨n,r,rfl,h1⟩:=ab9 hc;grind
variable {t:Tag}
theorem bD{k:List t.T->List SV->Option α}(h:∀ n l c,k n l=some c->G (.rs t n::l) c):∀ l c,pR t k l=some c->G l c:=λl c hc=>by
 obtain⟨n,r,rfl,h1⟩:=ab_ hc;grind
variable {k:t.T->List SV->Option α}
theorem ax(h:∀ n l c,k n l=some c->G (.agg (cellsOf t n)::l) c):∀ l c,pD t k l=some c->G l c:=λl c hc=>by
 obtain⟨n,r,rfl,h1⟩:=Kh hc;grind
theorem fO(h:∀ n l c,k n l=some c->G (.ep (cellsOf t n) 0::l) c):∀ l c,pX t k l=some c->G l c:=λl c hc=>by
 obtain⟨n,r,rfl,h1⟩:=UW hc;grind
theorem acM{t2:Tag}{k:List (t.T×t2.T)->List SV->Option α}(h:∀ n l c,k n l=some c->G (.rm t t2 n::l) c):∀ l c,pM t t2 k l=some c->G l c:=λl c hc=>by
 obtain⟨n,r,rfl,h1⟩:=UX hc;grind
theorem am {c0:α}(h:G [] c0):∀ l c,pE c0 l=some c->G l c:=λl c hc=>by
 obtain⟨rfl,rfl⟩:=wW hc;exact h
end
end Go.Sx
end
section
namespace Go.Sx
variable {f:FuncId}{a:List SV}
def oA{p:Pk}{b:List SV}:wX [p] (.fn f a b)=A7 p (.fn f a b):=(rfl)
def oB{b:List SV}:A7 .o (.fn f a b)=.fn f a b:=(rfl)
end Go.Sx
end
section
namespace Go.Sx
open Go.RowKit
open IntKind (i64)
abbrev RF:= { r:Nat->Res // ∀ k,(r k).n=k}
def C7 (items:List (List SV))(r:RF):List SV->Res->Option aqo:=itY items r.1
@[go_sem]def aj2 {items:List (List SV)}{r:RF}{k:Nat}{args:List SV}:C7 items r args (r.1 (k+1))=some (Mw (items[k]? =some args) r.1 (k+2)):=E7 r.2 k args
section
variable {ρ σ:Type}
def lcy (pre:Prop)(run:ρ⊕σ)(exE:ρ->Ex)(P1:ρ->St)(ao_:σ->St)(stp:St):apN where
 α:=Option (ρ⊕σ)
 pre:=pre
 post:=λ|none=>True|some r=>r=run
 ex:=λ|none=>.ret|some (.inl x) =>exE x|some (.inr _) =>.normal
 out:=λ|none=>stp|some (.inl x) =>P1 x|some (.inr s) =>ao_ s
def LCY (m:Nat)(ns:List aqh)(js:List Nat)(D:Nat->σ->St)(step:Nat->σ->ρ⊕σ)(p:Nat->σ->Prop)(n:Nat)(s0:σ)(B:Prop)(exE:ρ->Ex)(P1:ρ->St)(stp:St)(st:St):apN:=
 lcy (sK m ns js st (D 0 s0)/\B/\okI step p n 0 s0) (aj step n 0 s0) exE P1 (D n) stp
def YK (m:Nat)(ns:List aqh)(js:List Nat)(D:Nat->σ->St)(step:Nat->σ->ρ⊕σ)(p:Nat->σ->Prop)(n:Nat)(s0:σ)(exE:ρ->Ex)(P1:ρ->St)(stp:St)(st:St):apN:=
 lcy (sK m ns js st (D 0 s0)/\okI step p n 0 s0/\∀ s,aj step n 0 s0≠ .inr s) (aj step n 0 s0) exE P1 (D n) stp
variable {m:Nat}{ns:List aqh}{js:List Nat}{step:Nat->σ->ρ⊕σ}{p:Nat->σ->Prop}{n:Nat}{s0:σ}{B:Prop}{exE:ρ->Ex}{P1:ρ->St}{stp st:St}{Q:Ex->St->Prop}{D:Nat->σ->St}
theorem IR {pre:Prop}{E:ρ⊕σ}{ao_:σ->St}:rI Q (some (lcy pre E exE P1 ao_ stp))=(pre/\(∀ x,E=.inl x->Q (exE x) (P1 x))/\(∀ s,E=.inr s->Q .normal (ao_ s))/\Q .ret stp):=by
 apply propext;constructor
 rintro⟨h1,h2⟩;exact⟨h1,λx U=>h2 (some (.inl x)) U.symm,λs W=>h2 (some (.inr s)) W.symm,h2 none trivial⟩;rintro⟨h1,h2,V,X⟩;refine⟨h1,λr O=>?_⟩;match r,O with
 |none,_=>exact X|some (.inl x),O=>exact h2 x O.symm|some (.inr s),O=>exact V s O.symm
@[go_sem]def afr:rI Q (some (LCY m ns js D step p n s0 B exE P1 stp st))=((sK m ns js st (D 0 s0)/\B/\okI step p n 0 s0)/\(∀ x,aj step n 0 s0=.inl x->Q (exE x) (P1 x))/\(∀ s,aj step n 0 s0=.inr s->Q .normal (D n s))/\Q .ret stp):=IR
@[go_sem] theorem acN:rI Q (some (YK m ns js D step p n s0 exE P1 stp st))=((sK m ns js st (D 0 s0)/\okI step p n 0 s0/\∀ s,aj step n 0 s0≠ .inr s)/\(∀ x,aj step n 0 s0=.inl x->Q (exE x) (P1 x))/\Q .ret stp):=by
 refine IR.trans ?_;grind
def cY (step:Nat->σ->ρ⊕σ)(exE:ρ->Ex)(P1:ρ->St)(D:Nat->σ->St)(stp:St)(m id k:Nat)(s:σ):Ex->St->Prop
 | .normal,st=>Ah D m k st (step k s)| .exit j,st=>uc exE P1 m (bif Nat.beq j id then .normal else .exit j) st (step k s)| .ret,st=>uc exE P1 m .ret st (step k s)\/oo stp m st| .pan x,st=>uc exE P1 m (.pan x) st (step k s)
variable {id k j:Nat}{s:σ}{x:Value}{e e':Ex}
@[go_sem] def afs:= @cY.eq_1
@[go_sem] def aj3:= @cY.eq_2
@[go_sem] def alq:= @cY.eq_3
@[go_sem] def alr:= @cY.eq_4
@[congr] theorem aht {st':St}(h:st=st')(he:e=e'):cY step exE P1 D stp m id k s e st=cY step exE P1 D stp m id k s e' st':=by rw[h,he]
end
section
variable {P:Program}{ρ σ:Type}{ts:Tis}{G:Cons}{ro:Option Nat}{N:Nat}{id:Nat}{c:Code}{C:St->Option apN}{m:Nat}{ns:List aqh}{js:List Nat}{step:Nat->σ->ρ⊕σ}{p:Nat->σ->Prop}{n:Nat}{s0:σ}{exE:ρ->Ex}{P1:ρ->St}{D:Nat->σ->St}{stp:St}
theorem VI {n0:Nat}(X:n0=m){s:σ}{k:Nat}(hlt:k<n){I:Nat×σ->Prop}{μ:Nat×σ->Nat}{ao_:σ->St}{pre:Prop}{E:ρ⊕σ}
  (hI:∀ s',step k s=.inr s'->I (k+1,s')/\μ (k+1,s') <μ (k,s)) (Y:∀ x,step k s=.inl x->E=.inl x):
  ∀ e st',cY step exE P1 D stp m id k s e st'->ve (λx:Nat×σ=>D x.1 x.2) I μ n0 (k,s) id (λe st'=>∃ r js,(lcy pre E exE P1 ao_ stp).post r/\(lcy pre E exE P1 ao_ stp).ex r=e/\n0<=((lcy pre E exE P1 ao_ stp).out r).h.length/\Sub js n0 st' ((lcy pre E exE P1 ao_ stp).out r)) e st':=by
 subst X;have O:∀ e st',uc exE P1 n0 e st' (step k s)->∃ r js,(lcy pre E exE P1 ao_ stp).post r/\(lcy pre E exE P1 ao_ stp).ex r=e/\n0<=((lcy pre E exE P1 ao_ stp).out r).h.length/\Sub js n0 st' ((lcy pre E exE P1 ao_ stp).out r):=by
  intro e st' q;cases U:step k s with
  |inr s'=>rw[U]at q;exact q.elim
  |inl x=>
   rw[U]at q;obtain⟨q2,js,V,W⟩:=q;exact⟨some (.inl x),js,(Y x U).symm,q2,V,W⟩
 intro e st' hq;cases e with
 |normal=>
  change Ah D n0 k st' (step k s)at hq;cases U:step k s with
  |inl x=>rw[U]at hq;exact hq.elim
  |inr s'=>
   rw[U]at hq;obtain⟨js,V,W⟩:=hq;obtain⟨i1,i2⟩:=hI s' U;exact⟨(k+1,s'),js,i1,i2,V,W⟩
 |exit j=>
  change uc exE P1 n0 (bif Nat.beq j id then .normal else .exit j) st' (step k s)at hq;show bif Nat.beq j id then _ else _;grind
 |ret=>
  rcases hq with hq|hq;exact O _ _ hq;obtain⟨js,V,W⟩:=hq;exact⟨none,js,trivial,rfl,V,W⟩
 |pan x=>exact O _ _ hq
theorem sL {B:Prop}(hm:P.follows .mixedOrders=true)(hts:ts.ok P)(hG:X2 P G)(hc:cP N c=true)(hC:∀ st,C st=some (LCY m ns js D step p n s0 B exE P1 stp st))(M:Int)(hn:n=M.toNat)(hB:B->M<9223372036854775808)
  (h:B->∀ k s,k<n->p k s->i64.wrap ((k:Int)+1)=((k+1:Nat):Int)->decide ((k:Int) <M)=true->∃ L,ak P ro N L c/\exec ts G L c (D k s) (cY step exE P1 D stp m id k s))
  (h2:B->∀ s,decide ((n:Int) <M)=false->exec ts G L0 c (D n s) (cZ (D n s) m id)):kV P ro N id (.loop c) C:=by
 refine uI hm hts hG hc λst lc W hp=>?_;rw[hC st]at W;cases W;obtain⟨⟨O,hok,hle,hsub⟩,V,h1⟩:=hp;refine⟨Nat×σ,λx=>D x.1 x.2,λx=>x.1<=n/\okI step p (n - x.1) x.1 x.2/\aj step (n - x.1) x.1 x.2=aj step n 0 s0,λx=>n - x.1,(0,s0),mkN ns st,js,⟨ame _,by omega,by simp⟩,wY ns st st (.refl _) hok,by grind,by grind,?_⟩;rintro⟨k,s⟩ ⟨hk,X,E⟩;simp only at hk X E;rcases amN k n with hlt|hge;rw[show n - k=(n - k - 1)+1 by omega]at E X;obtain⟨L,hl,U⟩:=h V k s hlt X.1 (QY (hn▸hlt) (hB V)) (decide_eq_true (by omega));have hI:∀ s',step k s=.inr s'->okI step p (n - (k+1)) (k+1) s'/\aj step (n - (k+1)) (k+1) s'=aj step n 0 s0:=λs' Y=>by
  have:=X.2 s' Y;grind [aj]
 have hx:∀ x,step k s=.inl x->aj step n 0 s0=.inl x:=λx Y=>by
  grind [aj]
 exact⟨L,_,hl,λe st' q=>VI O hlt (λs' Y=>⟨⟨hlt,hI s' Y⟩,by omega⟩) hx e st' q,U⟩;have hkn:k=n:=by omega
 subst hkn;have U:=h2 V s (by grind);refine⟨L0,_,ag c,λe st' hq=>?_,U⟩;simp only[anI,aj]at E;cases e with
 |exit j=>
  change bif Nat.beq j id then oo (D k s) m st' else False at hq;show bif Nat.beq j id then _ else _;cases hb:Nat.beq j id with
  |true=>
   rw[hb]at hq;obtain⟨js,q3,q4⟩:=hq;exact⟨some (.inr s),js,E,rfl,by rw[O];exact q3,by rw[O];exact q4⟩
  |false=>grind
 |_=>exact hq.elim
theorem IS (hm:P.follows .mixedOrders=true)(hts:ts.ok P)(hG:X2 P G)(hc:cP N c=true)(hC:∀ st,C st=some (YK m ns js D step p n s0 exE P1 stp st))
  (h:∀ k s,p k s->∃ L,ak P ro N L c/\exec ts G L c (D k s) (cY step exE P1 D stp m id k s)):kV P ro N id (.loop c) C:=by
 refine uI hm hts hG hc λst lc U hp=>?_;rw[hC st]at U;cases U;obtain⟨⟨O,Y,hle,hsub⟩,h1,hno⟩:=hp;refine⟨Nat×σ,λx=>D x.1 x.2,λx=>x.1<=n/\okI step p (n - x.1) x.1 x.2/\aj step (n - x.1) x.1 x.2=aj step n 0 s0,λx=>n - x.1,(0,s0),mkN ns st,js,⟨ame _,by omega,by simp⟩,wY ns st st (.refl _) Y,by grind,by grind,?_⟩;rintro⟨k,s⟩ ⟨hk,W,E⟩;simp only at hk W E;rcases amN k n with hlt|hge;rw[show n - k=(n - k - 1)+1 by omega]at E W;obtain⟨L,hl,X⟩:=h k s W.1;have hI:∀ s',step k s=.inr s'->okI step p (n - (k+1)) (k+1) s'/\aj step (n - (k+1)) (k+1) s'=aj step n 0 s0:=λs' V=>by
  have:=W.2 s' V;grind [aj]
 have hx:∀ x,step k s=.inl x->aj step n 0 s0=.inl x:=λx V=>by
  grind [aj]
 exact⟨L,_,hl,λe st' q=>VI O hlt (λs' V=>⟨⟨hlt,hI s' V⟩,by omega⟩) hx e st' q,X⟩;have hkn:k=n:=by omega
 subst hkn;simp only[anI,aj]at E;grind
end
def uJ (n:Nat):List Ob:=List.replicate n .dead
def MF (items:List (List SV))(r:RF)(n:Nat):Ex->St->Prop
 | .normal,st=>oo ⟨[],.ab (r.1 0)::uJ n⟩ (n+1) ⟨[],st.h⟩\/oo ⟨[],.ab (r.1 (items.length+1))::uJ n⟩ (n+1) ⟨[],st.h⟩| .ret,st=>oo ⟨[],.ab (r.1 0)::uJ n⟩ (n+1) ⟨[],st.h⟩\/oo ⟨[],.ab (r.1 (items.length+1))::uJ n⟩ (n+1) ⟨[],st.h⟩|_,_=>False
section
variable {items:List (List SV)}{r:RF}{n:Nat}{st:St}{e e':Ex}
@[go_sem] def YL:= @MF.eq_1
@[go_sem] def aft:= @MF.eq_2
@[congr] theorem aas {st':St}(h:st=st')(he:e=e'):MF items r n e st=MF items r n e' st':=by rw[h,he]
def aj4:uJ 0=[]:=(rfl)
def aj5:uJ 1=[.dead]:=(rfl)
def aj6:uJ 2=[.dead,.dead]:=(rfl)
def aj7:uJ 3=[.dead,.dead,.dead]:=(rfl)
def aj8:uJ 4=[.dead,.dead,.dead,.dead]:=(rfl)
attribute[go_sem]aj4 aj5 aj6 aj7 aj8
end
theorem MG {js:List Nat}{n0:Nat}{h h':List Ob}(q:Sub js n0 ⟨[],h⟩ ⟨[],h'⟩):Sub js n0 ⟨[(0,.tup [])],h⟩ ⟨[(0,.tup [])],h'⟩:=by
 refine⟨q.1,?_,q.2.2⟩;simp only[RY,lk];exact⟨⟨rfl,rfl⟩,trivial⟩
open Classical in
theorem Bw {P:Program} {ts:Tis} {G:RF->Cons} (hm:P.follows .mixedOrders=true) (hts:ts.ok P) {f:FuncId} {fn:Func} {c:Code} (hf:P.funcs[f]? =some fn) (hb:fn.body=some c) (E:(fn.name== "runtime.NumGoroutine")=false) (hc:cP fn.ntmps c=true) (hr:fn.results.toList=[])
  {items:List (List SV)} {V:SV->List SV} {U:List Ob} {n:Nat} (hn:U.length=n)
  (h:∀ r:RF,YOk P (C7 items r)->X2 P (G r)/\(V (.os 0)).length<=fn.ntmps/\∃ L,ak P none fn.ntmps L c/\exec ts (G r) L c ⟨nY 0 (V (.os 0)),.ab (r.1 1)::U⟩ (MF items r n))
  (he:∀ (args:Array Value) (w:World),(callFunc f args).run P w=.ok (.enter f args) w):Af P f V U items:=by
 refine QW (λO X hy=>?_) he;obtain⟨hG,h1,L,h2,h3⟩:=h ⟨O,X⟩ hy;refine⟨λl o=>if l=V (.os 0)/\o=.ab (O 1)::U then some { α:=Bool,pre:=True,post:=λ_=>True,res:=λb=>.ret (.tup []) (.ab (O (if b then items.length+1 else 0))::uJ n)}else none,?_,_,if_pos ⟨rfl,rfl⟩,trivial,λb _=>⟨_,_,_,rfl,by grind⟩⟩;refine E3 hm hts hG hf hb E hc λl o con hC _=>?_;split at hC
 rotate_left
 cases hC;rename_i hlo;obtain⟨rfl,rfl⟩:=hlo;cases hC;refine⟨h1,L,_,h2,λe st W=>?_,h3⟩;have key:∀ st:St,(oo ⟨[],.ab (O 0)::uJ n⟩ (n+1) ⟨[],st.h⟩\/oo ⟨[],.ab (O (items.length+1))::uJ n⟩ (n+1) ⟨[],st.h⟩)->Er (Ob.ab (O 1)::U).length { α:=Bool,pre:=True,post:=λ_=>True,res:=λb=>.ret (.tup []) (.ab (O (if b then items.length+1 else 0))::uJ n)} (rj (pi ts st fn.results.toList)) st.h:=λst q=>by
  rw[hr];show ∃ r s' h' js,_;rcases q with⟨js,q1,Y⟩ | ⟨js,q1,Y⟩;exact⟨false,_,_,js,trivial,rfl,by grind,by rw[alL,hn];exact MG Y⟩;exact⟨true,_,_,js,trivial,rfl,by grind,by rw[alL,hn];exact MG Y⟩
 cases e with
 |normal=>exact key st W|ret=>exact key st W|exit j=>exact W.elim|pan x=>exact W.elim
section
variable {ρ σ τ:Type}
theorem Bx {step:τ->σ->ρ⊕σ}:∀ {a b:List τ} {s s':σ},di step a s=.inr s'->di step (a++b) s=di step b s'
 | [],_,_,_,h=>by grind [di]
 |x::a,b,s,s',h=>by
  simp only[al7,di]at h |-;cases E:step x s with
  |inl y=>grind|inr s1=>rw[E]at h;simp only at h |-;exact Bx h
theorem MH {step:τ->σ->ρ⊕σ}{p:τ->σ->Prop}:∀ {a b:List τ} {s s':σ},di step a s=.inr s'->okL step p (a++b) s->okL step p b s'
 | [],_,_,_,h,E=>by grind [di]
 |x::a,b,s,s',h,E=>by
  simp only[al7,di]at h E;cases O:step x s with
  |inl y=>grind|inr s1=>rw[O]at h;exact MH h (E.2 s1 O)
def LCP (m:Nat)(ns:List aqh)(js:List Nat)(D:List Nat->Option Nat->σ->St)(step:τ->σ->ρ⊕σ)(p:τ->σ->Prop)(l:List τ)(s0:σ)(exE:ρ->Ex)(P1:ρ->St)(ao_:σ->St)(st:St):apN where
 α:=ρ⊕σ
 pre:=sK m ns js st (D (List.range l.length) none s0)/\∀ L,L.Perm l->okL step p L s0
 post:=λr=>∃ L,L.Perm l/\di step L s0=r
 ex:=λ| .inl x=>exE x| .inr _=>.normal
 out:=λ| .inl x=>P1 x| .inr s=>ao_ s
variable {m:Nat}{ns:List aqh}{js:List Nat}{step:τ->σ->ρ⊕σ}{p:τ->σ->Prop}{l:List τ}{s0:σ}{exE:ρ->Ex}{P1:ρ->St}{ao_:σ->St}{st:St}{Q:Ex->St->Prop}{D:List Nat->Option Nat->σ->St}
@[go_sem] theorem afu:rI Q (some (LCP m ns js D step p l s0 exE P1 ao_ st))=((sK m ns js st (D (List.range l.length) none s0)/\∀ L,L.Perm l->okL step p L s0)/\∀ L,L.Perm l->(∀ x,di step L s0=.inl x->Q (exE x) (P1 x))/\∀ s,di step L s0=.inr s->Q .normal (ao_ s)):=by
 apply propext;constructor
 rintro⟨h1,h2⟩;exact⟨h1,λL hL=>⟨λx hx=>h2 (.inl x) ⟨L,hL,hx⟩,λs hs=>h2 (.inr s) ⟨L,hL,hs⟩⟩⟩;rintro⟨h1,h2⟩;refine⟨h1,λr ⟨L,hL,hr⟩ =>?_⟩;cases r with
 |inl x=>exact(h2 L hL).1 x hr|inr s=>exact(h2 L hL).2 s hr
variable {P:Program}{ts:Tis}{G:Cons}{ro:Option Nat}{N id:Nat}{c:Code}{C:St->Option apN}
theorem MI (d:τ)(it:Nat)(hm:P.follows .mixedOrders=true)(hts:ts.ok P)(hG:X2 P G)(hc:cP N c=true)(hC:∀ st,C st=some (LCP m ns js D step p l s0 exE P1 ao_ st))
  (h:∀ left cur s,(∀ j,j∈left->j<l.length/\p (l.getD j d) s)->∃ L,ak P ro N L c/\exec ts G L c (D left cur s) (cM step l d exE P1 ao_ D m id it left s)):kV P ro N id (.loop c) C:=by
 refine uI hm hts hG hc λst lc hC' hp=>?_;rw[hC st]at hC';cases hC';obtain⟨⟨hlen,hok,hle,hsub⟩,hO⟩:=hp;subst hlen;have X:∀ q:List Nat,q.Perm (List.range l.length)->(q.map λj=>l.getD j d).Perm l:=λq hq=>by
  have:=hq.map (λj=>l.getD j d)
  rwa[E_]at this
 refine⟨List Nat×Option Nat×σ,λx=>D x.1 x.2.1 x.2.2,λx=>∃ q:List Nat,(q++x.1).Perm (List.range l.length)/\di step (q.map λj=>l.getD j d) s0=.inr x.2.2,λx=>x.1.length,(List.range l.length,none,s0),mkN ns st,js,⟨[],.refl _,rfl⟩,wY ns st st (.refl _) hok,hle,hsub,?_⟩;rintro⟨left,cur,s⟩ ⟨q,hq,W⟩;simp only at hq W;have Y:∀ j,j∈left->(q++j::left.erase j).Perm (List.range l.length):=λj hj=>((List.perm_cons_erase hj).symm.append_left q).trans hq;have hp0:∀ j,j∈left->j<l.length/\p (l.getD j d) s:=λj hj=>by
  refine⟨am_.1 (hq.mem_iff.1 (anv _ hj)),?_⟩;have:=hO _ (X _ (Y j hj));rw[an4]at this;exact(MH W this).1
 obtain⟨L,hl,hex⟩:=h left cur s hp0;refine⟨L,_,hl,?_,hex⟩;have E:∀ e st' o,exC step l d exE P1 st.h.length left s e st' o->∃ r js,(LCP st.h.length ns js D step p l s0 exE P1 ao_ st).post r/\(LCP st.h.length ns js D step p l s0 exE P1 ao_ st).ex r=e/\st.h.length<=((LCP st.h.length ns js D step p l s0 exE P1 ao_ st).out r).h.length/\Sub js st.h.length st' ((LCP st.h.length ns js D step p l s0 exE P1 ao_ st).out r):=by
  intro e st' o z;cases o with
  |none=>exact z.elim
  |some j=>
   obtain⟨hj,z⟩:=z;cases hs:step (l.getD j d) s with
   |inr s'=>rw[hs]at z;exact z.elim
   |inl x=>
    rw[hs]at z;obtain⟨q2,V,q3,q4⟩:=z;refine⟨.inl x,V,⟨_,X _ (Y j hj),?_⟩,q2,q3,q4⟩;simp_all [Bx,di]
 intro e st' U;cases e with
 |normal=>
  change nxC step l d D st.h.length left s st' (zh (ap st'.h it))at U;cases ho:zh (ap st'.h it)with
  |none=>rw[ho]at U;exact U.elim
  |some j=>
   rw[ho]at U;obtain⟨hj,U⟩:=U;cases hs:step (l.getD j d) s with
   |inl x=>rw[hs]at U;exact U.elim
   |inr s'=>
    rw[hs]at U;obtain⟨V,q3,q4⟩:=U;refine⟨(left.erase j,some j,s'),V,⟨q++[j],?_,?_⟩,?_,q3,q4⟩;grind
    simp_all [Bx,di];grind
 |exit j=>
  have O:(bif Nat.beq j id then(left=[]->oo (ao_ s) st.h.length st')/\(left≠[]->exC step l d exE P1 st.h.length left s .normal st' (zh (ap st'.h it)))else exC step l d exE P1 st.h.length left s (.exit j) st' (zh (ap st'.h it))):=U;show bif Nat.beq j id then _ else _;cases hb:Nat.beq j id with
  |true=>
   rw[hb]at O;simp only[cond_true]at O |-;by_cases hlt:left=[]
   obtain⟨V,q3,q4⟩:=O.1 hlt;refine⟨.inr s,V,⟨_,X q (by grind),W⟩,rfl,q3,q4⟩;exact E _ _ _ (O.2 hlt)
  |false=>
   rw[hb]at O;exact E _ _ _ O
 |ret=>exact E _ _ _ U|pan x=>exact E _ _ _ U
end
theorem fkY {E st:St}{n0:Nat}{js:List Nat}(_:JL js)(h1:n0<=E.h.length:=by(first|(show _<=_;decide) |(simp only[*,go_sem,Nat.reduceBEq,Nat.reduceLeDiff,Nat.reduceAdd,Nat.reduceSub,Nat.reduceMul,Int.reduceLE,Int.reduceLT,Int.reduceToNat,Int.reduceNeg,reduceCtorEq];done) |(simp only[*,go_sem,Nat.reduceBEq,Nat.reduceLeDiff,Nat.reduceAdd,Nat.reduceSub,Nat.reduceMul,Int.reduceLE,Int.reduceLT,Int.reduceToNat,Int.reduceNeg,reduceCtorEq];(repeat' (first|with_reducible refine And.intro ?_ ?_|((with_reducible show _≠_);first|assumption|omega|(simp_all [ci,d8];done) |grind) |with_reducible intro _)) <;>(first|rfl|decide|assumption|omega|(simp_all [ci,d8];done) |fail))))(h2:Sub js n0 st E:=by(first|(show _<=_;decide) |(simp only[*,go_sem,Nat.reduceBEq,Nat.reduceLeDiff,Nat.reduceAdd,Nat.reduceSub,Nat.reduceMul,Int.reduceLE,Int.reduceLT,Int.reduceToNat,Int.reduceNeg,reduceCtorEq];done) |(simp only[*,go_sem,Nat.reduceBEq,Nat.reduceLeDiff,Nat.reduceAdd,Nat.reduceSub,Nat.reduceMul,Int.reduceLE,Int.reduceLT,Int.reduceToNat,Int.reduceNeg,reduceCtorEq];(repeat' (first|with_reducible refine And.intro ?_ ?_|((with_reducible show _≠_);first|assumption|omega|(simp_all [ci,d8];done) |grind) |with_reducible intro _)) <;>(first|rfl|decide|assumption|omega|(simp_all [ci,d8];done) |fail)))):oo E n0 st:=Kk js h1 h2
theorem acO {α:Type 1}{G:List SV->α->Prop}{X:SV}{k:List SV->Option α}(h:∀ l c,k l=some c->G (X::l) c):∀ l c,pQ X k l=some c->G l c:=λl c hc=>by
 obtain⟨r,rfl,h1⟩:=E9 hc;grind
theorem clP {p:Prop}(h:p:=by((repeat' (first|with_reducible refine And.intro ?_ ?_|((with_reducible show _≠_);first|assumption|omega|(simp_all [ci,d8];done) |grind) |with_reducible intro _)) <;>(first|done|with_reducible exact Empty.elim ‹Empty› |with_reducible assumption|rfl|omega|assumption|(simp_all only[ci,d8];done) |(simp_all only[ci,d8];grind)))):p:=h
end Go.Sx
end
