/- Part of the proof that the law RefuseEither returns true and leaves its arguments as they were, for all arguments of bulk at most 1048576 (the Upto form). -/
import Derived.Test.YtaikmgjfkejlkaaGreatE106
import Derived.RecoverIn
import Derived.Laws.Pointers
import Derived.Test.YtaikmgjfkejlkaaGreatProg
set_option linter.all false
set_option maxHeartbeats 4000000
set_option maxRecDepth 100000
section
namespace Go.Sx
open Go.RowKit
open IntKind (i64)
section
variable {P:Program}{w0:Bs}{ts:Tis}{G:Cons}{L:wc}{N:Nat}
def sH (ids:List Nat)(h:List Ob):List Ob:=bf h (ids.map λid=>(id,Ob.dead))
theorem IQ (h:List Ob)(id:Nat):∀ (ids:List Nat) (h:List Ob),ap (sH ids h) id=if id∈ids then .dead else ap h id
 | [],h=>by rfl
 |a::r,h=>by
  have E:=IQ h id r (cL h a .dead);have e:sH (a::r) h=sH r (cL h a .dead):=rfl;rw[e,E];by_cases h1:id∈r
  simp[h1];rw[if_neg h1,dG];grind
def Pm (ids:List Nat)(i:Nat):Option Nat:=(y7 i ids).map (· +1)
def MA (ids:List Nat)(h:List Ob):List Ob:=ids.map λi=>vj (Pm ids) (ap h i)
def jY (st:St)(caps:List SV):List Nat:=reach st.h 64 (caps.flatMap (fG 3)) []
def Yv (lc:apc)(n0:Nat)(e:Ex)(st:St):Prop:= ∃ r js,lc.post r/\lc.ex r=e/\n0<=(lc.out r).h.length/\Sub js n0 st (lc.out r)
theorem Yw {F:Nat->Prop}{own:Own}{st:St}{a:Act}{w:World}(hr:aos F w0 N own st a w)(x:Operand):Rel F own w (raw st.t x) (a.eval x):=by
 cases x with
 |tmp t=>exact hr.slots t|const v=>exact .v v
 |func f=>exact .fn rfl rfl (λj s h=>by simp at h) (λj s h=>by simp at h)
 |global g=>exact .any _
theorem MB (O:P.follows .mixedOrders=true)(hts:ts.ok P)(hG:aot P G){id:Nat}{g:Operand}{ps:Array Tmp}{assign body:Code}{C:St->Option apc}
  (hpn:ps.toList.Nodup) (hpN:∀ p∈ps.toList,p<N) (hca:c7 N assign=true) (hcb:c7 N body=true)
  (h:∀ st lc,C st=some lc->lc.pre->∃ (f:FuncId) (caps:List SV) (items:List (List SV)) (σ:Type) (T:List (Nat×SV)) (Hx:σ->List Ob) (I:Nat->σ->Prop) (S:Ex->σ->Prop) (x0:σ) (js:List Nat),
   raw st.t g=.fn f [] caps/\I 0 x0/\st.h.length<=(Hx x0).length/\Sub js st.h.length ⟨st.t,sH (jY st caps) st.h⟩ ⟨T,Hx x0⟩/\
   Ak P f (λy=>y::caps.map (ren (Pm (jY st caps)) 3)) (MA (jY st caps) st.h) items/\
   (∀ k y args,items[k]? =some args->I k y->args.length=ps.size/\∃ L Qx,(∀ l,ak P (some l) N L assign)/\(∀ l,ak P (some l) N L body)/\(∀ e st',Qx e st'->itQ T Hx I S st.h.length k e st')/\exec ts G L assign ⟨psT ps.toList args++T,Hx y⟩ (λe st1=>e=.normal/\exec ts G L body st1 Qx))/\
   (∀ y,I items.length y->Yv lc st.h.length .normal ⟨T,Hx y⟩)/\(∀ y,S .ret y->Yv lc st.h.length .ret ⟨T,Hx y⟩)/\
   ∀ j y,S (.exit j) y->Yv lc st.h.length (if j=id then .normal else .exit j) ⟨T,Hx y⟩):k9 P none N id (.rangeFunc g ps assign body) C:=by
 intro nd F w0 st lc hC hpre own a w hr;obtain⟨f,caps,items,σ,T,Hx,I,S,x0,js,hg,hI0,hle0,hsub0,hit,aqi,hN,hRet,hEx⟩:=h st lc hC hpre;have apu:=Yw hr g;rw[hg]at apu;generalize hev:a.eval g=gv at apu;cases apu with
 | @fn _ _ _ us lb Y e2 e3 e4=>
  have hus:us= #[]:=by
   grind
  subst hus;have hcaps:aoX F own w caps lb:=⟨e2,e4⟩;have apW:∀ i∈jY st caps,∃ hd,own i=some hd:=xQ hr.hp 64 _ [] (λi hi=>by
   obtain⟨x,hx,hxi⟩:=amk.1 hi;obtain⟨j,hj⟩:=alS hx;exact J7 3 x _ (hcaps.2 j x hj) i hxi) (λi hi=>by cases hi)
  have hnd:(jY st caps).Nodup:=qI st.h 64 _ [] amx;generalize hidsE:jY st caps=ids at apW hnd hsub0 hit;refine wpIn_block (wpIn_rangeFunc λfn _=>?_);let rc:aqa:=⟨w.heap.size+1,fn,a.tmps,ps,assign,body,w.heap.size⟩
  let yv:Value:=.func (.yield (w.heap.size+1)) #[] #[]
  obtain⟨W,hW1⟩:∃ W,(w.alloc (.deferred (some []))).alloc (rc.obj .ready none)=W:=⟨_,rfl⟩;have hsz1:W.heap.size=w.heap.size+2:=by grind [OB]
  have hold:∀ b,b<w.heap.size->W.heap[b]? =w.heap[b]?:=λb hb=>by
   grind [qD]
  have hl1:W.heap[w.heap.size+1]? =some (rc.obj .ready none):=by
   rw[<-hW1];have:=kC (w.alloc (.deferred (some []))) (rc.obj .ready none);simp_all
  have hD1:W.heap[w.heap.size]? =some (.deferred (some [])):=by
   rw[<-hW1,qD _ _ _ (by simp_all)];exact kC w _
  refine⟨w.heap.size+1,[{ target:=.collected w.heap.size,args:= #[]}],W,{ target:=.fn (.func f) lb,args:= #[yv]},W,f,#[yv]++lb,W,?_,?_,λ_ _=>trivial,?_,λh=>(by cases h),?_⟩;rw[<-hW1];exact run_enterLoop_outer _ _ _ _ _;simp only[resolve,hev];simp[go_sem,yv];simp[invoke,go_sem,hit.1];let own_s:Own:=λi=>if i∈ids then(own i).map (λhd=>{ hd with bs:=[]})else own i
  let F1:Nat->Prop:=λb=>F b\/b=w.heap.size\/b=w.heap.size+1\/∃ i hd,i∈ids/\own i=some hd/\b∈hd.bs
  have hs1:∀ i hd,own_s i=some hd->∃ hd0,own i=some hd0/\hd0.like hd/\∀ b∈hd.bs,i ∉ ids/\hd=hd0:=λi hd e=>by
   by_cases hi:i∈ids
   simp only[own_s,if_pos hi,ami]at e;obtain⟨hd0,Y,rfl⟩:=e;exact⟨hd0,Y,⟨rfl,rfl,rfl⟩,λb hb=>by cases hb⟩;simp only[own_s,if_neg hi]at e;exact⟨hd,e,.refl _,λb _=>⟨hi,rfl⟩⟩
  have hs2:∀ i hd,own i=some hd->∃ hd',own_s i=some hd'/\hd.like hd':=λi hd e=>by
   grind
  have hcar1:aoZ F own w F1 own_s W:=⟨hs2,λb hb hn=>⟨by
   rintro ((hf|hf|hf| ⟨i,hd,_,e,O⟩) | ⟨i,hd,e,O⟩);exact hn (.inl hf);omega;omega;exact hn (.inr ⟨i,hd,e,O⟩);obtain⟨hd0,e0,_,Y⟩:=hs1 i hd e;obtain⟨_,rfl⟩:=Y b O;exact hn (.inr ⟨i,hd,e0,O⟩),hold b hb⟩⟩
  have hp1:Hp F1 own_s W (sH ids st.h):=by
   refine⟨λi hd e=>?_,λb hb=>?_,λi hd b e O hb=>?_,λi j hi hj b Y e2 h1 h2=>?_,λi hd b e O=>?_,λi V=>?_⟩;obtain⟨hd0,e0,_⟩:=hs1 i hd e;exact ale (hr.hp.dom i hd0 e0) (zh _ _);rcases hb with hf|hf|hf| ⟨i,hd,_,e,O⟩;have:=hr.hp.aoB b hf;omega;omega;omega;have:=hr.hp.lt i hd b e O;omega;obtain⟨hd0,e0,_,Y⟩:=hs1 i hd e;obtain⟨hni,rfl⟩:=Y b O;have hlt:=hr.hp.lt i hd b e0 O;rcases hb with hf|hf|hf| ⟨i2,X,h1,h2,h3⟩;exact hr.hp.apart i hd b e0 O hf;omega;omega;exact hni (hr.hp.inj i i2 hd X b e0 h2 O h3▸h1);obtain⟨hd1,k1,_,k2⟩:=hs1 i hi Y;obtain⟨X,k3,_,k4⟩:=hs1 j hj e2;obtain⟨_,rfl⟩:=k2 b h1;obtain⟨_,rfl⟩:=k4 b h2;exact hr.hp.inj i j hi hj b k1 k3 h1 h2;obtain⟨hd0,e0,_,Y⟩:=hs1 i hd e;obtain⟨_,rfl⟩:=Y b O;have:=hr.hp.lt i hd b e0 O;omega;rw[IQ st.h i ids st.h]at V |-;by_cases hi:i∈ids
   rw[if_pos hi]at V;cases V;rw[if_neg hi]at V |-;obtain⟨hd,Y,e2⟩:=hr.hp.obs i V;exact⟨hd,by grind,e2.carry hcar1 (by omega) λb O=>hold b (hr.hp.lt i hd b Y O)⟩
  obtain⟨q1,q2,q3,q4⟩:=Pd hsub0 hp1 hle0;change Hp F1 (iQ js (Hx x0) own_s) W (Hx x0)at q1;generalize hown0:iQ js (Hx x0) own_s=own_0 at q1 q2 q3 q4;have h0s:∀ i hd b,own_0 i=some hd->b∈hd.bs->∃ j,j ∉ ids/\own j=some hd:=λi hd b e O=>by
   rw[<-hown0]at e;obtain⟨_,j,hd0,_,e2,_,e4⟩:=jr e;grind
  have hslot1:∀ t,Rel F1 own_0 W (lk t T) (a.tmps.getD t undef):=λt=>by
   rcases DV t _ hsub0.2.1 with e| ⟨Y,e2⟩;rw[e];exact .any _;have h1:=(hr.slots t).carry hcar1;grind
  let bs0:List Nat:=(w.heap.size+1)::Yu own_0 (Hx x0).length
  have hbs0:∀ b,b∈bs0↔b=w.heap.size+1\/∃ i hd,own_0 i=some hd/\b∈hd.bs:=λb=>by
   show b∈_::_↔_;rw[ala,Fd q1.dom]
  let Ff:Nat->Prop:=λb=>F b\/b=w.heap.size
  let own_f:Own:=λi=>match i with|0=>some ⟨none,yv,[],bs0⟩ |i+1=>(ids[i]?).bind own
  have hf1:∀ i hd,own_f (i+1)=some hd->∃ j,ids[i]? =some j/\own j=some hd:=λi hd e=>by
   grind
  have hffo:∀ b,dg Ff own_f b->(F b\/b=w.heap.size\/b=w.heap.size+1)\/∃ i hd,own i=some hd/\b∈hd.bs:=by
   rintro b ((hf|hf) | ⟨i,hd,e,O⟩) <;>grind
  let Fs:Nat->Prop:=λb=>F b\/b=w.heap.size\/b=w.heap.size+1
  have hcar0:aoZ F own w Fs own W:=⟨λ_ hd e=>⟨hd,e,.refl _⟩,λb hb hn=>⟨by
   rintro ((hf|hf|hf) |ho);exact hn (.inl hf);omega;omega;exact hn (.inr ho),hold b hb⟩⟩
  have hrn:Rn (Pm ids) own own_f:=⟨λi j hd O e=>by
   unfold Pm at O;rw[ami]at O;obtain⟨k,hk,rfl⟩:=O;refine⟨hd,?_,.refl _⟩;show(ids[k]?).bind own=some hd;rw[pz ids i k hk];exact e⟩
  have hsh:∀ b,¬dg Fs own b->¬dg Ff own_f b:=λb hn ho=>hn (hffo b ho);let F':Nat->Prop:=λb=>dg Ff own_f b/\b ∉ bs0
  have hF'1:∀ b,Fw F' rc.l W b->F1 b:=by
   rintro b (⟨⟨ho,hn⟩,_⟩ |hb);rcases ho with(hf|hf) | ⟨i,hd,e,O⟩ <;>grind;grind
  have hcarP:aoZ F1 own_0 W (Fw F' rc.l W) own_0 W:=⟨λ_ hd e=>⟨hd,e,.refl _⟩,λb _ hn=>⟨λho=>hn (ho.imp (hF'1 b) (λe=>e)),rfl⟩⟩;have hpk:Pack rc T own st.h.length (Hx x0) (rc.obj .ready none) own_0 F' bs0 W:=by
   refine⟨⟨q1.dom,λb hb=>q1.aoB b (hF'1 b hb),λi hd b e O hb=>q1.apart i hd b e O (hF'1 b hb),q1.inj,q1.lt,λi V=>?_⟩,λt=>(hslot1 t).carry hcarP,hbs0,λi hd e=>?_,λhf=>hf.2 ((hbs0 _).2 (.inl rfl)),hl1,hle0⟩;obtain⟨hd,Y,e2⟩:=q1.obs i V;exact⟨hd,Y,e2.carry hcarP (ak2 _) λ_ _=>rfl⟩;obtain⟨hd1,k1,l1⟩:=hs2 i hd e;obtain⟨X,k2,l2⟩:=q4 i hd1 (hr.hp.dom i hd e) k1;exact⟨X,k2,l1.trans l2⟩
  have hpf:Hp Ff own_f W (.ab (itR rc T own st.h.length Hx I S 1)::MA ids st.h):=by
   refine⟨λi hd e=>?_,λb hb=>?_,λi hd b e O hb=>?_,λi j hi hj b Y e2 h1 h2=>?_,λi hd b e O=>?_,λi V=>?_⟩;grind [MA]
   rcases hb with hf|hf;have:=hr.hp.aoB b hf;omega;omega;have hnot:∀ i hd,own i=some hd->b∈hd.bs->False:=λi hd e O=>by
    rcases hb with hf|hf;exact hr.hp.apart i hd b e O hf;have:=hr.hp.lt i hd b e O;omega
   cases i with
   |zero=>
    cases e;rcases(hbs0 b).1 O with h| ⟨i,hd,e,O⟩;rcases hb with hf|hf;have:=hr.hp.aoB b hf;omega;omega;grind
   |succ i=>grind
   have hmix:∀ i hd,own_f (i+1)=some hd->b∈hd.bs->b∈bs0->False:=λi hd e O h0=>by
    obtain⟨j,k1,k2⟩:=hf1 i hd e;rcases(hbs0 b).1 h0 with h| ⟨i2,X,e2,hm2⟩;have:=hr.hp.lt j hd b k2 O;omega;obtain⟨j2,k3,k4⟩:=h0s i2 X b e2 hm2;exact k3 (hr.hp.inj j2 j X hd b k4 k2 hm2 O▸alf k1)
   cases i with
   |zero=>
    grind
   |succ i=>
    cases j with
    |zero=>grind
    |succ j=>
     obtain⟨k,k1,k2⟩:=hf1 i hi Y;obtain⟨k',k3,k4⟩:=hf1 j hj e2;have:=hr.hp.inj k k' hi hj b k2 k4 h1 h2;grind [sa]
   rcases hffo b (.inr ⟨i,hd,e,O⟩)with(h|h|h) | ⟨j,X,k,hm2⟩;have:=hr.hp.aoB b h;omega;omega;omega;have:=hr.hp.lt j X b k hm2;omega;cases i with
   |zero=>exact⟨_,rfl,rfl,x0,own_0,hI0,hpk⟩
   |succ i=>
    have hob:ap (.ab (itR rc T own st.h.length Hx I S 1)::MA ids st.h) (i+1)=ap (MA ids st.h) i:=rfl;rw[hob]at V |-;rw[vp]at V |-;unfold MA at V |-;rw[al1]at V |-;cases hi:ids[i]? with
    |none=>grind [dL]
    |some j=>
     rw[hi]at V;simp only[amn,anf]at V |-;rw[vB]at V;obtain⟨hd,Y,e2⟩:=hr.hp.obs j V;refine⟨hd,by grind,?_⟩;have e3:ao5 Fs own W hd (ap st.h j):=e2.carry hcar0 (by omega) λb O=>hold b (hr.hp.lt j hd b Y O);refine ES hrn hsh (λb _ ho=>?_) e3;grind
  have hvs:aoX Ff own_f W (.os 0::caps.map (ren (Pm ids) 3)) (#[yv]++lb):=by
   refine⟨by grind,λj s hj=>?_⟩;cases j with
   |zero=>
    simp at hj;subst hj;have:(#[yv]++lb).getD 0 undef=yv:=by simp only[alw];rw[alq (by simp)];rfl
    rw[this];exact Rel.os (hd:=⟨none,yv,[],bs0⟩) rfl rfl
   |succ j=>
    simp only[am9]at hj;obtain⟨s0,k1,rfl⟩:=ox hj;have:(#[yv]++lb).getD (j+1) undef=lb.getD j undef:=by
     simp only[alw];rw[amq (by simp)];simp
    rw[this];exact DS hrn hsh 3 s0 _ ((e4 j s0 k1).carry hcar0)
  refine CallsIn.mono (oy (hit.2 (itR rc T own st.h.length Hx I S) (λk=>(aaa k).1) (abZ O hts hG hr.size (λi hd e=>hr.hp.dom i hd e) hpn hpN hca hcb aqi) Ff own_f W _ hpf hvs)) ?_;rintro e w3 ⟨u,ee,j,h',rfl,hj,hp3,fr3⟩;obtain⟨hd0,e0,hv0,hR⟩:=hp3.obs 0 rfl;have hl3:∀ {y E o},Pack rc T own st.h.length (Hx y) o E (λb=>dg Ff ee b/\b ∉ hd0.bs) hd0.bs w3->w3.heap[w.heap.size+1]? =some o:=λpk=>pk.rcd;have fin:∀ y E s p,Pack rc T own st.h.length (Hx y) (rc.obj s p) E (λb=>dg Ff ee b/\b ∉ hd0.bs) hd0.bs w3->
    aos Fs w0 N E ⟨T,Hx y⟩ { a with defers:=[{ target:=.collected w.heap.size,args:= #[]}]++a.defers} (w3.putObj (w.heap.size+1) (rc.obj .exhausted p)):=by
   intro y E s p pk;have hsz3:=fr3.size;have hsz3':W.heap.size<=w3.heap.size:=hsz3;have hl3s:w.heap.size+1<w3.heap.size:=by omega
   have hoth:∀ c,c≠w.heap.size+1->(w3.putObj (w.heap.size+1) (rc.obj .exhausted p)).heap[c]? =w3.heap[c]?:=λc hc=>World.putObj_heap_other hc;have hownE:∀ i hd b,E i=some hd->b∈hd.bs->b∈hd0.bs/\b≠w.heap.size+1:=λi hd b e O=>⟨(pk.bs b).2 (.inr ⟨i,hd,e,O⟩),λe'=>pk.hp.apart i hd b e O (.inr e')⟩;have hnF:∀ b,b∈hd0.bs->¬Ff b:=λb hb hf=>hp3.apart 0 hd0 b e0 hb hf;have hFsFw:∀ b,Fs b->Fw (λb=>dg Ff ee b/\b ∉ hd0.bs) rc.l w3 b:=λb hb=>by
    rcases hb with hf|hf|hf;exact .inl ⟨⟨.inl (.inl hf),λO=>hnF b O (.inl hf)⟩,hp3.aoB b (.inl hf)⟩;exact .inl ⟨⟨.inl (.inr hf),λO=>hnF b O (.inr hf)⟩,hp3.aoB b (.inr hf)⟩;exact .inr hf
   have hcarE:aoZ (Fw (λb=>dg Ff ee b/\b ∉ hd0.bs) rc.l w3) E w3 Fs E (w3.putObj (w.heap.size+1) (rc.obj .exhausted p)):=⟨λ_ hd e=>⟨hd,e,.refl _⟩,λb _ hn=>⟨λho=>hn (ho.imp (hFsFw b) (λe=>e)),hoth b λe=>hn (.inl (.inr e))⟩⟩;have hkeep:∀ b,b<w.heap.size->(¬ ∃ i hd,own i=some hd/\b∈hd.bs)->w3.heap[b]? =w.heap[b]?:=λb hb hn=>by
    rw[fr3.block b ⟨by show b<W.heap.size;omega,λ⟨i,hd,e,O⟩ =>?_⟩];exact hold b hb;cases i with
    |zero=>
     cases e;rcases(hbs0 b).1 O with h| ⟨i,hd,e,O⟩;omega;obtain⟨j,_,k⟩:=h0s i hd b e O;exact hn ⟨j,hd,k,O⟩
    |succ i=>obtain⟨j,_,k⟩:=hf1 i hd e;exact hn ⟨j,hd,k,O⟩
   have hD3:w3.heap[w.heap.size]? =some (.deferred (some [])):=by
    rw[fr3.block w.heap.size ⟨by show w.heap.size<W.heap.size;omega,λ⟨i,hd,e,O⟩ =>hpf.apart i hd _ e O (.inr rfl)⟩];exact hD1
   refine⟨hr.size,?_,⟨pk.hp.dom,λb hb=>?_,λi hd b e O hb=>pk.hp.apart i hd b e O (hFsFw b hb),pk.hp.inj,λi hd b e O=>by have:=pk.hp.lt i hd b e O;simpa using this,λi V=>?_⟩,hr.fr.trans ⟨pk.ids,λi hd b e O ho=>?_,fr3.os.trans (by rw[<-hW1];rfl),fr3.tape.trans (by rw[<-hW1];rfl),fr3.output.trans (by rw[<-hW1];rfl),by simp;omega,λb hb=>?_⟩,λt=>(pk.slots t).carry hcarE⟩;obtain⟨ms,Ds,k0,k1,k2,k3⟩:=hr.defers;refine⟨{ target:=.collected w.heap.size,args:= #[]}::ms,w.heap.size::Ds,by simp[k0],by simp[k1],alH.2 ⟨λO=>?_,k2⟩,λD hD=>?_⟩;have:=rL (k3 _ O).2.2;omega;rcases ala.1 hD with rfl|hD;exact⟨hr.fr.size,.inr (.inl rfl),by rw[hoth _ (by omega)];exact hD3⟩;obtain⟨m1,m2,m3⟩:=k3 D hD;have hlt:=rL m3;exact⟨m1,.inl m2,by rw[hoth _ (by omega),hkeep D hlt λ⟨i,hd,e,O⟩ =>hr.hp.apart i hd D e O m2];exact m3⟩;have:=pk.hp.aoB b (hFsFw b hb);simpa using this;obtain⟨hd,Y,e2⟩:=pk.hp.obs i V;exact⟨hd,Y,e2.carry hcarE (by simp) λb O=>hoth b (hownE i hd b Y O).2⟩;have h1:=fr3.base 0 hd0 b e0 (hownE i hd b e O).1;refine h1 ⟨by show b<W.heap.size;have:=ho.1;change b<w.heap.size at this;omega,λ⟨i2,X,e2,hm2⟩ =>?_⟩;cases i2 with
   |zero=>
    cases e2;rcases(hbs0 b).1 hm2 with h| ⟨i3,hd3,e3,hm3⟩;exact(hownE i hd b e O).2 h;obtain⟨j,_,k⟩:=h0s i3 hd3 b e3 hm3;exact ho.2 ⟨j,hd3,k,hm3⟩
   |succ i2=>obtain⟨j,_,k⟩:=hf1 i2 X e2;exact ho.2 ⟨j,X,k,hm2⟩
   have hblt:b<w.heap.size:=hb.1;rw[hoth b (by omega)];exact hkeep b hblt hb.2
  have fin2:∀ y E s p ex,Pack rc T own st.h.length (Hx y) (rc.obj s p) E (λb=>dg Ff ee b/\b ∉ hd0.bs) hd0.bs w3->Yv lc st.h.length ex ⟨T,Hx y⟩->
    ∃ F3 aqI st3,(∀ b,F b->F3 b)/\aos F3 w0 N aqI st3 { a with defers:=[{ target:=.collected w.heap.size,args:= #[]}]++a.defers} (w3.putObj (w.heap.size+1) (rc.obj .exhausted p))/\∃ r,lc.post r/\ex=lc.ex r/\st3=lc.out r:=by
   rintro y E s p ex pk ⟨r,js2,m1,m2,m3,m4⟩;exact⟨Fs,_,_,λb hb=>.inl hb,(fin y E s p pk).sub m4 hr.apG m3,r,m1,m2.symm,rfl⟩
  rcases hj with rfl|rfl;obtain⟨ex,y,E,hS,hjm,pk⟩:=hR;refine⟨Pj ex,_,run_endLoop (P:=P) (hl3 pk) (by simp[aqa.obj]),?_⟩;cases ex with
  |normal=>cases hjm|pan x=>cases hjm|ret=>exact wpIn_ret (fin2 y E _ _ .ret pk (hRet y hS))
  |exit jj=>
   refine wpIn_exit ?_;have h2:=fin2 y E _ _ _ pk (hEx jj y hS);show if jj=id then _ else _;by_cases hjj:jj=id
   rw[if_pos hjj]at h2 |-;exact h2;rw[if_neg hjj]at h2 |-;exact h2
  obtain⟨y,E,hIy,pk⟩:=hR;exact⟨none,_,run_endLoop (P:=P) (hl3 pk) (by simp[aqa.obj]),fin2 y E _ _ .normal pk (hN y hIy)⟩
end
def okI {ρ σ:Type}(step:Nat->σ->ρ⊕σ)(p:Nat->σ->Prop):Nat->Nat->σ->Prop
 |0,_,_=>True|n+1,i,s=>p i s/\∀ s',step i s=.inr s'->okI step p n (i+1) s'
def g8 {ρ σ:Type}{step:Nat->σ->ρ⊕σ}{p:Nat->σ->Prop}:∀ (n i:Nat) (s:σ),(∀ j s,i<=j->j<i+n->p j s)->okI step p n i s
 |0,_,_,_=>trivial
 |n+1,i,s,h=>⟨h i s (ak2 _) (by omega),λs' _=>g8 n (i+1) s' λj s h1 h2=>h j s (by omega) (by omega)⟩
def jS {ρ σ:Type}{step:Nat->σ->ρ⊕σ}{p:Nat->σ->Prop}(J:Nat->σ->Prop):∀ (n i:Nat) (s:σ),J i s->(∀ j s,i<=j->j<i+n->J j s->p j s/\∀ s',step j s=.inr s'->J (j+1) s')->okI step p n i s
 |0,_,_,_,_=>trivial
 |n+1,i,s,h0,h=>⟨(h i s (ak2 _) (by omega) h0).1,λs' E=>jS J n (i+1) s' ((h i s (ak2 _) (by omega) h0).2 s' E) λj s h1 h2=>h j s (by omega) (by omega)⟩
def uI {ρ σ:Type}{step:Nat->σ->ρ⊕σ}(J:Nat->σ->Prop):∀ (n i:Nat) (s:σ),J i s->(∀ j s,i<=j->j<i+n->J j s->∀ s',step j s=.inr s'->J (j+1) s')->∀ r,aj step n i s=.inr r->J (i+n) r
 |0,i,s,h0,_,r,hr=>by grind [aj]
 |n+1,i,s,h0,h,r,hr=>by
  simp only[aj]at hr;cases E:step i s with
  |inl x=>grind
  |inr s'=>
   rw[E]at hr;have:=uI J n (i+1) s' (h i s (ak2 _) (by omega) h0 s' E) (λj s h1 h2=>h j s (by omega) (by omega)) r hr;grind
section
variable {P:Program}{ρ σ:Type}
def Q2 (D:Nat->σ->St)(js:List Nat)(n0 k:Nat)(st:St):ρ⊕σ->Prop
 | .inl _=>False| .inr s'=>n0<=(D (k+1) s').h.length/\Sub js n0 st (D (k+1) s')
def exQ (exE:ρ->Ex)(aoh:ρ->St)(js:List Nat)(n0:Nat)(e:Ex)(st:St):ρ⊕σ->Prop
 | .inl x=>exE x=e/\n0<=(aoh x).h.length/\Sub js n0 st (aoh x)| .inr _=>False
def cQ (step:Nat->σ->ρ⊕σ)(n:Nat)(exE:ρ->Ex)(aoh:ρ->St)(aoD:σ->St)(D:Nat->σ->St)(js:List Nat)(n0 id k:Nat)(s:σ):Ex->St->Prop
 | .normal,st=>k<n/\Q2 D js n0 k st (step k s)| .exit j,st=>bif Nat.beq j id then(n<=k->n0<=(aoD s).h.length/\Sub js n0 st (aoD s))/\(k<n->exQ exE aoh js n0 .normal st (step k s))else k<n/\exQ exE aoh js n0 (.exit j) st (step k s)| .ret,st=>k<n/\exQ exE aoh js n0 .ret st (step k s)| .pan x,st=>k<n/\exQ exE aoh js n0 (.pan x) st (step k s)
variable {step:Nat->σ->ρ⊕σ}{n n0 id k j:Nat}{exE:ρ->Ex}{aoh:ρ->St}{aoD:σ->St}{D:Nat->σ->St}{js:List Nat}{s s':σ}{st:St}{x:Value}{e:Ex}{y:ρ}
@[go_sem] def aeW:= @Q2.eq_2
@[go_sem] def ajb:= @exQ.eq_1
@[go_sem] def aeX:= @cQ.eq_1
@[go_sem] def ajc:= @cQ.eq_2
@[go_sem] def ajT:= @cQ.eq_3
@[go_sem] def ajU:= @cQ.eq_4
variable {r r':ρ⊕σ}
@[congr] theorem aab(h:r=r'):Q2 D js n0 k st r=Q2 D js n0 k st r':=by rw[h]
@[congr] theorem aeY(h:r=r'):exQ exE aoh js n0 e st r=exQ exE aoh js n0 e st r':=by rw[h]
@[congr] theorem agL {st st':St}{e e':Ex}(h:st=st')(he:e=e'):cQ step n exE aoh aoD D js n0 id k s e st=cQ step n exE aoh aoD D js n0 id k s e' st':=by rw[h,he]
theorem IR {ts:Tis}{G:Cons}{ro:Option Nat}{N:Nat}(hm:P.follows .mixedOrders=true)(hts:ts.ok P)(hG:aot P G){id:Nat}{c:Code}(hc:c7 N c=true){C:St->Option apc}
  (h:∀ st lc,C st=some lc->lc.pre->∃ (ρ σ:Type) (pre:Prop) (step:Nat->σ->ρ⊕σ) (p:Nat->σ->Prop) (n:Nat) (s0:σ) (exE:ρ->Ex) (aoh:ρ->St) (aoD:σ->St) (D:Nat->σ->St) (js:List Nat),
   lc=LC pre (aj step n 0 s0) exE aoh aoD/\okI step p n 0 s0/\st.h.length<=(D 0 s0).h.length/\Sub js st.h.length st (D 0 s0)/\
   ∀ k s,k<=n->(k<n->p k s)->∃ L,ak P ro N L c/\exec ts G L c (D k s) (cQ step n exE aoh aoD D js st.h.length id k s)):k9 P ro N id (.loop c) C:=by
 refine w7 hm hts hG hc λst lc hC hp=>?_;obtain⟨ρ,σ,pre,step,p,n,s0,exE,aoh,aoD,D,js,rfl,h1,h2,h3,h4⟩:=h st lc hC hp;refine⟨Nat×σ,λx=>D x.1 x.2,λx=>x.1<=n/\okI step p (n - x.1) x.1 x.2/\aj step (n - x.1) x.1 x.2=aj step n 0 s0,λx=>n - x.1,(0,s0),js,⟨alB _,by omega,by simp⟩,h2,h3,?_⟩;rintro⟨k,s⟩ ⟨hk,hJ,E⟩;simp only at hk hJ E;obtain⟨L,hl,hex⟩:=h4 k s hk (λhlt=>by
  rw[show n - k=(n - k - 1)+1 by omega]at hJ;exact hJ.1)
 refine⟨L,_,hl,?_,hex⟩;have V:∀ e st',k<n->exQ exE aoh js st.h.length e st' (step k s)->∃ r js,(LC pre (aj step n 0 s0) exE aoh aoD).post r/\(LC pre (aj step n 0 s0) exE aoh aoD).ex r=e/\st.h.length<=((LC pre (aj step n 0 s0) exE aoh aoD).out r).h.length/\Sub js st.h.length st' ((LC pre (aj step n 0 s0) exE aoh aoD).out r):=by
  intro e st' hlt q;cases O:step k s with
  |inr s'=>rw[O]at q;exact q.elim
  |inl x=>
   rw[O]at q;obtain⟨W,q3,q4⟩:=q;rw[show n - k=(n - k - 1)+1 by omega]at E;simp only[aj,O]at E;exact⟨.inl x,js,E,W,q3,q4⟩
 intro e st' Y;cases e with
 |normal=>
  obtain⟨q1,W⟩:=Y;cases O:step k s with
  |inl x=>rw[O]at W;exact W.elim
  |inr s'=>
   rw[O]at W;rw[show n - k=(n - (k+1))+1 by omega]at E hJ;simp only[aj,O]at E;exact⟨(k+1,s'),js,⟨q1,hJ.2 s' O,E⟩,by grind,W.1,W.2⟩
 |exit j=>
  have X:(bif Nat.beq j id then(n<=k->st.h.length<=(aoD s).h.length/\Sub js st.h.length st' (aoD s))/\(k<n->exQ exE aoh js st.h.length .normal st' (step k s))else k<n/\exQ exE aoh js st.h.length (.exit j) st' (step k s)):=Y;show bif Nat.beq j id then _ else _;cases hb:Nat.beq j id with
  |true=>
   rw[hb]at X;simp only[cond_true]at X |-;by_cases hlt:k<n
   grind
   obtain⟨q3,q4⟩:=X.1 (by omega);have hkn:k=n:=by omega
   subst hkn;simp only[amY,aj]at E;exact⟨.inr s,js,E,rfl,q3,q4⟩
  |false=>grind
 |ret=>exact V _ _ Y.1 Y.2|pan x=>exact V _ _ Y.1 Y.2
end
def cy {ρ σ:Type}[Inhabited σ]:ρ⊕σ->σ| .inr s=>s| .inl _=>default
def ei {ρ σ:Type}[Inhabited ρ]:ρ⊕σ->ρ| .inl s=>s| .inr _=>default
def UX {ρ σ:Type}[Inhabited σ]{s:σ}:cy (ρ:=ρ) (.inr s)=s:=(rfl)
def UY {ρ σ:Type}[Inhabited ρ]{s:ρ}:ei (σ:=σ) (.inl s)=s:=(rfl)
attribute[go_sem]UX UY
def Q3 {k:Nat}{n:Int}(h:k<n.toNat)(hn:n<9223372036854775808):i64.wrap ((k:Int)+1)=((k+1:Nat):Int):=by
 grind [aA]
def yk (pks:List Pk):SV->SV
 | .tup l=>.tup (y3 pks l)
 |s=>match pks with| [p] =>Be p s|_=>s
section
variable {F:Nat->Prop}{own:Own}{w:World}
theorem MC {pks:List Pk}{s:SV}{v:Value}(h:Rel F own w s v):Rel F own w (yk pks s) v:=by
 unfold yk;split
 cases h with
 |tup V h1=>
  refine .tup (by rw[Fa];exact V) λj s W=>?_;obtain⟨s0,O,E| ⟨p,E⟩⟩:=Fb _ _ _ _ W;subst E;exact h1 j _ O;subst E;exact E_ (h1 j _ O)
 split
 exact E_ h;exact h
@[go_sem] def agM:= @yk.eq_1
variable {p:Pk}
def agN{l:List SV}:yk [p] (.agg l)=Be p (.agg l):=(rfl)
def ajV{x:Value}:yk [p] (.v x)=Be p (.v x):=(rfl)
def ajd{k:Tag}{l:List k.T}:yk [p] (.rs k l)=Be p (.rs k l):=(rfl)
def aje{k k2:Tag}{l:List (k.T×k2.T)}:yk [p] (.rm k k2 l)=Be p (.rm k k2 l):=(rfl)
def ajf:yk [p] .e0=Be p .e0:=(rfl)
attribute[go_sem]agN ajV ajd aje ajf
end
section
variable {P:Program}{ts:Tis}{G:Cons}
theorem By (pks:List Pk) (hm:P.follows .mixedOrders=true) (hts:ts.ok P) (hG:aot P G) {f:FuncId} {fn:Func} {c:Code} (hf:P.funcs[f]? =some fn) (hb:fn.body=some c) (Y:(fn.name== "runtime.NumGoroutine")=false)
  (hc:c7 fn.ntmps c=true) {C:List SV->Option Con}
  (h:∀ l O,C l=some O->an O->l.length<=fn.ntmps/\∃ L,ak P none fn.ntmps L c/\exec ts G L c ⟨nY 0 l,[]⟩ (Ew false fn.results.toList ts (λs=>dZ O (yk pks s)) (kZ O))):P1 P f C:=by
 refine⟨λl O _ args w=>?_,λl O ap3 hpre F w vs hF hvs=>?_⟩;have hn:¬fn.name= "runtime.NumGoroutine":=by simpa using Y
 simp[callFunc,hf,hn,hb];obtain⟨hlen,L,hl,hx⟩:=h l O ap3 hpre;refine sE (n:=0) (callsIn_of_wp_marks hf hb trivial ?_);have hr:aos F { w:=w,own:=dF} fn.ntmps dF ⟨nY 0 l,[]⟩ { tmps:=vs++Array.replicate (fn.ntmps - vs.size) undef,defers:=[]} w:=
  ⟨by have:=hvs.1;simp;omega,Dfr.nil,Aj hF,Fr.refl _,λt=>qL hvs _ t⟩
 refine wpIn_mono (rO hm hts hG c hc hl F _ _ hx dF _ w hr) ?_;intro e a' w' hq;have key:∀ X own st,(∀ b,F b->X b)->aos X { w:=w,own:=dF} fn.ntmps own st a' w'->iP (λs=>dZ O (yk pks s)) (Et false fn.results.toList ts st)->LeavesInM (rd none) 0 P fn a'.tmps
   (λe w'=>(∃ s u ee,dZ O s/\e=.returned u/\Handed F w ee w' s u/\Below w.heap.size w w')\/(∃ x,kZ O x/\e=.panicked [{ v:=x,recovered:=false}]/\Below w.heap.size w w')) a'.defers .returning w':=by
  intro X own st hF1 hst E;refine mZ hst (by simp) λw2 W=>?_;have V:=W.less hF1 rfl;simp only[Et,cond_false,Es]at E;cases hs:tA (ri ts st fn.results.toList)with
  |none=>rw[hs]at E;exact E.elim
  |some s=>
   obtain⟨u,e1,e2⟩:=Ai (P:=P) hts V hs;refine⟨u,e1,.inl ?_⟩;rw[hs]at E;exact⟨_,u,dF,E,rfl,w6 V.hp.aoB (MC (Af V.hp 4 s u e2)),qK V.fr⟩
 cases e with
 |normal=>obtain⟨X,own,st,h0,h1,h2⟩:=hq;exact key X own st h0 h1 h2
 |ret=>obtain⟨X,own,st,h0,h1,h2⟩:=hq;exact key X own st h0 h1 h2
 |exit id=>obtain⟨X,own,st,h0,h1,h2⟩:=hq;exact h2.elim
 |panic ch=>
  obtain⟨x,X,own,st,h0,h1,h2,rfl⟩:=hq;exact mZ h1 (by simp) λw2 W=>.inr ⟨x,h2,rfl,qK W.fr⟩
 |_=>exact hq.elim
end
def zi {o:Ob}(E:QC o=false):∀ (h:List Ob) (i:Nat),ou h=false->ou (cL h i o)=false
 | [],0,_=>by simp[cL,ou,E]
 | [],n+1,_=>by simp[cL,ou,QC,zi E [] n rfl]
 |a::r,0,h=>by grind [ou,cL]
 |a::r,n+1,h=>by simp only[ou,alC]at h;simp[cL,ou,h.1,zi E r n h.2]
def aac (P:Program)(g:FuncId)(C:Value->Option SV):Prop:=
 (∀ (args:Array Value) (w:World),(callFunc g args).run P w=.ok (.enter g args) w)/\
 (∀ (p:Addr) (w:World),CallsDIn (rd none) 0 P g #[.pointer (some p)] .returning w (λe u' w'=>(∃ v,e=.returned v)/\u'=.returning/\w'=w))/\
 ∀ (x:Value) (s:SV),C x=some s->∀ (F:Nat->Prop) (own:Own) (w:World) (h:List Ob) (id:Nat) (hd:Hd) (b:Nat) (y:SV),ou h=false->Hp F own w h->ap h id=.cells [y]->own id=some hd->hd.p=some b->
  CallsDIn (rd none) 0 P g #[.pointer (some ⟨b,0,none⟩)] (.panicking [{ v:=x,recovered:=false}]) w (λe u' w'=>(∃ v,e=.returned v)/\u'=.panicking [{ v:=x,recovered:=true}]/\∃ ee,Hp F ee w' (cL h id (.cells [s]))/\Fr { w:=w,own:=own} ee w')
section
variable {P:Program}{ts:Tis}{G:Cons}
theorem Kj {n:Nat}{g:FuncId}{i1 t3 q:Nat}{o1 o2:Oper}{tys:Array TypeId}{Q:Exit->Act->World->Prop}{a:Act}{w:World}{b:Nat}
  (ho1:o1.dst=some t3/\o1.op=.makeFunc (.func g) #[] #[.tmp q]/\o1.guard=none) (ho2:o2.dst=none/\o2.op=.defer ⟨.value (.tmp t3),#[],tys⟩/\o2.guard=none)
  (hq:a.tmps.getD q undef=.pointer (some ⟨b,0,none⟩)) (ht3:t3<a.tmps.size)
  (h:Q .normal { tmps:=a.tmps.setIfInBounds t3 (.func (.func g) #[] #[.pointer (some ⟨b,0,none⟩)]),defers:= { target:=.fn (.func g) #[.pointer (some ⟨b,0,none⟩)],args:= #[]}::a.defers} w):
  (Code.region i1 #[o1,o2] false).wpIn (rd none) n P Q a w:=by
 obtain⟨d1,p1,E,s1,V,g1⟩:=o1;obtain⟨d2,p2,t2,X,O,g2⟩:=o2;obtain⟨rfl,rfl,rfl⟩:=ho1;obtain⟨rfl,rfl,rfl⟩:=ho2;refine wpIn_region ?_;have W:(a.tmps.setIfInBounds t3 (.func (.func g) #[] #[.pointer (some ⟨b,0,none⟩)])).getD t3 undef=.func (.func g) #[] #[.pointer (some ⟨b,0,none⟩)]:=by
  simp_all
 have Y:List.range (#[(⟨some t3,.makeFunc (.func g) #[] #[.tmp q],E,s1,V,none⟩:Oper),(⟨none,.defer ⟨.value (.tmp t3),#[],tys⟩,t2,X,O,none⟩:Oper)]:Array Oper).size=[0,1]:=rfl;rw[Y];simp only[wpOpsIn,Oper.wpIn,Region.wanted];have e1:(#[(⟨some t3,.makeFunc (.func g) #[] #[.tmp q],E,s1,V,none⟩:Oper),(⟨none,.defer ⟨.value (.tmp t3),#[],tys⟩,t2,X,O,none⟩:Oper)]:Array Oper)[0]? =some ⟨some t3,.makeFunc (.func g) #[] #[.tmp q],E,s1,V,none⟩:=rfl;have e2:(#[(⟨some t3,.makeFunc (.func g) #[] #[.tmp q],E,s1,V,none⟩:Oper),(⟨none,.defer ⟨.value (.tmp t3),#[],tys⟩,t2,X,O,none⟩:Oper)]:Array Oper)[1]? =some ⟨none,.defer ⟨.value (.tmp t3),#[],tys⟩,t2,X,O,none⟩:=rfl;rw[e1,e2];simp only[if_true];refine⟨λ_ _=>trivial,?_⟩;have r1:((⟨some t3,.makeFunc (.func g) #[] #[.tmp q],E,s1,V,none⟩:Oper).semAt (rd none).round a.eval).run P w=.ok (.value (.func (.func g) #[] #[.pointer (some ⟨b,0,none⟩)])) w:=by
  simp[Oper.semAt,execOp,go_sem,Act.eval,hq];try rfl
 rw[r1];simp only[Oper.uponIn_value];refine⟨λ_ _=>trivial,?_⟩;have r2:((⟨none,.defer ⟨.value (.tmp t3),#[],tys⟩,t2,X,O,none⟩:Oper).semAt (rd none).round (a.put (some t3) (.func (.func g) #[] #[.pointer (some ⟨b,0,none⟩)])).eval).run P w=.ok (.defer { target:=.fn (.func g) #[.pointer (some ⟨b,0,none⟩)],args:= #[]}) w:=by
  simp[Oper.semAt,execOp,go_sem,Act.eval,Act.put,W];try rfl
 rw[r2];simp only[Oper.uponIn_defer];exact h
theorem Pn {F:Nat->Prop}{w0:Bs}{ro:Option Nat}{nd N:Nat}(hm:P.follows .mixedOrders=true)(X:ts.ok P)(hG:aot P G){id:Nat}{ops:Array Oper}(hc:c7 N (.region id ops false)=true){st:St}{Q:St->Prop}{L:wc}(hx:exec ts G L (.region id ops false) st (λe st=>e=.normal/\Q st))
  {own:Own} {a:Act} {w:World} (hr:aos F w0 N own st a w):(Code.region id ops false).wpIn (rd ro) nd P (λe a w=>e=.normal/\∃ own st,aos F w0 N own st a w/\Q st) a w:=by
 have E:Er (CG ts G ops false st) (λe st=>e=.normal/\Q st) (L (id+2000000) st):=hx;have key:∀ Q:Ex->St->Prop,(∀ x st,¬Q (.pan x) st)->CG ts G ops false st Q->(Code.region id ops false).wpIn (rd ro) nd P (λe a w=>e=.normal/\∃ own st,aos F w0 N own st a w/\Q .normal st) a w:=by
  intro Q O E;simp only[c7,akZ]at hc;obtain⟨h1,h2⟩:=hc;have W:=Ul h1;obtain⟨l⟩:=ops;have E:jq ts G l l st (λst'=>Q .normal (wQ l st')) (λx st'=>Q (.pan x) st'):=E;refine wpIn_region_list ?_;exact OZ (K:=λst'=>Q .normal (wQ l st')) (Z:=λx st'=>Q (.pan x) st') X hG W (λx own st a w h1 h2=>(O x _ h2).elim) l 0 own st a w rfl (hr.start l λk hk=>by omega) E λown st a w hi hk=>⟨rfl,own,_,aos.finish hi,hk⟩
 cases V:L (id+2000000) st with
 |none=>
  rw[V]at E;refine wpIn_mono (key (λe st=>e=.normal/\Q st) (λx st h=>(by cases h.1)) E) λe a w ⟨h1,own,st,h2,Y⟩ =>⟨h1,own,st,h2,Y.2⟩
 |some lc=>
  rw[V]at E;refine wpIn_mono (key (afD lc λe st=>e=.normal/\Q st) (λx st h=>(by have h:Ex.pan x=.normal/\Q st:=h;cases h.1)) E.1) λe a w ⟨h1,own,st,h2,r,Y,h4,h5⟩ =>⟨h1,own,_,h2.apV h4 h5,(E.2 r Y).2⟩
def UZ:Ob->Prop
 | .cells [_] =>True|_=>False
theorem U0 {o:Ob}(h:UZ o):∃ y,o=.cells [y]:=by
 unfold UZ at h;grind
def ab0 (rs:List ResultVar)(ts:Tis)(post:SV->Prop)(id:Nat)(st:St):Option SV->Prop
 |some s=>UZ (ap st.h id)/\ou st.h=false/\iP post (Es rs ts ⟨st.t,cL st.h id (.cells [s])⟩)|none=>False
def Yx (C:Value->Option SV)(rs:List ResultVar)(ts:Tis)(post:SV->Prop)(id:Nat):Ex->St->Prop
 | .exit _,_=>False| .normal,st=>iP post (Es rs ts st)| .ret,st=>iP post (Es rs ts st)| .pan x,st=>ab0 rs ts post id st (C x)
@[go_sem] def ab1:= @UZ.eq_1
@[go_sem] def aeZ:= @ab0.eq_1
section
variable {C:Value->Option SV}{rs:List ResultVar}{ts:Tis}{post:SV->Prop}{id:Nat}{st:St}{x:Value}
@[go_sem] def aad:= @Yx.eq_2
@[go_sem] def agO:= @Yx.eq_3
@[go_sem] def agP:= @Yx.eq_4
end
def SE:Code->Code| .seq a _=>a|c=>c
def Po:Code->Code| .seq _ b=>b|c=>c
def arQ:Code->Nat| .region i _ _=>i|_=>0
def agQ (i:Nat):Code->Oper| .region _ ops _=>ops.getD i default|_=>default
theorem ab2 {g:FuncId}{RC:Value->Option SV}(aqJ:aac P g RC)(pks:List Pk)(hm:P.follows .mixedOrders=true)(hts:ts.ok P)(hG:aot P G){f:FuncId}{fn:Func}{c0 c1:Code}{i1 t3 q:Nat}{o1 o2:Oper}{tys:Array TypeId}
  (hf:P.funcs[f]? =some fn) (hb:fn.body=some (.seq c0 (.seq (.region i1 #[o1,o2] false) c1))) (hname:(fn.name== "runtime.NumGoroutine")=false)
  (ho1:o1.dst=some t3/\o1.op=.makeFunc (.func g) #[] #[.tmp q]/\o1.guard=none) (ho2:o2.dst=none/\o2.op=.defer ⟨.value (.tmp t3),#[],tys⟩/\o2.guard=none) (ht3:t3<fn.ntmps)
  (hc0:c7 fn.ntmps c0=true) (hc1:c7 fn.ntmps c1=true) {C:List SV->Option Con}
  (h:∀ l W,C l=some W->an W->l.length<=fn.ntmps/\∃ L L' id,ak P none fn.ntmps L c0/\ak P none fn.ntmps L' c1/\exec ts G L c0 ⟨nY 0 l,[]⟩ (λe st=>e=.normal/\lk q st.t=.ptr id 0/\UZ (ap st.h id)/\
   exec ts G L' c1 ⟨(t3,.any)::st.t,st.h⟩ (Yx RC fn.results.toList ts (λs=>dZ W (yk pks s)) id))):P1 P f C:=by
 refine⟨λl W _ args w=>?_,λl W ap3 hpre F w vs hF hvs=>?_⟩;simp_all [callFunc]
 ·obtain⟨hlen,L,L',id,hl,hl',hx⟩:=h l W ap3 hpre;refine sE (n:=0) (callsIn_of_wp_marks hf hb trivial ?_);have hr:aos F { w:=w,own:=dF} fn.ntmps dF ⟨nY 0 l,[]⟩ { tmps:=vs++Array.replicate (fn.ntmps - vs.size) undef,defers:=[]} w:=
   ⟨by have:=hvs.1;simp;omega,Dfr.nil,Aj hF,Fr.refl _,λt=>qL hvs _ t⟩
  refine wpIn_seq (wpIn_mono (rO hm hts hG c0 hc0 hl F _ _ hx dF _ w hr) ?_);intro e a1 w1 hq;cases e with
  |normal=>
   obtain⟨F1,own1,st1,hF1,X,_,hlk,_,hx1⟩:=hq;have hsq:=X.slots q;rw[hlk]at hsq;generalize hv:a1.tmps.getD q undef=pv at hsq;cases hsq with
   | @ptr _ _ b hd ho hp=>
   show(Code.seq (.region i1 #[o1,o2] false) c1).wpIn (rd none) 0 P _ a1 w1;have hsz:=X.size;refine wpIn_seq (Kj ho1 ho2 hv (by omega) ?_);show c1.wpIn (rd none) 0 P _ _ w1;obtain⟨ms,Ds,k0,k1,k2,k3⟩:=X.defers;have k0':a1.defers=ms:=by grind
   let d:Deferred:= { target:=.fn (.func g) #[.pointer (some ⟨b,0,none⟩)],args:= #[]}
   let B:Bs:= { w:=w1,own:=own1,ds:=d::a1.defers}
   have hr2:aos F1 B fn.ntmps own1 ⟨(t3,.any)::st1.t,st1.h⟩ { tmps:=a1.tmps.setIfInBounds t3 (.func (.func g) #[] #[.pointer (some ⟨b,0,none⟩)]),defers:=d::a1.defers} w1:=by
    refine⟨by grind,Dfr.nil,X.hp,Fr.refl B,λt=>?_⟩;rw[px];by_cases ht:t3=t
    rw[if_pos ht];exact .any _;rw[if_neg ht];have:=X.slots t;simp_all
   have hbd:∀ D∈Ds,¬ ∃ id hd,own1 id=some hd/\D∈hd.bs:=λD hD ⟨i,hd,e,hm⟩ =>X.hp.apart i hd D e hm (k3 D hD).2.1;have fin:∀ Y X2 O (a2:Act) w2,(∀ b,F1 b->Y b)->aos Y B fn.ntmps X2 O a2 w2->iP (λs=>dZ W (yk pks s)) (Es fn.results.toList ts O)->
     LeavesInM (rd none) 0 P fn a2.tmps (λe w'=>(∃ s u ee,dZ W s/\e=.returned u/\Handed F w ee w' s u/\Below w.heap.size w w')\/(∃ x,kZ W x/\e=.panicked [{ v:=x,recovered:=false}]/\Below w.heap.size w w')) a1.defers .returning w2:=by
    intro Y X2 O a2 w2 hF2 E V;have hB:aos Y { w:=w,own:=dF} fn.ntmps X2 O { a2 with defers:=[]} w2:=⟨E.size,Dfr.nil,E.hp,X.fr.trans ⟨E.fr.ids,E.fr.base,E.fr.os,E.fr.tape,E.fr.output,E.fr.size,E.fr.block⟩,E.slots⟩;have hkeep:∀ D∈Ds,w2.heap[D]? =some (.deferred (some [])):=λD hD=>by
     rw[E.fr.block D ⟨rL (k3 D hD).2.2,hbd D hD⟩];grind
    rw[k0',<-ali ms];refine Bx (by simp) Ds ms w2 k1 k2 hkeep λw4 hs=>?_;have hst4:=(hB.shut (Ds:=Ds) (λD hD=>⟨(k3 D hD).1,hF2 D (k3 D hD).2.1,hkeep D hD⟩) hs).less (λc hc=>hF2 c (hF1 c hc)) rfl;simp only[Es]at V;cases hres:tA (ri ts O fn.results.toList)with
    |none=>rw[hres]at V;exact V.elim
    |some s=>
     obtain⟨u,e1,e2⟩:=Ai (P:=P) hts hst4 hres;rw[hres]at V;exact⟨u,e1,.inl ⟨_,u,dF,V,rfl,w6 hst4.hp.aoB (MC (Af hst4.hp 4 s u e2)),qK hst4.fr⟩⟩
   have hinv:∀ w2:World,(invoke (.fn (.func g) #[.pointer (some ⟨b,0,none⟩)]) #[]).run P w2=.ok (.enter g #[.pointer (some ⟨b,0,none⟩)]) w2:=λw2=>by simp[invoke,go_sem,aqJ.1]
   refine wpIn_mono (rO hm hts hG c1 hc1 hl' F1 _ _ hx1 own1 _ w1 hr2) ?_;have idle:∀ (a':Act) (w':World) Y X2 O,(∀ b,F1 b->Y b)->aos Y B fn.ntmps X2 O a' w'->iP (λs=>dZ W (yk pks s)) (Es fn.results.toList ts O)->
     LeavesInM (rd none) 0 P fn a'.tmps (λe w'=>(∃ s u ee,dZ W s/\e=.returned u/\Handed F w ee w' s u/\Below w.heap.size w w')\/(∃ x,kZ W x/\e=.panicked [{ v:=x,recovered:=false}]/\Below w.heap.size w w')) a'.defers .returning w':=by
    intro a' w' Y X2 O hF2 E V;refine mZ E (by simp) λw2 aqz=>?_;refine⟨by simp,.inr ⟨λh=>(by cases h),.func g,#[.pointer (some ⟨b,0,none⟩)],g,#[.pointer (some ⟨b,0,none⟩)],rfl,hinv w2,λ_ _=>trivial,?_⟩⟩;refine(aqJ.2.1 ⟨b,0,none⟩ w2).mono ?_;rintro e u' w3 ⟨⟨v,rfl⟩,rfl,rfl⟩;exact fin Y X2 O { a' with defers:=B.ds} _ hF2 aqz V
   intro e a' w' hq;cases e with
   |normal=>obtain⟨Y,X2,O,h0,h1,h2⟩:=hq;exact idle a' w' Y X2 O h0 h1 h2
   |ret=>obtain⟨Y,X2,O,h0,h1,h2⟩:=hq;exact idle a' w' Y X2 O h0 h1 h2
   |exit jd=>obtain⟨Y,X2,O,h0,h1,h2⟩:=hq;exact h2.elim
   |panic ch=>
    obtain⟨x,Y,X2,O,h0,h1,hm,rfl⟩:=hq;change ab0 fn.results.toList ts _ id O (RC x)at hm;cases m1:RC x with
    |none=>rw[m1]at hm;exact hm.elim
    |some s=>
    rw[m1]at hm;obtain⟨hm2,m4,m3⟩:=hm;obtain⟨y,m2⟩:=U0 hm2;refine mZ h1 (by simp) λw2 aqz=>?_;refine⟨by simp,.inr ⟨λh=>(by cases h),.func g,#[.pointer (some ⟨b,0,none⟩)],g,#[.pointer (some ⟨b,0,none⟩)],rfl,hinv w2,λ_ _=>trivial,?_⟩⟩;obtain⟨hd2,e2,l2⟩:=aqz.fr.ids id hd ho;refine(aqJ.2.2 x s m1 Y X2 w2 O.h id hd2 b y m4 aqz.hp m2 e2 (l2.1.trans hp)).mono ?_;rintro e u' w3 ⟨⟨v,rfl⟩,rfl,aqI,q1,q2⟩;exact fin Y aqI ⟨O.t,_⟩ { a' with defers:=B.ds} w3 h0 (aqz.aqj q1 q2) m3
   |_=>exact hq.elim
  |ret=>obtain⟨F1,own,st,h0,h1,h2,_⟩:=hq;cases h2
  |exit jd=>obtain⟨F1,own,st,h0,h1,h2,_⟩:=hq;cases h2
  |panic ch=>obtain⟨x,F1,own,st,h0,h1,⟨h2,_⟩,_⟩:=hq;cases h2
  |_=>exact hq.elim
end
end Go.Sx
end
section
namespace Go.Sx
open Go.Proofs
def kr {p:Prop}(h:p:=by kernel_rfl):p:=h
def tz:SV:=.v (.int .i64 0)
def tn:SV:=.v (.slice none 0 0)
def tb:SV:=.v (.string (ByteArray.mk #[]))
def to:Nat×Bool:=(1,false)
def tS (e:Nat):TI:=⟨1,24,false,[tn],[],e,0,true,false,none,none,false,[],none,none,0⟩
def tM (e:Nat)(a b:Tag):TI:=⟨1,8,false,[(.v (.map none))],[],e,0,false,false,none,none,false,[],some a,some b,0⟩
def tT (n s:Nat)(z:List SV)(f:List (Nat×(Nat×Bool)))(k:Tag)(l:List Nat):TI:=⟨n,s,true,z,f,0,0,false,false,some k,none,false,l,none,none,0⟩
def ti3:TI:=⟨1,8,false,[tz],[],0,0,false,false,(some .int),(some .i64),false,[],none,none,1⟩
def ti4:TI:=⟨1,1,false,[(.v (.bool false))],[],0,0,false,false,(some .bool),none,false,[],none,none,3⟩
def ti9:TI:=⟨1,16,false,[tb],[],0,0,false,false,(some .str),none,false,[],none,none,2⟩
def ab3:TI:=tT 2 16 [tz,tz] [(0,to),(1,to)] .aoE [1,1]
def ab4:TI:=tS 67
def ab5:TI:=tS 129
def ab6:TI:=tS 199
def ab7:TI:=tS 131
def ab8:TI:=tS 203
def ab9:TI:=tS 421
def ab_:TI:=tT 10 184 [tb,tz,tz,tz,tn,tn,tn,tn,tn,tn] [(0,to),(1,to),(2,(2,true)),(4,to),(5,to),(6,to),(7,to),(8,to),(9,to)] .al []
def aca:TI:=tS 217
def zj:TI:=⟨1,8,false,[(.v .nilFunc)],[],0,0,false,false,none,none,false,[],none,none,0⟩
def acb:TI:=⟨1,24,false,[tn],[],3,0,true,false,(some .ints),none,false,[],none,none,0⟩
def acd:TI:=tS 75
def ace:TI:=tT 5 72 [tn,tz,tz,tz,tn] [(0,to),(1,to),(2,to),(3,to),(4,to)] .refusal []
def acf:TI:=tS 58
def acg:TI:=tS 259
def ach:TI:=tT 5 40 [tz,tz,tz,tz,tz] [(0,to),(1,to),(2,to),(3,to),(4,to)] .Q1 [1,1,1,1,1]
def aci:TI:=tT 2 16 [tz,tz] [(0,to),(1,to)] .range [1,1]
def acj:TI:=tT 2 16 [tz,tz] [(0,to),(1,to)] .ratio [1,1]
def ack:TI:=⟨4,32,true,[tz,tz,tz,tz],[],64,2,false,true,(some .ao9),none,false,[],none,none,0⟩
def acl:TI:=tT 12 104 [tb,tz,tz,tz,tz,tz,tz,tz,tz,tz,tz,tz] [(0,to),(1,to),(2,to),(3,to),(4,to),(5,to),(6,(2,true)),(8,(4,true))] .reach []
def acm:TI:=tT 4 32 [tz,tz,tz,tz] [(0,to),(1,to),(2,to),(3,to)] .aow [1,1,1,1]
def acn:TI:=tT 11 208 [tb,tz,tz,tz,tn,tn,tn,tn,tn,tn,tn] [(0,(10,true)),(10,to)] .G2 []
def aco:TI:=tT 5 40 [tz,tz,tz,tz,tz] [(0,to),(1,to),(2,to),(3,to),(4,to)] .fault [1,1,1,1,1]
def MD:TI:=tM 3 .aok .int
def U3:TI:=⟨2,16,true,[tz,(.v .nilFunc)],[(0,to),(1,to)],0,0,false,false,none,none,false,[],none,none,0⟩
def ME:TI:=⟨2,16,true,[tz,tz],[],3,2,false,true,(some .aok),none,false,[1,1],none,none,0⟩
def U4:TI:=tS 107
def U5:TI:=tS 119
def U6:TI:=tT 6 48 [tz,tz,tz,tz,tz,tz] [(0,(5,true)),(5,to)] .aom [1,1,1,1,1,1]
def U7:TI:=tT 4 40 [tb,tz,tz,tz] [(0,to),(1,to),(2,to),(3,to)] .gl [2,1,1,1]
def U8:TI:=tT 10 88 [tb,tz,tz,tz,tz,tz,tz,tz,tz,tz] [(0,to),(1,to),(2,to),(3,to),(4,to),(5,to),(6,to),(7,to),(8,to),(9,to)] .right [2,1,1,1,1,1,1,1,1,1]
def U9:TI:=tM 4 .aok .bool
def U_:TI:=tM 3 .int .int
def Va:TI:=tM 4 .X1 .bool
def Vb:TI:=tT 3 24 [(.v (.map none)),(.v (.map none)),(.v (.map none))] [(0,to),(1,to),(2,to)] .aoP []
def Vc:TI:=tT 2 16 [tz,tz] [(0,to),(1,to)] .X1 [1,1]
def Vd:TI:=tT 2 24 [tb,tz] [(0,to),(1,to)] .apa [2,1]
def Ve:TI:=tT 4 40 [tb,tz,tz,tz] [(0,to),(1,to),(2,to),(3,to)] .apn [2,1,1,1]
def Vf:TI:=tS 341
def Vg:TI:=tT 9 88 [tz,tz,tz,tz,tz,tn,tz,tz,tz] [(0,to),(1,to),(2,to),(3,to),(4,to),(5,to),(6,to),(7,to),(8,to)] .B1 []
def Vh:TI:=tS 222
def Vi:TI:=tT 4 32 [tz,tz,tz,tz] [(0,to),(1,to),(2,to),(3,to)] .holding [1,1,1,1]
def Vj:TI:=⟨1,8,false,[(.v (.int .u64 0))],[],0,0,false,false,none,(some .u64),false,[],none,none,1⟩
def Vk:TI:=tM 217 .int .B1
def Vl:TI:=tT 4 32 [tz,tz,tz,(.v (.bool false))] [(0,to),(1,to),(2,to),(3,to)] .order [1,1,1,3]
def Vm:TI:=tM 3 .bo .int
def Vn:TI:=tM 4 .bo .bool
def Vo:TI:=tT 2 16 [tz,tz] [(0,to),(1,to)] .bo [1,1]
def Vp:TI:=tM 3 .pq .int
def Vq:TI:=tT 2 16 [tz,tz] [(0,to),(1,to)] .pq [1,1]
def Vr:TI:=⟨1,8,false,[(.v .nilFunc)],[],0,0,false,false,(some .fnc),none,false,[],none,none,0⟩
def Vs:TI:=tT 3 24 [tz,tz,tz] [(0,to),(1,(2,true))] .part [1,1,1]
def Vt:TI:=tM 4 .int .bool
def Vu:TI:=tM 359 .int .fnc
def Vv:TI:=tS 335
def Vw:TI:=⟨1,8,true,[(.v .nilFunc)],[(0,to)],0,0,false,false,none,none,false,[],none,none,0⟩
def tl:List (Nat×TI):=[(3,ti3),(4,ti4),(9,ti9),(23,ab3),(24,ab4),(25,ab5),(26,ab6),(27,ab7),(28,ab8),(29,ab9),(31,ab_),(32,aca),(33,zj),(35,acb),(36,acd),(38,ace),(39,ti3),(47,acf),(50,acg),(58,ach),(62,aci),(64,acj),(65,ack),(67,acl),(75,acm),(80,acn),(90,aco),(102,MD),(106,zj),(107,U3),(108,ME),(109,ME),(112,U4),(115,U5),(119,U6),(129,U7),(131,U8),(137,zj),(138,zj),(143,zj),(144,U9),(170,U_),(171,Va),(173,Vb),(183,Vc),(194,ti3),(199,Vd),(203,Ve),(215,Vf),(217,Vg),(218,Vh),(222,Vi),(229,Vj),(234,zj),(248,Vk),(259,Vl),(262,MD),(272,Vm),(273,Vn),(275,Vo),(316,Vp),(323,Vq),(335,Vr),(341,Vs),(354,Vt),(357,Vu),(373,Vv),(384,zj),(386,Vw)]
def ts:Tis:=λt=>tl.lookup t
def aae {P:Program}:∀ {l:List (Nat×TI)},l.map (λx=>jn P x.1)=l.map (λx=>some x.2)->Tis.ok (λt=>l.lookup t) P
 | [],_,t,i,h=>by cases h
 |(a,b)::l,e,t,i,h=>by
  simp only[alt,amB]at e;simp only[List.lookup_cons]at h;split at h
  rename_i q;cases h;rw[beq_iff_eq.1 q];exact e.1;exact aae e.2 t i h
def aJ:Tis.ok ts Tryz.prog:=aae kr
def arC:ts 3=some ti3:=(rfl)
def arq:ts 4=some ti4:=(rfl)
def ars:ts 9=some ti9:=(rfl)
def aq5:ts 23=some ab3:=(rfl)
def aqW:ts 24=some ab4:=(rfl)
def aqQ:ts 25=some ab5:=(rfl)
def ari:ts 26=some ab6:=(rfl)
def aqT:ts 27=some ab7:=(rfl)
def arj:ts 28=some ab8:=(rfl)
def aq6:ts 29=some ab9:=(rfl)
def arf:ts 31=some ab_:=(rfl)
def ard:ts 32=some aca:=(rfl)
def aq_:ts 33=some zj:=(rfl)
def aq4:ts 35=some acb:=(rfl)
def aqY:ts 36=some acd:=(rfl)
def aqZ:ts 38=some ace:=(rfl)
def aq7:ts 39=some ti3:=(rfl)
def aq8:ts 47=some acf:=(rfl)
def aqR:ts 50=some acg:=(rfl)
def ark:ts 58=some ach:=(rfl)
def aqU:ts 62=some aci:=(rfl)
def aq3:ts 64=some acj:=(rfl)
def aq2:ts 65=some ack:=(rfl)
def aq0:ts 67=some acl:=(rfl)
def aq1:ts 75=some acm:=(rfl)
def arb:ts 80=some acn:=(rfl)
def aqX:ts 90=some aco:=(rfl)
def ajW:ts 102=some MD:=(rfl)
def ajX:ts 106=some zj:=(rfl)
def ajY:ts 107=some U3:=(rfl)
def ajZ:ts 108=some ME:=(rfl)
def aj0:ts 109=some ME:=(rfl)
def aj1:ts 112=some U4:=(rfl)
def aj2:ts 115=some U5:=(rfl)
def aj3:ts 119=some U6:=(rfl)
def aj4:ts 129=some U7:=(rfl)
def aj5:ts 131=some U8:=(rfl)
def aj6:ts 137=some zj:=(rfl)
def aj7:ts 138=some zj:=(rfl)
def aj8:ts 143=some zj:=(rfl)
def aj9:ts 144=some U9:=(rfl)
def aj_:ts 170=some U_:=(rfl)
def aka:ts 171=some Va:=(rfl)
def akb:ts 173=some Vb:=(rfl)
def akc:ts 183=some Vc:=(rfl)
def akd:ts 194=some ti3:=(rfl)
def ake:ts 199=some Vd:=(rfl)
def akf:ts 203=some Ve:=(rfl)
def akg:ts 215=some Vf:=(rfl)
def akh:ts 217=some Vg:=(rfl)
def aki:ts 218=some Vh:=(rfl)
def akj:ts 222=some Vi:=(rfl)
def akk:ts 229=some Vj:=(rfl)
def akl:ts 234=some zj:=(rfl)
def akm:ts 248=some Vk:=(rfl)
def akn:ts 259=some Vl:=(rfl)
def ako:ts 262=some MD:=(rfl)
def akp:ts 272=some Vm:=(rfl)
def akq:ts 273=some Vn:=(rfl)
def akr:ts 275=some Vo:=(rfl)
def aks:ts 316=some Vp:=(rfl)
def akt:ts 323=some Vq:=(rfl)
def aku:ts 335=some Vr:=(rfl)
def akv:ts 341=some Vs:=(rfl)
def akw:ts 354=some Vt:=(rfl)
def akx:ts 357=some Vu:=(rfl)
def aky:ts 373=some Vv:=(rfl)
def akz:ts 384=some zj:=(rfl)
def akA:ts 386=some Vw:=(rfl)
attribute[go_sem]arC arq ars aq5 aqW aqQ ari aqT arj aq6 arf ard aq_ aq4 aqY aqZ aq7 aq8 aqR ark aqU aq3 aq2 aq0 aq1 arb aqX ajW ajX ajY ajZ aj0 aj1 aj2 aj3 aj4 aj5 aj6 aj7 aj8 aj9 aj_ aka akb akc akd ake akf akg akh aki akj akk akl akm akn ako akp akq akr aks akt aku akv akw akx aky akz akA
attribute [go_sem] tz tn tb to tS tM tT ti3 ti4 ti9 ab3 ab4 ab5 ab6 ab7 ab8 ab9 ab_ aca zj acb acd ace acf acg ach aci acj ack acl acm acn aco MD U3 ME U4 U5 U6 U7 U8 U9 U_ Va Vb Vc Vd Ve Vf Vg Vh Vi Vj Vk Vl Vm Vn Vo Vp Vq Vr Vs Vt Vu Vv Vw
def mixed:Tryz.prog.follows .mixedOrders=true:=by kernel_rfl
def kE:List SV->Option Con
 | [.v (.iface t (.int .i64 e))] =>bif Nat.beq t 194 then some (.det True (.i e))else none|_=>none
def Bz:P1 Tryz.prog 60 kE:=by
 have hG:aot Tryz.prog (mkG [] []):=oA (by simp) (by simp);refine By [.o] mixed aJ hG (fn:=Tryz.f60) (c:=ae Tryz.f60) kr kr kr kr λl V h W=>?_;unfold kE at h;split at h
 rename_i t e;cases E:Nat.beq t 194 with
 |false=>rw[E]at h;cases h
 |true=>
  rw[E]at h;cases h;have O:=ak0 E;subst O;refine⟨nbl rfl,L0,by unfold ae Tryz.f60;simp only[ak,and_self],?_⟩;unfold ae Tryz.f60;simp only[go_sem,true_imp_iff,false_imp_iff,Nat.reduceBEq,Nat.reduceLeDiff,Nat.reduceAdd,Nat.reduceSub,Nat.reduceMul,true_and,and_true,implies_true,reduceCtorEq]
 cases h
def acp:Value->Option SV
 | .iface t (.int .i64 e) =>bif Nat.beq t 194 then some (.i e)else none|_=>none
def Vx:aac Tryz.prog 59 acp:=by
 obtain⟨fn,W,O,hn,X⟩:∃ fn,Tryz.prog.funcs[59]? =some fn/\fn.body=some (ae Tryz.f59)/\fn.ntmps=7/\fn.results= #[]:=⟨Tryz.f59,by kernel_rfl,by kernel_rfl,by kernel_rfl,by kernel_rfl⟩;have hG:aot Tryz.prog (mkG [(60,kE)] []):=oA (by
  intro x V;simp only[ala,alV,or_false]at V;rcases V with rfl;exact Bz) (by simp)
 refine⟨λargs w=>by kernel_rfl,λp w=>?_,?_⟩;refine callsDIn_of_wpSIn W O trivial λc₀ cs hu=>?_;unfold ae Tryz.f59;refine wpSIn_seq (wpSIn_region ?_);simp[wpOpsSIn,go_sem,recoverD,hu,hn,Exit.thenS,Oper.about,Region.wanted];refine wpSIn_seq (wpSIn_region ?_);simp[wpOpsSIn,go_sem,recoverD,hu,Exit.thenS,Oper.about,Region.wanted];refine wpSIn_cond (t:=false) (by simp[Act.eval]) ?_;simp only[ak7,if_false];refine wpSIn_of_wpIn rfl (wpIn_skip ?_);cases c₀;simp_all [bodyPostS,results];intro x s V F own w h id hd b y hfw hp hob ho hpb;unfold acp at V;split at V
 rename_i t e;cases ht:Nat.beq t 194 with
 |false=>rw[ht]at V;cases V
 |true=>
  rw[ht]at V;cases V;have ht':=ak0 ht;subst ht';refine callsDIn_of_wpSIn W O trivial λc₀ cs hu=>?_;unfold ae Tryz.f59;refine wpSIn_seq (wpSIn_region ?_);simp[wpOpsSIn,go_sem,recoverD,hu,hn,Exit.thenS,Oper.about,Region.wanted];refine wpSIn_seq (wpSIn_region ?_);simp[wpOpsSIn,go_sem,recoverD,hu,Exit.thenS,Oper.about,Region.wanted];refine wpSIn_cond (t:=true) (by simp[Act.eval]) ?_;simp only[if_true];refine wpSIn_of_wpIn rfl ?_;have hr:aos F { w:=w,own:=own} 7 own ⟨[(0,.ptr id 0),(1,.v (.iface 194 (.int .i64 e)))],h⟩ { tmps:= #[.pointer (some ⟨b,0,none⟩),.iface 194 (.int .i64 e),.iface 194 (.int .i64 e),.iface 194 (.int .i64 e),.bool true,undef,undef],defers:=[]} w:=by
   refine⟨rfl,Dfr.nil,hp,Fr.refl { w:=w,own:=own},λt=>?_⟩;rw[px];by_cases h0:0=t
   subst h0;rw[if_pos rfl];exact .ptr ho hpb;rw[if_neg h0,px];by_cases h1:1=t
   subst h1;rw[if_pos rfl];exact .v _;rw[if_neg h1];exact .any _
  refine wpIn_mono (Pn (ts:=ts) (L:=L0) (Q:=λst=>st.h=cL h id (.cells [.i e])) mixed aJ hG kr ?_ hr) ?_;simp only[go_sem,hob,zi (h:=h) (i:=id) (o:=.cells [.v (.int .i64 e)]) rfl hfw,kE,Nat.reduceBEq,Nat.reduceLeDiff,Nat.reduceAdd,true_and,and_true,true_imp_iff];rintro ex a' w' ⟨rfl,Y,st1,E,hh⟩;have hd0:a'.defers=[]:=by
   obtain⟨ms,Ds,q0,q1,q2,q3⟩:=E.defers;cases Ds with
   |nil=>rw[q0];simp at q1;simp[q1]
   |cons D r=>
    obtain⟨m1,m2,_⟩:=q3 D (by simp);have:=hp.aoB D m2;simp only at m1;omega
  refine⟨hd0,.panicking [{ v:=.iface 194 (.int .i64 e),recovered:=true}],?_,_,by simp[results,X];rfl,⟨_,rfl⟩,rfl,Y,hh▸E.hp,E.fr⟩;cases c₀;simp_all
 cases V
attribute [go_sem] kE
abbrev SV.u (n:Nat):SV:=.v (.int .u64 (n:Int))
def Al (ps:List (Nat×(List SV->Option Con)))(os:List (Nat×(List SV->List Ob->Option aoJ)))(Y:List SV->Res->Option apR):Cons:=⟨mkP ps,mkO os,Y⟩
variable {ps:List (Nat×(List SV->Option Con))}{os:List (Nat×(List SV->List Ob->Option aoJ))}{Y:List SV->Res->Option apR}
def akB:(Al ps os Y).p=mkP ps:=(rfl)
def akC:(Al ps os Y).o=mkO os:=(rfl)
def akD:(Al ps os Y).y=Y:=(rfl)
attribute[go_sem]akB akC akD
def DW{P:Program}{E:List (Nat×(List SV->Option Con))}{O:List (Nat×(List SV->List Ob->Option aoJ))}(h1:∀ x∈E,P1 P x.1 x.2)(h2:∀ x∈O,aoH P x.1 x.2)(V:YOk P Y):aot P (Al E O Y):=⟨Ph E h1,Pi O h2,V⟩
def C90:List SV->List Ob->Option aoJ:=λl h=>noH h ((pU λn=>pU λd=>pE { α:=Unit,pre:=True,post:=λ_=>True,res:=λ_=>.ret (.fn 336 [] [.ptr 0 0,.ptr 1 0]) [.cells [.v (.int .u64 n)],.cells [.v (.int .u64 d)]]}) l)
theorem acq:aoH Tryz.prog 309 C90:=by
 have hG:aot Tryz.prog (mkG [] []):=oA (by simp) (by simp);refine oz mixed aJ hG (fn:=Tryz.f309) (c:=ae Tryz.f309) kr kr kr kr λl o E h V=>?_;unfold C90 at h;obtain⟨rfl,h⟩:=QZ h;obtain⟨n,l0,rfl,O⟩:=Kg h;obtain⟨d,l1,rfl,h1⟩:=Kg O;obtain⟨rfl,rfl⟩:=w8 h1;refine⟨nbl rfl,L0,by unfold ae Tryz.f309;simp only[ak,and_self],?_⟩;unfold ae Tryz.f309;simp only[go_sem,true_imp_iff,decide_eq_true_eq,Nat.reduceBEq,Nat.reduceLeDiff,Nat.reduceAdd,Nat.reduceSub,Nat.reduceMul,true_and,and_true,implies_true];refine⟨(),_,_,[0,1],rfl,?_⟩;simp only[go_sem,Nat.reduceBEq,Nat.reduceLeDiff,Nat.reduceAdd,true_and,and_true];exact⟨rfl,rfl⟩
def BA:Nat->Nat->Nat->List Nat
 |0,n,d=>if n=0 then []else [n,d]|f+1,n,d=>if n=0 then []else n::(if n % max d 1=0 then [d]else BA f d (n % max d 1))
def rk (f n d:Nat):List (List SV):=(BA f n d).map λx=>[SV.u x]
theorem Vy (f d:Nat):rk f 0 d=[]:=by cases f <;>rfl
theorem Vz {f n d:Nat}(hn:n≠0)(V:d<=f):∃ T,rk f n d=[SV.u n]::T/\(n % max d 1=0->T=[[SV.u d]])/\(n % max d 1≠0->∃ O,T=rk O d (n % max d 1)/\n % max d 1<=O/\n % max d 1<d):=by
 cases f with
 |zero=>
  have hd:d=0:=by omega
  subst hd;refine⟨[[SV.u 0]],by simp[rk,BA,hn],λ_=>rfl,λh=>?_⟩;exfalso;apply h;simp[aoo]
 |succ f=>
  by_cases E:n % max d 1=0
  exact⟨[[SV.u d]],by simp[rk,BA,hn,E],λ_=>rfl,λh=>absurd E h⟩;refine⟨rk f d (n % max d 1),by simp[rk,BA,hn,E],λh=>absurd h E,λ_=>⟨f,rfl,?_⟩⟩;have hlt:n % max d 1<max d 1:=am5 _ (by omega);have hd:1<=d:=by
   rcases Nat.eq_zero_or_pos d with h|h;subst h;exfalso;apply E;simp[aoo];exact h
  omega
theorem VA (n d:Nat):((n:Int).tmod (if(d:Int) <1 then 1 else(d:Int)))=((n % max d 1:Nat):Int):=by
 have e:(if(d:Int) <1 then(1:Int)else(d:Int))=((max d 1:Nat):Int):=by split <;>omega
 rw[e,amj (by omega)];rfl
open Classical in
theorem acr (n0 E:Nat):Ak Tryz.prog 336 (λy=>[y,.ptr 1 0,.ptr 2 0]) [.cells [SV.u n0],.cells [SV.u E]] (rk E n0 E):=by
 refine Q0 (λr hr hy=>?_) (λargs w=>by kernel_rfl);have hG:aot Tryz.prog (Al [] [] (itY (rk E n0 E) r)):=DW (by simp) (by simp) hy;refine⟨λl h=>if l=[.os 0,.ptr 1 0,.ptr 2 0]/\h=[.ab (r 1),.cells [SV.u n0],.cells [SV.u E]]then some { α:=Nat,pre:=True,post:=λj=>j=0\/j=(rk E n0 E).length+1,res:=λj=>.ret (.tup []) [.ab (r j),.dead,.dead]}else none,
  ?_,_,if_pos ⟨rfl,rfl⟩,trivial,λj hj=>⟨_,j,_,rfl,hj⟩⟩
 refine oz mixed aJ hG (fn:=Tryz.f336) (c:=ae Tryz.f336) kr kr kr kr λl o con h hp=>?_;split at h
 rename_i hlo;obtain⟨rfl,rfl⟩:=hlo;cases h;refine⟨nbl rfl,λid st=>bif Nat.beq id 0 then some { α:=Nat×Bool,pre:=lk 0 st.t=.os 0/\lk 1 st.t=.ptr 1 0/\lk 2 st.t=.ptr 2 0/\st.h=[.ab (r 1),.cells [SV.u n0],.cells [SV.u E]],post:=λj=>j.1=0\/j.1=(rk E n0 E).length+1,ex:=λj=>bif j.2 then .ret else .normal,out:=λj=>⟨[],[.ab (r j.1),.dead,.dead]⟩:apc}else none,?_,?_⟩;unfold ae Tryz.f336;simp only[ak,true_and,and_true];refine w7 mixed aJ hG kr λst lc hC hp=>?_;simp only[go_sem,Nat.reduceBEq,ak3]at hC;subst hC;obtain⟨t,h⟩:=st;dsimp only at hp;obtain⟨h0,h1,h2,rfl⟩:=hp;refine⟨Nat×Nat×Nat×Nat,λx=>⟨[(0,.os 0),(1,.ptr 1 0),(2,.ptr 2 0)],[.ab (r (x.1+1)),.cells [SV.u x.2.2.1],.cells [SV.u x.2.2.2]]⟩,λx=>x.2.2.2<=x.2.1/\(rk E n0 E).drop x.1=rk x.2.1 x.2.2.1 x.2.2.2/\x.1<=(rk E n0 E).length,λx=>x.2.2.2,(0,E,n0,E),[0,1,2],⟨ak2 _,rfl,alB _⟩,ak2 _,?_,?_⟩;simp only[go_sem,h0,h1,h2,Nat.reduceBEq,Nat.reduceLeDiff,Nat.reduceAdd,true_and,and_true];decide;rintro⟨k,f,n,d⟩ ⟨hf,O,hk⟩;simp only at hf O hk;refine⟨L0,_,by simp only[ak,and_self],λ_ _ q=>q,?_⟩;simp only[go_sem,Fc hr,true_imp_iff,decide_eq_true_eq,VA,ak7,false_imp_iff,Nat.reduceBEq,Nat.reduceLeDiff,Nat.reduceAdd,Nat.reduceSub,Nat.reduceMul,true_and,and_true,implies_true];have Y:∀ (l:List (List SV)) (j:Nat),l=(rk E n0 E).drop k->(rk E n0 E)[k+j]? =l[j]?:=λl j e=>by rw[e,anr]
 have V:(rk f n d).length=(rk E n0 E).length - k:=by rw[<-O,amd]
 refine⟨λhn=>?_,λhn=>?_⟩;have W:n≠0:=by simpa using hn
 obtain⟨T,e1,e2,e3⟩:=Vz W hf;have hT:(rk E n0 E).drop (k+1)=T:=by rw[<-an4,O,e1];rfl
 have X:=Y _ 0 O.symm;rw[e1]at X;have hk1:k+1<=(rk E n0 E).length:=by
  have:=(ak4.1 X).1;omega
 refine⟨X,⟨λ_=>⟨by split <;>omega,rfl,λh2=>?_,λh2=>?_⟩,λh2=>?_⟩,?_⟩;have h3:n % max d 1=0:=by
  have:=eq_of_beq h2;generalize n % max d 1=q at this |-;omega
 have hT2:=e2 h3;have hl2:(rk E n0 E).length=k+2:=by
  have:=congrArg List.length hT;rw[hT2,amd]at this;simp at this;omega
 refine⟨?_,⟨(k+1+2,true),[0,1,2],.inr (by rw[hl2]),rfl,⟨rfl,rfl,rfl⟩,by simp[Hk,JM,Eu,unp,ap,dL,vj,wd]⟩,⟨(0,true),[0,1,2],.inl rfl,rfl,⟨rfl,rfl,rfl⟩,by simp[Hk,JM,Eu,unp,ap,dL,vj,wd]⟩⟩;have:(rk E n0 E)[k+1]? =T[0]?:=by rw[<-hT,anr]
 rw[this,hT2];rfl;have h3:n % max d 1≠0:=λe=>by rw[e]at h2;simp at h2
 obtain⟨f',m1,m2,m3⟩:=e3 h3;exact⟨(k+1,f',d,n % max d 1),[0,1,2],⟨m2,by rw[hT,m1],hk1⟩,m3,⟨rfl,rfl,rfl⟩,by simp[Hk,JM,Eu,unp,ap,dL,vj,wd,nth,mM,ren,wkL,QD]⟩;exact absurd hn (by rw[h2];simp);exact⟨(0,false),[0,1,2],.inl rfl,rfl,⟨rfl,rfl,rfl⟩,by simp[Hk,JM,Eu,unp,ap,dL,vj,wd]⟩;have W:n=0:=by simpa using hn
 subst W;rw[Vy]at V;simp at V;exact⟨by simpa using hn,(k+1,false),[0,1,2],.inr (by show k+1=_;omega),rfl,⟨rfl,rfl,rfl⟩,by simp[Hk,JM,Eu,unp,ap,dL,vj,wd]⟩;unfold ae Tryz.f336;simp only[go_sem,true_imp_iff,decide_eq_true_eq,Nat.reduceBEq,Nat.reduceLeDiff,Nat.reduceAdd,Nat.reduceSub,Nat.reduceMul,true_and,and_true,implies_true];rintro⟨j,b⟩ hj;cases b;simp only[go_sem];exact⟨j,_,_,[0,1,2],hj,rfl,ak2 3,by simp only[go_sem,Nat.reduceBEq,Nat.reduceLeDiff,Nat.reduceAdd,true_and,and_true];decide⟩;simp only[go_sem];exact⟨j,_,_,[0,1,2],hj,rfl,ak2 3,by simp only[go_sem,Nat.reduceBEq,Nat.reduceLeDiff,Nat.reduceAdd,true_and,and_true];decide⟩;cases h
def MF (n d:Nat):Nat:=if d=0 then n else(BA d n d).getLastD d
def C83:List SV->Option Con:=pU λn=>pU λd=>pE (.det (0<=n/\0<=d) (SV.u (MF n.toNat d.toNat)))
theorem VB:P1 Tryz.prog 274 C83:=by
 have hG:aot Tryz.prog (mkG [] [(309,C90)]):=oA (by simp) (by
  intro x E;simp only[ala,alV,or_false]at E;rcases E with rfl;exact acq)
 refine UG false mixed aJ hG (fn:=Tryz.f274) (c:=ae Tryz.f274) kr kr kr kr λl con h O=>?_;unfold C83 at h;obtain⟨n',l0,rfl,h0⟩:=Kg h;obtain⟨d',l1,rfl,h1⟩:=Kg h0;obtain⟨rfl,rfl⟩:=w8 h1;clear h h0 h1;obtain⟨hn,hd⟩:=O;obtain⟨n,rfl⟩:=anK hn;obtain⟨d,rfl⟩:=anK hd;refine⟨nbl rfl,λid st=>bif Nat.beq id 0 then some { α:=Unit,pre:=st.h=[.cells [SV.u d],.cells [SV.u n],.cells [SV.u d]]/\lk 12 st.t=.fn 336 [] [.ptr 1 0,.ptr 2 0]/\lk 4 st.t=.ptr 0 0,post:=λ_=>True,ex:=λ_=>.normal,out:=λ_=>⟨[(4,.ptr 0 0)],[.cells [SV.u ((BA d n d).getLastD d)],.dead,.dead]⟩:apc}else none,?_,?_⟩;unfold ae Tryz.f274;simp only[ak,true_and,and_true];refine MB mixed aJ hG (by decide) (by decide) kr kr λst lc hC O=>?_;simp only[go_sem,Nat.reduceBEq,ak3]at hC;subst hC;obtain⟨t,h⟩:=st;dsimp only at O;obtain⟨rfl,W,h4⟩:=O;refine⟨336,[.ptr 1 0,.ptr 2 0],rk d n d,Nat,[(4,.ptr 0 0)],λv=>[.cells [SV.u v],.dead,.dead],λk v=>v=((BA d n d).take k).getLastD d,λ_ _=>False,d,[0,1,2],W,rfl,ak2 _,?_,acr n d,?_,?_,λ_ h=>h.elim,λ_ _ h=>h.elim⟩;show Sub [0,1,2] 3 ⟨t,[.cells [SV.u d],.dead,.dead]⟩ ⟨[(4,.ptr 0 0)],[.cells [SV.u d],.dead,.dead]⟩;simp only[go_sem,h4,Nat.reduceBEq,Nat.reduceLeDiff,Nat.reduceAdd,true_and,and_true];decide;intro k y args V Y;unfold rk at V;rw[al1,ami]at V;obtain⟨x,E,rfl⟩:=V;refine⟨rfl,L0,_,λl=>by simp only[ak],λl=>by simp only[ak],λ_ _ q=>q,?_⟩;show exec ts _ L0 _ ⟨[(13,SV.u x),(4,SV.ptr 0 0)],[.cells [SV.u y],.dead,.dead]⟩ _;simp only[go_sem,true_imp_iff,Nat.reduceBEq,Nat.reduceLeDiff,Nat.reduceAdd,true_and,and_true];refine⟨x,[0,1,2],?_,ak2 3,?_⟩;have hlt:=(ak4.1 E).1;have X:=(ak4.1 E).2;show x=((BA d n d).take (k+1)).getLastD d;rw[alF hlt,X];simp[List.getLastD_concat];simp only[go_sem,Nat.reduceBEq,Nat.reduceLeDiff,Nat.reduceAdd,true_and,and_true];decide;intro y Y;refine⟨(),[0,1,2],trivial,rfl,ak2 _,?_⟩;have hy:y=(BA d n d).getLastD d:=by rw[Y,List.take_of_length_le (by simp[rk])]
 subst hy;show Sub [0,1,2] 3 ⟨[(4,.ptr 0 0)],[.cells [SV.u _],.dead,.dead]⟩ ⟨[(4,.ptr 0 0)],[.cells [SV.u _],.dead,.dead]⟩;simp only[go_sem,Nat.reduceBEq,Nat.reduceLeDiff,Nat.reduceAdd,true_and,and_true];decide;unfold ae Tryz.f274;simp only[go_sem,C90,true_imp_iff,decide_eq_true_eq,ak7,false_imp_iff,Nat.reduceBEq,Nat.reduceLeDiff,Nat.reduceAdd,Nat.reduceSub,Nat.reduceMul,true_and,and_true,implies_true];refine⟨λh=>?_,λh _ _=>?_⟩;have h':d=0:=by simpa using h
 simp[MF,h'];have h':d≠0:=by simpa using h
 simp[MF,h']
attribute [go_sem] C83
end Go.Sx
end
section
namespace Go.Sx
open Go.RowKit
inductive aph:St->St->Prop where
 |refl (st:St):aph st st
 |cell {st:St} {t:List (Nat×SV)} {h:List Ob} {i j:Nat} {l:List SV} (o:Ob):aph st ⟨t,h⟩->ap h i=.cells l->l[j]? =some (.v (.slice none 0 0))->((∃ k,o=.row k [])\/∃ k,o=.aoV k [])->aph st ⟨t,cL h i (.cells (l.set j (.os h.length)))++[o]⟩
 |slot {st:St} {t:List (Nat×SV)} {h:List Ob} {i:Nat} (o:Ob):aph st ⟨t,h⟩->lk i t=.v (.slice none 0 0)->((∃ k,o=.row k [])\/∃ k,o=.aoV k [])->aph st ⟨(i,.os h.length)::t,h++[o]⟩
 |aqm {st:St} {t:List (Nat×SV)} {h:List Ob} {i:Nat} (k:Tag):aph st ⟨t,h⟩->lk i t=.e0->aph st ⟨(i,.os h.length)::t,h++[.row k []]⟩
section
variable {P:Program}{F:Nat->Prop}{w0:Bs}{N:Nat}
theorem IS (h:List Ob)(o:Ob):ap (h++[o]) h.length=o:=by simp_all [sA,ap]
variable {h:List Ob}{a:Act}{w:World}{t:List (Nat×SV)}
theorem Q4{own:Own}(hr:aos F w0 N own ⟨t,h⟩ a w)(o:Ob)(ho:(∃ k,o=.row k [])\/∃ k,o=.aoV k []):
  ∃ ee,aos F w0 N ee ⟨t,h++[o]⟩ a w/\(∀ id hd,own id=some hd->ee id=some hd)/\ee h.length=some { v:=.slice none 0 0}:=by
 let ee:Own:=λid=>if id=h.length then some { v:=.slice none 0 0}else own id
 have V:∀ id hd,own id=some hd->ee id=some hd:=λid hd e=>by
  have:id≠h.length:=by have:=hr.hp.dom id hd e;grind
  grind
 have E:∀ id hd b,ee id=some hd->b∈hd.bs->own id=some hd:=λid hd b e O=>by
  grind
 have hc:aoZ F own w F ee w:=⟨λid hd e=>⟨hd,V id hd e,.refl _⟩,λb _ hn=>⟨by
  rintro (hf| ⟨id,hd,e,O⟩);exact hn (.inl hf);exact hn (.inr ⟨id,hd,E id hd b e O,O⟩),rfl⟩⟩
 refine⟨ee,⟨hr.size,hr.defers,⟨λid hd e=>?_,hr.hp.aoB,λid hd b e O=>hr.hp.apart id hd b (E id hd b e O) O,λi j hi hj b W X b1 b2=>hr.hp.inj i j hi hj b (E i hi b W b1) (E j hj b X b2) b1 b2,λid hd b e O=>hr.hp.lt id hd b (E id hd b e O) O,λid hd=>?_⟩,
  ⟨λid hd e=>?_,λid hd b e O=>hr.fr.base id hd b (E id hd b e O) O,hr.fr.os,hr.fr.tape,hr.fr.output,hr.fr.size,hr.fr.block⟩,λt=>(hr.slots t).carry hc⟩,V,by simp[ee]⟩
 simp only[ak9,ak5,alo];by_cases hi:id=h.length
 omega;simp only[ee,if_neg hi]at e;have:=hr.hp.dom id hd e;grind;simp only at hd |-;by_cases hi:id<h.length
 rw[sA,if_pos hi]at hd |-;obtain⟨hd',W,X⟩:=hr.hp.obs id hd;exact⟨hd',V id hd' W,X.carry hc (ak2 _) λ_ _=>rfl⟩;by_cases Y:id=h.length
 subst Y;rw[IS];refine⟨_,by simp[ee];rfl,?_⟩;rcases ho with⟨k,rfl⟩ | ⟨k,rfl⟩;exact .inl ⟨none,rfl,rfl,rfl⟩;exact .inl ⟨rfl,rfl,rfl,rfl⟩;rw[mW (by simp;omega)]at hd;cases hd;obtain⟨hd',W,X⟩:=hr.fr.ids id hd e;grind
theorem VC{own:Own}(hr:aos F w0 N own ⟨t,h⟩ a w)(k:Tag)(ad:Option Addr):
  ∃ ee,aos F w0 N ee ⟨t,h++[.row k []]⟩ a w/\(∀ id hd,own id=some hd->ee id=some hd)/\ee h.length=some { v:=.slice ad 0 0}:=by
 let ee:Own:=λid=>if id=h.length then some { v:=.slice ad 0 0}else own id
 have V:∀ id hd,own id=some hd->ee id=some hd:=λid hd e=>by
  have:id≠h.length:=by have:=hr.hp.dom id hd e;grind
  grind
 have E:∀ id hd b,ee id=some hd->b∈hd.bs->own id=some hd:=λid hd b e O=>by
  grind
 have hc:aoZ F own w F ee w:=⟨λid hd e=>⟨hd,V id hd e,.refl _⟩,λb _ hn=>⟨by
  rintro (hf| ⟨id,hd,e,O⟩);exact hn (.inl hf);exact hn (.inr ⟨id,hd,E id hd b e O,O⟩),rfl⟩⟩
 refine⟨ee,⟨hr.size,hr.defers,⟨λid hd e=>?_,hr.hp.aoB,λid hd b e O=>hr.hp.apart id hd b (E id hd b e O) O,λi j hi hj b W X b1 b2=>hr.hp.inj i j hi hj b (E i hi b W b1) (E j hj b X b2) b1 b2,λid hd b e O=>hr.hp.lt id hd b (E id hd b e O) O,λid hd=>?_⟩,
  ⟨λid hd e=>?_,λid hd b e O=>hr.fr.base id hd b (E id hd b e O) O,hr.fr.os,hr.fr.tape,hr.fr.output,hr.fr.size,hr.fr.block⟩,λt=>(hr.slots t).carry hc⟩,V,by simp[ee]⟩
 simp only[ak9,ak5,alo];by_cases hi:id=h.length
 omega;simp only[ee,if_neg hi]at e;have:=hr.hp.dom id hd e;grind;simp only at hd |-;by_cases hi:id<h.length
 rw[sA,if_pos hi]at hd |-;obtain⟨hd',W,X⟩:=hr.hp.obs id hd;exact⟨hd',V id hd' W,X.carry hc (ak2 _) λ_ _=>rfl⟩;by_cases Y:id=h.length
 subst Y;rw[IS];refine⟨_,by simp[ee];rfl,?_⟩;exact .inl ⟨ad,rfl,rfl,rfl⟩;rw[mW (by simp;omega)]at hd;cases hd;obtain⟨hd',W,X⟩:=hr.fr.ids id hd e;grind
theorem aph.rel{st st':St}(hn:aph st st'){own:Own}(hr:aos F w0 N own st a w):∃ ee,aos F w0 N ee st' a w:=by
 induction hn with
 |refl=>grind
 | @slot t h i o _ X ho Y=>
  obtain⟨V,h1⟩:=Y;obtain⟨X2,h2,h3,h4⟩:=Q4 h1 o ho;refine⟨X2,h2.size,h2.defers,h2.hp,h2.fr,λu=>?_⟩;rw[px];split
  rename_i e;subst e;have:=h1.slots i;rw[X]at this;rw[cT this];exact .os (hd:= { v:=.slice none 0 0}) h4 rfl;exact h2.slots u
 | @aqm t h i k _ X Y=>
  obtain⟨V,h1⟩:=Y;have E:=h1.slots i;rw[X]at E;generalize hv:a.tmps.getD i undef=v at E;cases E with
  | @e0 ad=>
   obtain⟨X2,h2,h3,h4⟩:=VC h1 k ad;refine⟨X2,h2.size,h2.defers,h2.hp,h2.fr,λu=>?_⟩;rw[px];split
   rename_i e;subst e;rw[hv];exact .os (hd:= { v:=.slice ad 0 0}) h4 rfl;exact h2.slots u
 | @cell t h i j l o _ hc X ho Y=>
  obtain⟨V,h1⟩:=Y;obtain⟨X2,h2,h3,h4⟩:=Q4 h1 o ho;have hlt:i<h.length:=by
   grind [mW]
  have W:(cL h i (.cells (l.set j (.os h.length)))).length=h.length:=by rw[cI,if_pos hlt]
  refine⟨X2,h2.size,h2.defers,⟨λid hd e=>?_,h2.hp.aoB,h2.hp.apart,h2.hp.inj,h2.hp.lt,λid hd=>?_⟩,h2.fr,h2.slots⟩;have:=h2.hp.dom id hd e;grind;simp only at hd |-;have O:=h2.hp.obs id;simp only at O;by_cases hi:id<h.length
  rw[sA,if_pos (by rw[W];exact hi)]at hd |-;rw[sA,if_pos hi]at O;rw[dG]at hd |-;by_cases hii:i=id
  subst hii;rw[if_pos rfl]at hd |-;rw[hc]at O;obtain⟨hd',e1,b,cs,ty,m1,m2,m3,m4,m5⟩:=O rfl;refine⟨hd',e1,b,cs,ty,m1,m2,m3,by grind,λj' s E=>?_⟩;rw[amQ]at E;by_cases hj:j=j'
  subst hj;rw[if_pos rfl]at E;split at E
  cases E;have:=m5 j _ X;rw[cT this];exact .os (hd:= { v:=.slice none 0 0}) h4 rfl;cases E;grind
  grind
  simp_all [sA,if_neg]
end
section
variable {P:Program}{F:Nat->Prop}{w0:Bs}{ro:Option Nat}{nd:Nat}{ts:Tis}{G:Cons}{L:wc}{N:Nat}
theorem uJ {ts:Tis}{G:Cons}{ro:Option Nat}{N:Nat}(hm:P.follows .mixedOrders=true)(hts:ts.ok P)(hG:aot P G){id:Nat}{c:Code}(hc:c7 N c=true){C:St->Option apc}
  (h:∀ st O,C st=some O->O.pre->∃ (σ:Type) (D:σ->St) (I:σ->Prop) (m:σ->Nat) (x0:σ) (Y:St) (js:List Nat),I x0/\aph st Y/\st.h.length<=(D x0).h.length/\Sub js st.h.length Y (D x0)/\
   ∀ x,I x->∃ L Qx,ak P ro N L c/\(∀ e st',Qx e st'->vo D I m st.h.length x id (λe st'=>∃ r js,O.post r/\O.ex r=e/\st.h.length<=(O.out r).h.length/\Sub js st.h.length st' (O.out r)) e st')/\exec ts G L c (D x) Qx):k9 P ro N id (.loop c) C:=by
 intro nd F w0 st O hC hpre own a w hr;obtain⟨σ,D,I,m,x0,Y,js,h1,hN,h2,h3,h4⟩:=h st O hC hpre;obtain⟨ownN,hrN⟩:=hN.rel hr;refine wpIn_mono (IK hm hts hG hc D I m st.h.length hr.apG _ h4 x0 h1 _ a w (hrN.sub h3 hr.apG h2)) ?_;intro e a' w' hq;have key:∀ ex V ee st',aos V w0 N ee st' a' w'->(∃ r js,O.post r/\O.ex r=ex/\st.h.length<=(O.out r).h.length/\Sub js st.h.length st' (O.out r))->∃ X2 E,aos V w0 N X2 E a' w'/\∃ r,O.post r/\ex=O.ex r/\E=O.out r:=by
  rintro ex V ee st' hst ⟨r,js,W,X,q3,q4⟩;exact⟨_,_,hst.sub q4 hr.apG q3,r,W,X.symm,rfl⟩
 cases e with
 |normal=>obtain⟨V,ee,st',h0,k1,k2⟩:=hq;obtain⟨X2,E,W,X⟩:=key _ V ee st' k1 k2;exact⟨V,X2,E,h0,W,X⟩
 |exit j=>obtain⟨V,ee,st',h0,k1,k2⟩:=hq;obtain⟨X2,E,W,X⟩:=key _ V ee st' k1 k2;exact⟨V,X2,E,h0,W,X⟩
 |ret=>obtain⟨V,ee,st',h0,k1,k2⟩:=hq;obtain⟨X2,E,W,X⟩:=key _ V ee st' k1 k2;exact⟨V,X2,E,h0,W,X⟩
 |panic ch=>
  obtain⟨x,V,ee,st',h0,k1,k2,k3⟩:=hq;obtain⟨X2,E,W,X⟩:=key _ V ee st' k1 k2;exact⟨x,V,X2,E,h0,W,X,k3⟩
 |_=>exact hq.elim
end
section
variable {P:Program}{ρ σ:Type}
def oB (st2:St)(n0:Nat)(st:St):Prop:= ∃ js,n0<=st2.h.length/\Sub js n0 st st2
def Kk {E st:St}{n0:Nat}(js:List Nat)(h1:n0<=E.h.length)(h2:Sub js n0 st E):oB E n0 st:=⟨js,h1,h2⟩
def Am (D:Nat->σ->St)(n0 k:Nat)(st:St):ρ⊕σ->Prop
 | .inl _=>False| .inr s'=>oB (D (k+1) s') n0 st
def ub (exE:ρ->Ex)(aoh:ρ->St)(n0:Nat)(e:Ex)(st:St):ρ⊕σ->Prop
 | .inl x=>exE x=e/\oB (aoh x) n0 st| .inr _=>False
def cE (step:Nat->σ->ρ⊕σ)(n:Nat)(exE:ρ->Ex)(aoh:ρ->St)(aoD:σ->St)(D:Nat->σ->St)(n0 id k:Nat)(s:σ):Ex->St->Prop
 | .normal,st=>k<n/\Am D n0 k st (step k s)| .exit j,st=>bif Nat.beq j id then(n<=k->oB (aoD s) n0 st)/\(k<n->ub exE aoh n0 .normal st (step k s))else k<n/\ub exE aoh n0 (.exit j) st (step k s)| .ret,st=>k<n/\ub exE aoh n0 .ret st (step k s)| .pan x,st=>k<n/\ub exE aoh n0 (.pan x) st (step k s)
variable {step:Nat->σ->ρ⊕σ}{n n0 id k j:Nat}{exE:ρ->Ex}{aoh:ρ->St}{aoD:σ->St}{D:Nat->σ->St}{s s':σ}{st:St}{x:Value}{e:Ex}{y:ρ}
@[go_sem] def ae0:= @Am.eq_2
@[go_sem] def agR:= @ub.eq_1
@[go_sem] def ae1:= @cE.eq_1
@[go_sem] def ajg:= @cE.eq_2
@[go_sem] def akE:= @cE.eq_3
@[go_sem] def akF:= @cE.eq_4
@[congr] theorem aaf {r r':ρ⊕σ}(h:r=r'):Am D n0 k st r=Am D n0 k st r':=by rw[h]
@[congr] theorem agS {st st':St}{e e':Ex}(h:st=st')(he:e=e'):cE step n exE aoh aoD D n0 id k s e st=cE step n exE aoh aoD D n0 id k s e' st':=by rw[h,he]
theorem SF {ts:Tis}{G:Cons}{ro:Option Nat}{N:Nat}(hm:P.follows .mixedOrders=true)(hts:ts.ok P)(hG:aot P G){id:Nat}{c:Code}(hc:c7 N c=true){C:St->Option apc}
  (h:∀ st lc,C st=some lc->lc.pre->∃ (ρ σ:Type) (pre:Prop) (step:Nat->σ->ρ⊕σ) (p:Nat->σ->Prop) (n:Nat) (s0:σ) (exE:ρ->Ex) (aoh:ρ->St) (aoD:σ->St) (D:Nat->σ->St) (O:St) (js:List Nat),
   lc=LC pre (aj step n 0 s0) exE aoh aoD/\okI step p n 0 s0/\aph st O/\st.h.length<=(D 0 s0).h.length/\Sub js st.h.length O (D 0 s0)/\
   ∀ k s,k<=n->(k<n->p k s)->∃ L,ak P ro N L c/\exec ts G L c (D k s) (cE step n exE aoh aoD D st.h.length id k s)):k9 P ro N id (.loop c) C:=by
 refine uJ hm hts hG hc λst lc hC hp=>?_;obtain⟨ρ,σ,pre,step,p,n,s0,exE,aoh,aoD,D,O,js,rfl,h1,hN,h2,h3,h4⟩:=h st lc hC hp;refine⟨Nat×σ,λx=>D x.1 x.2,λx=>x.1<=n/\okI step p (n - x.1) x.1 x.2/\aj step (n - x.1) x.1 x.2=aj step n 0 s0,λx=>n - x.1,(0,s0),O,js,⟨alB _,by omega,by simp⟩,hN,h2,h3,?_⟩;rintro⟨k,s⟩ ⟨hk,hJ,E⟩;simp only at hk hJ E;obtain⟨L,hl,hex⟩:=h4 k s hk (λhlt=>by
  rw[show n - k=(n - k - 1)+1 by omega]at hJ;exact hJ.1)
 refine⟨L,_,hl,?_,hex⟩;have W:∀ e st',k<n->ub exE aoh st.h.length e st' (step k s)->∃ r js,(LC pre (aj step n 0 s0) exE aoh aoD).post r/\(LC pre (aj step n 0 s0) exE aoh aoD).ex r=e/\st.h.length<=((LC pre (aj step n 0 s0) exE aoh aoD).out r).h.length/\Sub js st.h.length st' ((LC pre (aj step n 0 s0) exE aoh aoD).out r):=by
  intro e st' hlt q;cases V:step k s with
  |inr s'=>rw[V]at q;exact q.elim
  |inl x=>
   rw[V]at q;obtain⟨q2,js,q3,q4⟩:=q;rw[show n - k=(n - k - 1)+1 by omega]at E;simp only[aj,V]at E;exact⟨.inl x,js,E,q2,q3,q4⟩
 intro e st' Y;cases e with
 |normal=>
  obtain⟨q1,q2⟩:=Y;cases V:step k s with
  |inl x=>rw[V]at q2;exact q2.elim
  |inr s'=>
   rw[V]at q2;obtain⟨js,q3,q4⟩:=q2;rw[show n - k=(n - (k+1))+1 by omega]at E hJ;simp only[aj,V]at E;exact⟨(k+1,s'),js,⟨q1,hJ.2 s' V,E⟩,by grind,q3,q4⟩
 |exit j=>
  have X:(bif Nat.beq j id then(n<=k->oB (aoD s) st.h.length st')/\(k<n->ub exE aoh st.h.length .normal st' (step k s))else k<n/\ub exE aoh st.h.length (.exit j) st' (step k s)):=Y;show bif Nat.beq j id then _ else _;cases hb:Nat.beq j id with
  |true=>
   rw[hb]at X;simp only[cond_true]at X |-;by_cases hlt:k<n
   grind
   obtain⟨js,q3,q4⟩:=X.1 (by omega);have hkn:k=n:=by omega
   subst hkn;simp only[amY,aj]at E;exact⟨.inr s,js,E,rfl,q3,q4⟩
  |false=>grind
 |ret=>exact W _ _ Y.1 Y.2|pan x=>exact W _ _ Y.1 Y.2
end
def fK (p:Prop)(S:SV)(H:List Ob):aoJ:= { α:=Unit,pre:=p,post:=λ_=>True,res:=λ_=>.ret S H}
def VD (n0:Nat)(S:SV)(H:List Ob)(h:List Ob):Option SV->Prop
 |some s=>oB ⟨[(0,S)],H⟩ n0 ⟨[(0,s)],h⟩|none=>False
def Q5 (n0:Nat)(rs:List ResultVar)(ts:Tis)(S:SV)(H:List Ob):Ex->St->Prop
 | .exit _,_=>False| .normal,st=>VD n0 S H st.h (tA (ri ts st rs))| .ret,st=>VD n0 S H st.h (tA (ri ts st rs))| .pan _,_=>False
section
variable {P:Program}{ts:Tis}{G:Cons}{n0:Nat}{S s:SV}{H h:List Ob}{rs:List ResultVar}{st:St}{x:Value}{j:Nat}
@[go_sem] def ae2:= @VD.eq_1
@[go_sem] def Yy:= @Q5.eq_2
@[go_sem] def ae3:= @Q5.eq_3
@[go_sem high] theorem acs {p:Prop}{ids:List Nat}{d:Option Nat}{K:St->Prop}{Z:Value->St->Prop}:yG ids d st K Z (some (fK p S H))=(p/\JJ ids d st K Z (.ret S H)):=by
 show(p/\∀ r:Unit,True->JJ ids d st K Z (.ret S H))=_;simp
def hCR (t:Tag)(k:List t.T->Option aoJ):List Ob->Option aoJ
 | [.cells [.os 1],.row k' l] =>if h:k'=t then k (h▸l)else none|_=>none
theorem ajh {t:Tag}{k:List t.T->Option aoJ}{h:List Ob}{c:aoJ}(E:hCR t k h=some c):∃ l,h=[.cells [.os 1],.row t l]/\k l=some c:=by
 unfold hCR at E;grind
open Classical in
noncomputable def pQ {α:Type 1}(X:SV)(k:List SV->Option α):List SV->Option α
 |s::r=>if s=X then k r else none| [] =>none
variable {α:Type 1}{X:SV}{k:List SV->Option α}{r:List SV}
@[go_sem] theorem ar0:pQ X k (X::r)=k r:=by simp[pQ]
theorem Fe{l:List SV}{c:α}(h:pQ X k l=some c):∃ r,l=X::r/\k r=some c:=by
 unfold pQ at h;grind
def pXR {α:Type 1}(t:Tag)(k:List t.T->List SV->Option α):List SV->Option α
 | .ep [.rs k' l] 0::r=>IN t k r k' l|_=>none
@[go_sem] theorem akG{t:Tag}{k:List t.T->List SV->Option α}{l:List t.T}:pXR t k (.ep [.rs t l] 0::r)=k l r:=by simp[pXR,IN]
theorem Yz{t:Tag}{k:List t.T->List SV->Option α}{l:List SV}{c:α}(h:pXR t k l=some c):∃ x r,l=.ep [.rs t x] 0::r/\k x r=some c:=by
 unfold pXR at h;grind [IN]
theorem MG (hm:P.follows .mixedOrders=true) (Y:ts.ok P) (hG:aot P G) {f:FuncId} {fn:Func} {c:Code} (hf:P.funcs[f]? =some fn) (hb:fn.body=some c) (V:(fn.name== "runtime.NumGoroutine")=false)
  (hc:c7 fn.ntmps c=true) {C:List SV->List Ob->Option aoJ}
  (h:∀ l o O,C l o=some O->∃ p S H,O=fK p S H/\(p->l.length<=fn.ntmps/\∃ L,ak P none fn.ntmps L c/\exec ts G L c ⟨nY 0 l,o⟩ (Q5 o.length fn.results.toList ts S H))):aoH P f C:=by
 refine E9 hm Y hG hf hb V hc λl o O hC hp=>?_;obtain⟨p,S,H,rfl,h2⟩:=h l o O hC;obtain⟨h3,L,h4,h5⟩:=h2 hp;refine⟨h3,L,_,h4,λe st E=>?_,h5⟩;cases e with
 |normal=>
  change VD _ _ _ _ _ at E;show Ey _ _ _ _;cases W:tA (ri ts st fn.results.toList)with
  |none=>rw[W]at E;exact E.elim
  |some s=>rw[W]at E;obtain⟨js,q1,X⟩:=E;exact⟨(),S,H,js,trivial,rfl,q1,X⟩
 |ret=>
  change VD _ _ _ _ _ at E;show Ey _ _ _ _;cases W:tA (ri ts st fn.results.toList)with
  |none=>rw[W]at E;exact E.elim
  |some s=>rw[W]at E;obtain⟨js,q1,X⟩:=E;exact⟨(),S,H,js,trivial,rfl,q1,X⟩
 |exit j=>exact E.elim|pan x=>exact E.elim
end
end Go.Sx
end
section
namespace Go.Sx
attribute [go_sem] true_imp_iff false_imp_iff Bool.false_eq_true Int.toNat_natCast Int.toNat_zero true_and and_true and_self implies_true forall_const
theorem cl {p:Prop}(h:p:=by(first|done|(repeat' (first|with_reducible refine And.intro ?_ ?_|((with_reducible show _≠_);first|assumption|omega|(simp_all [cy,ei];done) |grind) |with_reducible intro _)) <;>(first|done|with_reducible exact Empty.elim ‹Empty› |with_reducible assumption|rfl|omega|assumption|(simp only[*,cond_true,cond_false,alj,als,go_sem,Nat.reduceBEq,Nat.reduceLeDiff,Nat.reduceAdd,Nat.reduceSub,Nat.reduceMul,Int.reduceLE,Int.reduceLT,Int.reduceToNat,Int.reduceNeg,reduceCtorEq];done) |(simp only[*,cond_true,cond_false,alj,als,go_sem,Nat.reduceBEq,Nat.reduceLeDiff,Nat.reduceAdd,Nat.reduceSub,Nat.reduceMul,Int.reduceLE,Int.reduceLT,Int.reduceToNat,Int.reduceNeg,reduceCtorEq];(repeat' (first|with_reducible refine And.intro ?_ ?_|((with_reducible show _≠_);first|assumption|omega|(simp_all [cy,ei];done) |grind) |with_reducible intro _)) <;>(first|done|assumption|rfl|omega|(simp_all [cy,ei];done))) |(simp_all [okI,cy,ei];done) |grind))):p:=h
theorem cl2 {p:Prop}(h:p:=by(first|done|(repeat' (first|with_reducible refine And.intro ?_ ?_|((with_reducible show _≠_);first|assumption|omega|(simp_all [cy,ei];done) |grind) |with_reducible intro _)) <;>(first|done|with_reducible exact Empty.elim ‹Empty› |with_reducible assumption|rfl|omega|assumption|(simp only[*,go_sem,Nat.reduceBEq,Nat.reduceLeDiff,Nat.reduceAdd,Nat.reduceSub,Nat.reduceMul,Int.reduceLE,Int.reduceLT,Int.reduceToNat,Int.reduceNeg,reduceCtorEq];done) |(simp_all [cy,ei];done)))):p:=h
inductive JL:List Nat->Prop
 |mk (l:List Nat):JL l
def jl (l:List Nat):JL l:=.mk l
variable {js:List Nat}
theorem fk{E st:St}{n0:Nat}(_:JL js)(h1:n0<=E.h.length:=by(first|(show _<=_;decide) |(simp only[*,go_sem,Nat.reduceBEq,Nat.reduceLeDiff,Nat.reduceAdd,Nat.reduceSub,Nat.reduceMul,Int.reduceLE,Int.reduceLT,Int.reduceToNat,Int.reduceNeg,reduceCtorEq];done) |(simp only[*,go_sem,Nat.reduceBEq,Nat.reduceLeDiff,Nat.reduceAdd,Nat.reduceSub,Nat.reduceMul,Int.reduceLE,Int.reduceLT,Int.reduceToNat,Int.reduceNeg,reduceCtorEq];(repeat' (first|with_reducible refine And.intro ?_ ?_|((with_reducible show _≠_);first|assumption|omega|(simp_all [cy,ei];done) |grind) |with_reducible intro _)) <;>(first|rfl|decide|assumption|omega|(simp_all [cy,ei];done)))))(h2:Sub js n0 st E:=by(first|(show _<=_;decide) |(simp only[*,go_sem,Nat.reduceBEq,Nat.reduceLeDiff,Nat.reduceAdd,Nat.reduceSub,Nat.reduceMul,Int.reduceLE,Int.reduceLT,Int.reduceToNat,Int.reduceNeg,reduceCtorEq];done) |(simp only[*,go_sem,Nat.reduceBEq,Nat.reduceLeDiff,Nat.reduceAdd,Nat.reduceSub,Nat.reduceMul,Int.reduceLE,Int.reduceLT,Int.reduceToNat,Int.reduceNeg,reduceCtorEq];(repeat' (first|with_reducible refine And.intro ?_ ?_|((with_reducible show _≠_);first|assumption|omega|(simp_all [cy,ei];done) |grind) |with_reducible intro _)) <;>(first|rfl|decide|assumption|omega|(simp_all [cy,ei];done))))):oB E n0 st:=Kk js h1 h2
theorem fk2{E st:St}{n0:Nat}(_:JL js)(h1:n0<=E.h.length:=by(first|(show _<=_;decide) |(simp only[go_sem,Nat.reduceBEq,Nat.reduceLeDiff,Nat.reduceAdd,Nat.reduceSub,Nat.reduceMul,Int.reduceLE,Int.reduceLT,Int.reduceToNat,Int.reduceNeg,reduceCtorEq];(repeat' (first|with_reducible refine And.intro ?_ ?_|((with_reducible show _≠_);first|assumption|omega|(simp_all [cy,ei];done) |grind) |with_reducible intro _)) <;>(first|rfl|decide|assumption|omega|(simp_all [cy,ei];done)))))(h2:Sub js n0 st E:=by(first|(show _<=_;decide) |(simp only[go_sem,Nat.reduceBEq,Nat.reduceLeDiff,Nat.reduceAdd,Nat.reduceSub,Nat.reduceMul,Int.reduceLE,Int.reduceLT,Int.reduceToNat,Int.reduceNeg,reduceCtorEq];(repeat' (first|with_reducible refine And.intro ?_ ?_|((with_reducible show _≠_);first|assumption|omega|(simp_all [cy,ei];done) |grind) |with_reducible intro _)) <;>(first|rfl|decide|assumption|omega|(simp_all [cy,ei];done))))):oB E n0 st:=Kk js h1 h2
variable {α:Type _}{p:α->Prop}
theorem W2:∀ x∈([]:List α),p x:=λ_ h=>by cases h
theorem cgc{a:α}{l:List α}(h:p a)(t:∀ x∈l,p x):∀ x∈a::l,p x:=λx hx=>by
 rcases ala.1 hx with rfl|hx;exact h;exact t x hx
attribute [go_sem] if_true
end Go.Sx
end
section
namespace Go.Sx
open Go.RowKit
open IntKind (i64)
section
variable {P:Program}
end
def okL {ρ σ τ:Type}(step:τ->σ->ρ⊕σ)(p:τ->σ->Prop):List τ->σ->Prop
 | [],_=>True|x::l,s=>p x s/\∀ s',step x s=.inr s'->okL step p l s'
theorem DX {ρ σ τ:Type}{step:τ->σ->ρ⊕σ}{p:τ->σ->Prop}:∀ (l:List τ) (s:σ),(∀ x∈l,∀ s,p x s)->okL step p l s
 | [],_,_=>trivial
 |x::l,s,h=>⟨h x (by simp) s,λs' _=>DX l s' λy hy=>h y (by simp[hy])⟩
section
variable {ρ σ τ:Type}
def rgN (T:List (Nat×SV))(H:σ->List Ob)(n0:Nat)(st:St):ρ⊕σ->Prop
 | .inl _=>False| .inr s'=>oB ⟨T,H s'⟩ n0 ⟨T,st.h⟩
def rgX (exE:ρ->Ex)(T:List (Nat×SV))(Hy:ρ->List Ob)(n0:Nat)(e:Ex)(st:St):ρ⊕σ->Prop
 | .inl y=>exE y=e/\oB ⟨T,Hy y⟩ n0 ⟨T,st.h⟩| .inr _=>False
def rgQ (step:τ->σ->ρ⊕σ)(exE:ρ->Ex)(T:List (Nat×SV))(H:σ->List Ob)(Hy:ρ->List Ob)(n0 id:Nat)(x:τ)(s:σ):Ex->St->Prop
 | .normal,st=>rgN T H n0 st (step x s)| .exit j,st=>rgX exE T Hy n0 (bif Nat.beq j id then .normal else .exit j) st (step x s)| .ret,st=>rgX exE T Hy n0 .ret st (step x s)| .pan _,_=>False
variable {step:τ->σ->ρ⊕σ}{exE:ρ->Ex}{T:List (Nat×SV)}{H:σ->List Ob}{Hy:ρ->List Ob}{n0 id j:Nat}{x:τ}{s s':σ}{y:ρ}{st:St}{e:Ex}
@[go_sem] def aji:= @rgN.eq_2
@[go_sem] def ajj:= @rgX.eq_1
@[go_sem] def act:= @rgQ.eq_1
@[go_sem] def ajk:= @rgQ.eq_3
@[go_sem] def agT:= @rgQ.eq_2
variable {r r':ρ⊕σ}
@[congr] theorem ae4(h:r=r'):rgN T H n0 st r=rgN T H n0 st r':=by rw[h]
@[congr] theorem ae5{e e':Ex}(h:r=r')(he:e=e'):rgX exE T Hy n0 e st r=rgX exE T Hy n0 e' st r':=by rw[h,he]
end
section
variable {P:Program}{ts:Tis}{G:Cons}{N:Nat}
theorem sb (hm:P.follows .mixedOrders=true)(hts:ts.ok P)(hG:aot P G){id:Nat}{g:Operand}{ps:Array Tmp}{assign body:Code}{C:St->Option apc}
  (hpn:ps.toList.Nodup) (hpN:∀ p∈ps.toList,p<N) (hca:c7 N assign=true) (hcb:c7 N body=true)
  (h:∀ st lc,C st=some lc->lc.pre->∃ (f:FuncId) (caps:List SV) (τ ρ σ:Type) (l:List τ) (mk:τ->List SV) (step:τ->σ->ρ⊕σ) (p:τ->σ->Prop) (pre:Prop) (s0:σ) (exE:ρ->Ex) (aoh:ρ->St) (aoD:σ->St) (T:List (Nat×SV)) (H:σ->List Ob) (Hy:ρ->List Ob) (js:List Nat),
   raw st.t g=.fn f [] caps/\lc=LC pre (cB step l s0) exE aoh aoD/\okL step p l s0/\st.h.length<=(H s0).length/\Sub js st.h.length ⟨st.t,sH (jY st caps) st.h⟩ ⟨T,H s0⟩/\
   Ak P f (λy=>y::caps.map (ren (Pm (jY st caps)) 3)) (MA (jY st caps) st.h) (l.map mk)/\
   (∀ x s,p x s->(mk x).length=ps.size/\∃ L,(∀ l,ak P (some l) N L assign)/\(∀ l,ak P (some l) N L body)/\exec ts G L assign ⟨psT ps.toList (mk x)++T,H s⟩ (λe st1=>e=.normal/\exec ts G L body st1 (rgQ step exE T H Hy st.h.length id x s)))/\
   (∀ s,oB (aoD s) st.h.length ⟨T,H s⟩)/\∀ y,oB (aoh y) st.h.length ⟨T,Hy y⟩):k9 P none N id (.rangeFunc g ps assign body) C:=by
 refine MB hm hts hG hpn hpN hca hcb λst lc hC hp=>?_;obtain⟨f,caps,τ,ρ,σ,l,mk,step,p,pre,s0,exE,aoh,aoD,T,H,Hy,js,h1,rfl,h2,h3,h4,h5,h6,h7,h8⟩:=h st lc hC hp;refine⟨f,caps,l.map mk,σ⊕ρ,T,λz=>match z with| .inl s=>H s| .inr y=>Hy y,λk z=>match z with| .inl s=>cB step (l.drop k) s=cB step l s0/\okL step p (l.drop k) s| .inr _=>False,
  λe z=>match z with| .inl _=>False| .inr y=>cB step l s0=.inl y/\(match e with| .ret=>exE y=.ret| .exit j=>exE y=(bif Nat.beq j id then .normal else .exit j) |_=>False),.inl s0,js,h1,⟨rfl,h2⟩,h3,h4,h5,?_,?_,?_,?_⟩
 rintro k z args hk hI;cases z with
 |inr y=>exact hI.elim
 |inl s=>
  obtain⟨V,hok⟩:=hI;rw[al1,ami]at hk;obtain⟨x,hx,rfl⟩:=hk;have hlt:=(ak4.1 hx).1;have hd:l.drop k=x::l.drop (k+1):=by
   grind [List.drop_eq_getElem_cons]
  rw[hd]at V hok;obtain⟨hl,L,hla,hlb,hex⟩:=h6 x s hok.1;refine⟨hl,L,_,hla,hlb,?_,hex⟩;intro e st' W;have fin:∀ e',rgX exE T Hy st.h.length e' st' (step x s)->∃ y js,exE y=e'/\cB step l s0=.inl y/\st.h.length<=(Hy y).length/\Sub js st.h.length ⟨T,st'.h⟩ ⟨T,Hy y⟩:=by
   intro e' q;cases Y:step x s with
   |inr s'=>rw[Y]at q;exact q.elim
   |inl y=>
    rw[Y]at q;obtain⟨E,js,O,q3⟩:=q;grind [cB]
  cases e with
  |normal=>
   change rgN T H st.h.length st' (step x s)at W;cases Y:step x s with
   |inl y=>rw[Y]at W;exact W.elim
   |inr s'=>
    rw[Y]at W;obtain⟨js,E,O⟩:=W;simp only[cB,Y]at V;exact⟨.inl s',js,⟨V,hok.2 s' Y⟩,E,O⟩
  |exit j=>
   obtain⟨y,js,E,O,q3,q4⟩:=fin _ W;exact⟨.inr y,js,⟨O,E⟩,q3,q4⟩
  |ret=>
   obtain⟨y,js,E,O,q3,q4⟩:=fin _ W;exact⟨.inr y,js,⟨O,E⟩,q3,q4⟩
  |pan x=>exact W.elim
 intro z hI;cases z with
 |inr y=>exact hI.elim
 |inl s=>
  obtain⟨js,E,O⟩:=h7 s;have:=hI.1;rw[alY,anL]at this;exact⟨.inr s,js,this,rfl,E,O⟩
 intro z X;cases z with
 |inl s=>exact X.elim
 |inr y=>
  obtain⟨js,E,O⟩:=h8 y;exact⟨.inl y,js,X.1.symm,X.2,E,O⟩
 intro j z X;cases z with
 |inl s=>exact X.elim
 |inr y=>
  obtain⟨js,E,O⟩:=h8 y;refine⟨.inl y,js,X.1.symm,?_,E,O⟩;have:=X.2;show exE y=_;rw[this];by_cases hj:j=id
  rw[if_pos hj];have hb:Nat.beq j id=true:=by rw[hj];exact aoi id
  rw[hb];rfl;rw[if_neg hj];cases hb:Nat.beq j id with
  |true=>exact absurd (ak0 hb) hj|false=>rfl
end
section
variable {P:Program}{ρ σ τ:Type}
def zk:Ob->Option Nat
 | .mi _ _ _ c=>c|_=>none
def nxC (step:τ->σ->ρ⊕σ)(l:List τ)(d:τ)(D:List Nat->Option Nat->σ->St)(n0:Nat)(left:List Nat)(s:σ)(st:St):Option Nat->Prop
 |some j=>j∈left/\Am (λ_ s'=>D (left.erase j) (some j) s') n0 0 st (step (l.getD j d) s)
 |none=>False
def exC (step:τ->σ->ρ⊕σ)(l:List τ)(d:τ)(exE:ρ->Ex)(aoh:ρ->St)(n0:Nat)(left:List Nat)(s:σ)(e:Ex)(st:St):Option Nat->Prop
 |some j=>j∈left/\ub exE aoh n0 e st (step (l.getD j d) s)|none=>False
def cM (step:τ->σ->ρ⊕σ)(l:List τ)(d:τ)(exE:ρ->Ex)(aoh:ρ->St)(aoD:σ->St)(D:List Nat->Option Nat->σ->St)(n0 id it:Nat)(left:List Nat)(s:σ):Ex->St->Prop
 | .normal,st=>nxC step l d D n0 left s st (zk (ap st.h it))| .exit j,st=>bif Nat.beq j id then(left=[]->oB (aoD s) n0 st)/\(left≠[]->exC step l d exE aoh n0 left s .normal st (zk (ap st.h it)))else exC step l d exE aoh n0 left s (.exit j) st (zk (ap st.h it))| .ret,st=>exC step l d exE aoh n0 left s .ret st (zk (ap st.h it))| .pan x,st=>exC step l d exE aoh n0 left s (.pan x) st (zk (ap st.h it))
variable {step:τ->σ->ρ⊕σ}{l:List τ}{d:τ}{n0 id it j:Nat}{exE:ρ->Ex}{aoh:ρ->St}{aoD:σ->St}{D:List Nat->Option Nat->σ->St}{left:List Nat}{s s':σ}{st:St}{x:Value}{e:Ex}{y:ρ}{t:List (Nat×SV)}{h:List Ob}
@[go_sem] def ajl:= @zk.eq_1
@[go_sem] def agU:= @nxC.eq_1
@[go_sem] def agV:= @exC.eq_1
def ae6:cM step l d exE aoh aoD D n0 id it left s .normal ⟨t,h⟩=nxC step l d D n0 left s ⟨t,h⟩ (zk (ap h it)):=(rfl)
def ajm:cM step l d exE aoh aoD D n0 id it left s (.exit j) ⟨t,h⟩=bif Nat.beq j id then(left=[]->oB (aoD s) n0 ⟨t,h⟩)/\(left≠[]->exC step l d exE aoh n0 left s .normal ⟨t,h⟩ (zk (ap h it)))else exC step l d exE aoh n0 left s (.exit j) ⟨t,h⟩ (zk (ap h it)):=(rfl)
def akH:cM step l d exE aoh aoD D n0 id it left s .ret ⟨t,h⟩=exC step l d exE aoh n0 left s .ret ⟨t,h⟩ (zk (ap h it)):=(rfl)
def akI:cM step l d exE aoh aoD D n0 id it left s (.pan x) ⟨t,h⟩=exC step l d exE aoh n0 left s (.pan x) ⟨t,h⟩ (zk (ap h it)):=(rfl)
attribute[go_sem]ae6 ajm akH akI
@[congr] theorem agW {st st':St}{e e':Ex}(h:st=st')(he:e=e'):cM step l d exE aoh aoD D n0 id it left s e st=cM step l d exE aoh aoD D n0 id it left s e' st':=by rw[h,he]
attribute [go_sem] T4
def agX {t:List (Nat×SV)}{h:List Ob}{d:Nat}{s:SV}:St.put ⟨t,h⟩ (some d) s=⟨(d,s)::t,h⟩:=(rfl)
def agY {t:List (Nat×SV)}{h:List Ob}{s:SV}:St.put ⟨t,h⟩ none s=⟨t,h⟩:=(rfl)
attribute[go_sem]agX agY
theorem Fg (l:List τ)(d:τ):(List.range l.length).map (λj=>l.getD j d)=l:=by
 apply anM <;>grind
end
inductive apL where
 |slot (i:Nat) (o:Ob)
 |cell (i j:Nat) (o:Ob)
def acu (j n:Nat):Ob->Ob
 | .cells l=>.cells (l.set j (.os n))|o=>o
def acv (j:Nat):Ob->Prop
 | .cells l=>nth l j=some (.v (.slice none 0 0))|_=>False
def MH:Ob->Prop
 | .row _ l=>l=[]| .aoV _ l=>l=[]|_=>False
def VE:SV->Ob->Prop
 | .v (.slice none 0 0),_=>True| .e0,.row _ _=>True|_,_=>False
def mkN:List apL->St->St
 | [],st=>st| .slot i o::r,⟨t,h⟩ =>mkN r ⟨(i,.os h.length)::t,h++[o]⟩| .cell i j o::r,⟨t,h⟩ =>mkN r ⟨t,cL h i (acu j h.length (ap h i))++[o]⟩
def okN:List apL->St->Prop
 | [],_=>True| .slot i o::r,⟨t,h⟩ =>VE (lk i t) o/\MH o/\okN r ⟨(i,.os h.length)::t,h++[o]⟩| .cell i j o::r,⟨t,h⟩ =>acv j (ap h i)/\MH o/\okN r ⟨t,cL h i (acu j h.length (ap h i))++[o]⟩
section
variable {i j m n:Nat}{o:Ob}{r:List apL}{t t2:List (Nat×SV)}{h h2:List Ob}{l:List SV}{ns:List apL}{js:List Nat}{st:St}
@[go_sem] def ajn:= @mkN.eq_1
@[go_sem] def agZ:= @mkN.eq_2
@[go_sem] def ag0:= @mkN.eq_3
@[go_sem] def ajo:= @okN.eq_1
@[go_sem] def ag1:= @okN.eq_2
@[go_sem] def ag2:= @okN.eq_3
@[go_sem] theorem ag3:VE (.v (.slice none 0 0)) o=True:=by rfl
@[go_sem] def ajp:= @VE.eq_2
@[go_sem] def acw:= @acu.eq_1
@[go_sem] def acx:= @acv.eq_1
theorem Q6 (h:MH o):(∃ k,o=.row k [])\/∃ k,o=.aoV k []:=by
 cases o <;>simp only[MH]at h <;>simp_all
theorem VF {s:SV}{o:Ob}(h:VE s o):s=.v (.slice none 0 0)\/(s=.e0/\∃ k l,o=.row k l):=by
 unfold VE at h;grind
theorem w_:∀ (ns:List apL) (E st:St),aph E st->okN ns st->aph E (mkN ns st)
 | [],_,_,hn,_=>hn
 | .slot i o::r,E,⟨t,h⟩,hn,hk=>by
  rcases VF hk.1 with e| ⟨e,k,l,O⟩;exact w_ r E _ (.slot o hn e (Q6 hk.2.1)) hk.2.2;have h2:=hk.2.1;have V:=hk.2.2;rw[O]at h2 V;simp only[MH]at h2;subst h2;subst O;exact w_ r E _ (.aqm k hn e) V
 | .cell i j o::r,E,⟨t,h⟩,hn,hk=>by
  refine w_ r E _ ?_ hk.2.2;have h1:=hk.1;cases O:ap h i with
  |cells l=>
   rw[O]at h1;simp only[acv,gC]at h1;exact .cell o hn O h1 (Q6 hk.2.1)
  |_=>rw[O]at h1;exact h1.elim
def sI (m:Nat)(ns:List apL)(js:List Nat)(st d:St):Prop:=st.h.length=m/\okN ns st/\m<=d.h.length/\Sub js m (mkN ns st) d
@[go_sem]def ae7:sI m ns js ⟨t,h⟩ ⟨t2,h2⟩=(h.length=m/\okN ns ⟨t,h⟩/\m<=h2.length/\Sub js m (mkN ns ⟨t,h⟩) ⟨t2,h2⟩):=(rfl)
end
theorem ag {P:Program}{ro:Option Nat}{N:Nat}(c:Code):ak P ro N L0 c:=by
 induction c with
 |seq a b E O=>exact⟨E,O⟩|cond _ a b E O=>exact⟨E,O⟩
 |block id c hc=>
  cases c with
  |loop c=>exact λ_ _ _ _ _ h=>by cases h
  |rangeFunc f V a b=>exact λ_ _ _ _ _ h=>by cases h
  |_=>exact hc
 |_=>trivial
section
variable {ρ σ τ:Type}
def pT:Nat->σ->Prop:=λ_ _=>True
@[go_sem]def akJ {step:Nat->σ->ρ⊕σ}{n i:Nat}{s:σ}:okI step pT n i s=True:=eq_true (g8 _ _ _ λ_ _ _ _=>trivial)
def LCR (m:Nat)(ns:List apL)(js:List Nat)(D:Nat->σ->St)(step:Nat->σ->ρ⊕σ)(p:Nat->σ->Prop)(n:Nat)(s0:σ)(B:Prop)(exE:ρ->Ex)(aoh:ρ->St)(st:St):apc:=
 LC (sI m ns js st (D 0 s0)/\B/\okI step p n 0 s0) (aj step n 0 s0) exE aoh (D n)
def LCV (m:Nat)(ns:List apL)(js:List Nat)(D:Nat->σ->St)(step:Nat->σ->ρ⊕σ)(p:Nat->σ->Prop)(n:Nat)(s0:σ)(exE:ρ->Ex)(aoh:ρ->St)(st:St):apc:=
 LC (sI m ns js st (D 0 s0)/\okI step p n 0 s0/\∀ s,aj step n 0 s0≠ .inr s) (aj step n 0 s0) exE aoh (D n)
variable {m:Nat}{ns:List apL}{js:List Nat}{step:Nat->σ->ρ⊕σ}{p:Nat->σ->Prop}{n:Nat}{s0:σ}{B:Prop}{exE:ρ->Ex}{aoh:ρ->St}{aoD:σ->St}{st:St}{Q:Ex->St->Prop}
variable {D:Nat->σ->St}
@[go_sem]def ae8:rI Q (some (LCR m ns js D step p n s0 B exE aoh st))=((sI m ns js st (D 0 s0)/\B/\okI step p n 0 s0)/\(∀ x,aj step n 0 s0=.inl x->Q (exE x) (aoh x))/\∀ s,aj step n 0 s0=.inr s->Q .normal (D n s)):=My
@[go_sem] theorem ae9:rI Q (some (LCV m ns js D step p n s0 exE aoh st))=((sI m ns js st (D 0 s0)/\okI step p n 0 s0/\∀ s,aj step n 0 s0≠ .inr s)/\∀ x,aj step n 0 s0=.inl x->Q (exE x) (aoh x)):=by
 refine My.trans ?_;grind
def cR (step:Nat->σ->ρ⊕σ)(exE:ρ->Ex)(aoh:ρ->St)(D:Nat->σ->St)(m id k:Nat)(s:σ):Ex->St->Prop
 | .normal,st=>Am D m k st (step k s)| .exit j,st=>ub exE aoh m (bif Nat.beq j id then .normal else .exit j) st (step k s)| .ret,st=>ub exE aoh m .ret st (step k s)| .pan x,st=>ub exE aoh m (.pan x) st (step k s)
def cZ (d:St)(m id:Nat):Ex->St->Prop
 | .exit j,st=>bif Nat.beq j id then oB d m st else False|_,_=>False
variable {D:Nat->σ->St}{id k j:Nat}{s:σ}{x:Value}{d:St}{e e':Ex}
@[go_sem] def ae_:= @cR.eq_1
@[go_sem] def ajq:= @cR.eq_2
@[go_sem] def akK:= @cR.eq_3
@[go_sem] def akL:= @cR.eq_4
@[go_sem] def ajr:= @cZ.eq_1
@[congr] theorem ag4 {st':St}(h:st=st')(he:e=e'):cR step exE aoh D m id k s e st=cR step exE aoh D m id k s e' st':=by rw[h,he]
@[congr] theorem ag5 {st':St}(h:st=st')(he:e=e'):cZ d m id e st=cZ d m id e' st':=by rw[h,he]
@[congr] theorem aag {r r':ρ⊕σ}(h:r=r')(he:e=e'):ub exE aoh m e st r=ub exE aoh m e' st r':=by rw[h,he]
end
section
variable {P:Program}{ρ σ τ:Type}{ts:Tis}{G:Cons}{ro:Option Nat}{N:Nat}{id:Nat}{c:Code}{C:St->Option apc}{m:Nat}{ns:List apL}{js:List Nat}{step:Nat->σ->ρ⊕σ}{p:Nat->σ->Prop}{n:Nat}{s0:σ}{exE:ρ->Ex}{aoh:ρ->St}{D:Nat->σ->St}
theorem VG {n0:Nat}(hn0:n0=m){s:σ}{k:Nat}(hlt:k<n){I:Nat×σ->Prop}{μ:Nat×σ->Nat}{aoD:σ->St}{pre:Prop}{E:ρ⊕σ}
  (hI:∀ s',step k s=.inr s'->I (k+1,s')/\μ (k+1,s') <μ (k,s)) (hx:∀ x,step k s=.inl x->E=.inl x):
  ∀ e st',cR step exE aoh D m id k s e st'->vo (λx:Nat×σ=>D x.1 x.2) I μ n0 (k,s) id (λe st'=>∃ r js,(LC pre E exE aoh aoD).post r/\(LC pre E exE aoh aoD).ex r=e/\n0<=((LC pre E exE aoh aoD).out r).h.length/\Sub js n0 st' ((LC pre E exE aoh aoD).out r)) e st':=by
 subst hn0;have O:∀ e st',ub exE aoh n0 e st' (step k s)->∃ r js,(LC pre E exE aoh aoD).post r/\(LC pre E exE aoh aoD).ex r=e/\n0<=((LC pre E exE aoh aoD).out r).h.length/\Sub js n0 st' ((LC pre E exE aoh aoD).out r):=by
  intro e st' q;cases W:step k s with
  |inr s'=>rw[W]at q;exact q.elim
  |inl x=>
   rw[W]at q;obtain⟨q2,js,Y,X⟩:=q;exact⟨.inl x,js,(hx x W).symm,q2,Y,X⟩
 intro e st' V;cases e with
 |normal=>
  change Am D n0 k st' (step k s)at V;cases W:step k s with
  |inl x=>rw[W]at V;exact V.elim
  |inr s'=>
   rw[W]at V;obtain⟨js,Y,X⟩:=V;obtain⟨i1,i2⟩:=hI s' W;exact⟨(k+1,s'),js,i1,i2,Y,X⟩
 |exit j=>
  change ub exE aoh n0 (bif Nat.beq j id then .normal else .exit j) st' (step k s)at V;show bif Nat.beq j id then _ else _;grind
 |ret=>exact O _ _ V|pan x=>exact O _ _ V
theorem BB {B:Prop}(hm:P.follows .mixedOrders=true)(hts:ts.ok P)(hG:aot P G)(hc:c7 N c=true)(hC:∀ st,C st=some (LCR m ns js D step p n s0 B exE aoh st))
  (h:B->∀ k s,k<n->p k s->∃ L Q,ak P ro N L c/\(∀ e st',Q e st'->cR step exE aoh D m id k s e st')/\exec ts G L c (D k s) Q)
  (h2:B->∀ s,∃ Q,(∀ e st',Q e st'->cZ (D n s) m id e st')/\exec ts G L0 c (D n s) Q):k9 P ro N id (.loop c) C:=by
 refine uJ hm hts hG hc λst lc W hp=>?_;rw[hC st]at W;cases W;obtain⟨⟨O,hok,hle,hsub⟩,hB,h1⟩:=hp;refine⟨Nat×σ,λx=>D x.1 x.2,λx=>x.1<=n/\okI step p (n - x.1) x.1 x.2/\aj step (n - x.1) x.1 x.2=aj step n 0 s0,λx=>n - x.1,(0,s0),mkN ns st,js,⟨alB _,by omega,by simp⟩,w_ ns st st (.refl _) hok,by grind,by grind,?_⟩;rintro⟨k,s⟩ ⟨hk,hJ,E⟩;simp only at hk hJ E;rcases ama k n with hlt|hge;rw[show n - k=(n - k - 1)+1 by omega]at E hJ;obtain⟨L,Q,hl,hQ,V⟩:=h hB k s hlt hJ.1;have hI:∀ s',step k s=.inr s'->okI step p (n - (k+1)) (k+1) s'/\aj step (n - (k+1)) (k+1) s'=aj step n 0 s0:=λs' X=>by
  have:=hJ.2 s' X;grind [aj]
 have hx:∀ x,step k s=.inl x->aj step n 0 s0=.inl x:=λx X=>by
  grind [aj]
 exact⟨L,Q,hl,λe st' q=>VG O hlt (λs' X=>⟨⟨hlt,hI s' X⟩,by omega⟩) hx e st' (hQ e st' q),V⟩;have hkn:k=n:=by omega
 subst hkn;obtain⟨Q,hQ,V⟩:=h2 hB s;refine⟨L0,Q,ag c,λe st' q=>?_,V⟩;have Y:=hQ e st' q;simp only[amY,aj]at E;cases e with
 |exit j=>
  change bif Nat.beq j id then oB (D k s) m st' else False at Y;show bif Nat.beq j id then _ else _;cases hb:Nat.beq j id with
  |true=>
   rw[hb]at Y;obtain⟨js,q3,q4⟩:=Y;exact⟨.inr s,js,E,rfl,by rw[O];exact q3,by rw[O];exact q4⟩
  |false=>grind
 |_=>exact Y.elim
theorem b_ {B:Prop}(V:P.follows .mixedOrders=true)(E:ts.ok P)(hG:aot P G)(hc:c7 N c=true)(W:∀ st,C st=some (LCR m ns js D step p n s0 B exE aoh st))(M:Int)(hn:n=M.toNat)(X:B->M<9223372036854775808)
  (h:B->∀ k s,k<n->p k s->i64.wrap ((k:Int)+1)=((k+1:Nat):Int)->decide ((k:Int) <M)=true->∃ L,ak P ro N L c/\exec ts G L c (D k s) (cR step exE aoh D m id k s))
  (h2:B->∀ s,decide ((n:Int) <M)=false->exec ts G L0 c (D n s) (cZ (D n s) m id)):k9 P ro N id (.loop c) C:=by
 refine BB V E hG hc W (λb k s hlt O=>?_) λb s=>⟨_,λ_ _ q=>q,h2 b s ?_⟩;obtain⟨L,h1,Y⟩:=h b k s hlt O (Q3 (hn▸hlt) (X b)) (decide_eq_true (by omega));grind
 grind
theorem d9 (E:Prop)(W:P.follows .mixedOrders=true)(O:ts.ok P)(hG:aot P G)(hc:c7 N c=true)(X:∀ st,C st=some (LCR m ns js D step p n s0 True exE aoh st))(M:Int)(hn:n=M.toNat)(hE:E->M<9223372036854775808)
  (h:E->∀ k s,k<n->p k s->i64.wrap ((k:Int)+1)=((k+1:Nat):Int)->decide ((k:Int) <M)=true->∃ L,ak P ro N L c/\exec ts G L c (D k s) (cR step exE aoh D m id k s))
  (h2:E->∀ s,decide ((n:Int) <M)=false->exec ts G L0 c (D n s) (cZ (D n s) m id)) (Y:¬E->∀ k s,exec ts G L0 c (D k s) λ_ _=>False):k9 P ro N id (.loop c) C:=by
 by_cases V:E
 refine BB W O hG hc X (λb k s hlt hp=>?_) λb s=>⟨_,λ_ _ q=>q,h2 V s ?_⟩;obtain⟨L,h1,h4⟩:=h V k s hlt hp (Q3 (hn▸hlt) (hE V)) (decide_eq_true (by omega));grind
 grind
 exact BB W O hG hc X (λ_ k s _ _=>⟨L0,_,ag c,λ_ _ q=>q.elim,Y V k s⟩) λ_ s=>⟨_,λ_ _ q=>q.elim,Y V n s⟩
theorem eW (hm:P.follows .mixedOrders=true)(hts:ts.ok P)(hG:aot P G)(hc:c7 N c=true)(hC:∀ st,C st=some (LCV m ns js D step p n s0 exE aoh st))
  (h:∀ k s,p k s->∃ L,ak P ro N L c/\exec ts G L c (D k s) (cR step exE aoh D m id k s)):k9 P ro N id (.loop c) C:=by
 refine uJ hm hts hG hc λst lc V hp=>?_;rw[hC st]at V;cases V;obtain⟨⟨O,hok,hle,hsub⟩,h1,hno⟩:=hp;refine⟨Nat×σ,λx=>D x.1 x.2,λx=>x.1<=n/\okI step p (n - x.1) x.1 x.2/\aj step (n - x.1) x.1 x.2=aj step n 0 s0,λx=>n - x.1,(0,s0),mkN ns st,js,⟨alB _,by omega,by simp⟩,w_ ns st st (.refl _) hok,by grind,by grind,?_⟩;rintro⟨k,s⟩ ⟨hk,X,E⟩;simp only at hk X E;have hlt:k<n:=by
  rcases ama k n with h|h;exact h;have Y:k=n:=by omega
  subst Y;simp only[amY,aj]at E;grind
 rw[show n - k=(n - k - 1)+1 by omega]at E X;obtain⟨L,hl,hex⟩:=h k s X.1;have hI:∀ s',step k s=.inr s'->okI step p (n - (k+1)) (k+1) s'/\aj step (n - (k+1)) (k+1) s'=aj step n 0 s0:=λs' W=>by
  have:=X.2 s' W;grind [aj]
 have hx:∀ x,step k s=.inl x->aj step n 0 s0=.inl x:=λx W=>by
  grind [aj]
 exact⟨L,_,hl,λe st' q=>VG O hlt (λs' W=>⟨⟨hlt,hI s' W⟩,by omega⟩) hx e st' q,hex⟩
theorem fH {α:Type}{l:List α}(h:l.length<=aN):(l.length:Int) <9223372036854775808:=by grind [aN]
end
section
universe u
variable {α:Type u}{G:List SV->α->Prop}{r:List SV}
theorem aG {k:Int->List SV->Option α}(h:∀ n l c,k n l=some c->G (.v (.int .i64 n)::l) c):∀ l c,pI k l=some c->G l c:=λl c hc=>by
 obtain⟨n,r,rfl,h1⟩:=UT hc;grind
theorem BC {k:Bool->List SV->Option α}(h:∀ n l c,k n l=some c->G (.v (.bool n)::l) c):∀ l c,pB k l=some c->G l c:=λl c hc=>by
 obtain⟨n,r,rfl,h1⟩:=abV hc;grind
variable {t:Tag}
theorem bM{k:List t.T->List SV->Option α}(h:∀ n l c,k n l=some c->G (.rs t n::l) c):∀ l c,pR t k l=some c->G l c:=λl c hc=>by
 obtain⟨n,r,rfl,h1⟩:=abW hc;grind
variable {k:t.T->List SV->Option α}
theorem az(h:∀ n l c,k n l=some c->G (.agg (cellsOf t n)::l) c):∀ l c,pD t k l=some c->G l c:=λl c hc=>by
 obtain⟨n,r,rfl,h1⟩:=Kh hc;grind
theorem gu(h:∀ n l c,k n l=some c->G (.ep (cellsOf t n) 0::l) c):∀ l c,pX t k l=some c->G l c:=λl c hc=>by
 obtain⟨n,r,rfl,h1⟩:=UU hc;grind
theorem acy{t2:Tag}{k:List (t.T×t2.T)->List SV->Option α}(h:∀ n l c,k n l=some c->G (.rm t t2 n::l) c):∀ l c,pM t t2 k l=some c->G l c:=λl c hc=>by
 obtain⟨n,r,rfl,h1⟩:=UV hc;grind
theorem am {c0:α}(h:G [] c0):∀ l c,pE c0 l=some c->G l c:=λl c hc=>by
 obtain⟨rfl,rfl⟩:=w8 hc;exact h
end
end Go.Sx
end
section
namespace Go.Sx
variable {f:FuncId}{a:List SV}
def sJ{p:Pk}{b:List SV}:yk [p] (.fn f a b)=Be p (.fn f a b):=(rfl)
def sK{b:List SV}:Be .o (.fn f a b)=.fn f a b:=(rfl)
end Go.Sx
end
section
namespace Go.Sx
open Go.RowKit
open IntKind (i64)
abbrev RF:= { r:Nat->Res // ∀ k,(r k).n=k}
def Dg (items:List (List SV))(r:RF):List SV->Res->Option apR:=itY items r.1
@[go_sem]def ajs {items:List (List SV)}{r:RF}{k:Nat}{args:List SV}:Dg items r args (r.1 (k+1))=some (Mz (items[k]? =some args) r.1 (k+2)):=Fc r.2 k args
section
variable {ρ σ:Type}
def lcy (pre:Prop)(run:ρ⊕σ)(exE:ρ->Ex)(aoh:ρ->St)(aoD:σ->St)(stp:St):apc where
 α:=Option (ρ⊕σ)
 pre:=pre
 post:=λ|none=>True|some r=>r=run
 ex:=λ|none=>.ret|some (.inl x) =>exE x|some (.inr _) =>.normal
 out:=λ|none=>stp|some (.inl x) =>aoh x|some (.inr s) =>aoD s
def LCY (m:Nat)(ns:List apL)(js:List Nat)(D:Nat->σ->St)(step:Nat->σ->ρ⊕σ)(p:Nat->σ->Prop)(n:Nat)(s0:σ)(B:Prop)(exE:ρ->Ex)(aoh:ρ->St)(stp:St)(st:St):apc:=
 lcy (sI m ns js st (D 0 s0)/\B/\okI step p n 0 s0) (aj step n 0 s0) exE aoh (D n) stp
def YA (m:Nat)(ns:List apL)(js:List Nat)(D:Nat->σ->St)(step:Nat->σ->ρ⊕σ)(p:Nat->σ->Prop)(n:Nat)(s0:σ)(exE:ρ->Ex)(aoh:ρ->St)(stp:St)(st:St):apc:=
 lcy (sI m ns js st (D 0 s0)/\okI step p n 0 s0/\∀ s,aj step n 0 s0≠ .inr s) (aj step n 0 s0) exE aoh (D n) stp
variable {m:Nat}{ns:List apL}{js:List Nat}{step:Nat->σ->ρ⊕σ}{p:Nat->σ->Prop}{n:Nat}{s0:σ}{B:Prop}{exE:ρ->Ex}{aoh:ρ->St}{stp st:St}{Q:Ex->St->Prop}{D:Nat->σ->St}
theorem IT {pre:Prop}{E:ρ⊕σ}{aoD:σ->St}:rI Q (some (lcy pre E exE aoh aoD stp))=(pre/\(∀ x,E=.inl x->Q (exE x) (aoh x))/\(∀ s,E=.inr s->Q .normal (aoD s))/\Q .ret stp):=by
 apply propext;constructor
 rintro⟨h1,h2⟩;exact⟨h1,λx X=>h2 (some (.inl x)) X.symm,λs V=>h2 (some (.inr s)) V.symm,h2 none trivial⟩;rintro⟨h1,h2,W,O⟩;refine⟨h1,λr hr=>?_⟩;match r,hr with
 |none,_=>exact O|some (.inl x),hr=>exact h2 x hr.symm|some (.inr s),hr=>exact W s hr.symm
@[go_sem]def afa:rI Q (some (LCY m ns js D step p n s0 B exE aoh stp st))=((sI m ns js st (D 0 s0)/\B/\okI step p n 0 s0)/\(∀ x,aj step n 0 s0=.inl x->Q (exE x) (aoh x))/\(∀ s,aj step n 0 s0=.inr s->Q .normal (D n s))/\Q .ret stp):=IT
@[go_sem] theorem acz:rI Q (some (YA m ns js D step p n s0 exE aoh stp st))=((sI m ns js st (D 0 s0)/\okI step p n 0 s0/\∀ s,aj step n 0 s0≠ .inr s)/\(∀ x,aj step n 0 s0=.inl x->Q (exE x) (aoh x))/\Q .ret stp):=by
 refine IT.trans ?_;grind
def cY (step:Nat->σ->ρ⊕σ)(exE:ρ->Ex)(aoh:ρ->St)(D:Nat->σ->St)(stp:St)(m id k:Nat)(s:σ):Ex->St->Prop
 | .normal,st=>Am D m k st (step k s)| .exit j,st=>ub exE aoh m (bif Nat.beq j id then .normal else .exit j) st (step k s)| .ret,st=>ub exE aoh m .ret st (step k s)\/oB stp m st| .pan x,st=>ub exE aoh m (.pan x) st (step k s)
variable {id k j:Nat}{s:σ}{x:Value}{e e':Ex}
@[go_sem] def afb:= @cY.eq_1
@[go_sem] def ajt:= @cY.eq_2
@[go_sem] def akM:= @cY.eq_3
@[go_sem] def akN:= @cY.eq_4
@[congr] theorem ag6 {st':St}(h:st=st')(he:e=e'):cY step exE aoh D stp m id k s e st=cY step exE aoh D stp m id k s e' st':=by rw[h,he]
end
section
variable {P:Program}{ρ σ:Type}{ts:Tis}{G:Cons}{ro:Option Nat}{N:Nat}{id:Nat}{c:Code}{C:St->Option apc}{m:Nat}{ns:List apL}{js:List Nat}{step:Nat->σ->ρ⊕σ}{p:Nat->σ->Prop}{n:Nat}{s0:σ}{exE:ρ->Ex}{aoh:ρ->St}{D:Nat->σ->St}{stp:St}
theorem VH {n0:Nat}(Y:n0=m){s:σ}{k:Nat}(hlt:k<n){I:Nat×σ->Prop}{μ:Nat×σ->Nat}{aoD:σ->St}{pre:Prop}{E:ρ⊕σ}
  (hI:∀ s',step k s=.inr s'->I (k+1,s')/\μ (k+1,s') <μ (k,s)) (hx:∀ x,step k s=.inl x->E=.inl x):
  ∀ e st',cY step exE aoh D stp m id k s e st'->vo (λx:Nat×σ=>D x.1 x.2) I μ n0 (k,s) id (λe st'=>∃ r js,(lcy pre E exE aoh aoD stp).post r/\(lcy pre E exE aoh aoD stp).ex r=e/\n0<=((lcy pre E exE aoh aoD stp).out r).h.length/\Sub js n0 st' ((lcy pre E exE aoh aoD stp).out r)) e st':=by
 subst Y;have O:∀ e st',ub exE aoh n0 e st' (step k s)->∃ r js,(lcy pre E exE aoh aoD stp).post r/\(lcy pre E exE aoh aoD stp).ex r=e/\n0<=((lcy pre E exE aoh aoD stp).out r).h.length/\Sub js n0 st' ((lcy pre E exE aoh aoD stp).out r):=by
  intro e st' q;cases V:step k s with
  |inr s'=>rw[V]at q;exact q.elim
  |inl x=>
   rw[V]at q;obtain⟨q2,js,X,W⟩:=q;exact⟨some (.inl x),js,(hx x V).symm,q2,X,W⟩
 intro e st' hq;cases e with
 |normal=>
  change Am D n0 k st' (step k s)at hq;cases V:step k s with
  |inl x=>rw[V]at hq;exact hq.elim
  |inr s'=>
   rw[V]at hq;obtain⟨js,X,W⟩:=hq;obtain⟨i1,i2⟩:=hI s' V;exact⟨(k+1,s'),js,i1,i2,X,W⟩
 |exit j=>
  change ub exE aoh n0 (bif Nat.beq j id then .normal else .exit j) st' (step k s)at hq;show bif Nat.beq j id then _ else _;grind
 |ret=>
  rcases hq with hq|hq;exact O _ _ hq;obtain⟨js,X,W⟩:=hq;exact⟨none,js,trivial,rfl,X,W⟩
 |pan x=>exact O _ _ hq
theorem sL {B:Prop}(hm:P.follows .mixedOrders=true)(hts:ts.ok P)(hG:aot P G)(hc:c7 N c=true)(hC:∀ st,C st=some (LCY m ns js D step p n s0 B exE aoh stp st))(M:Int)(hn:n=M.toNat)(hB:B->M<9223372036854775808)
  (h:B->∀ k s,k<n->p k s->i64.wrap ((k:Int)+1)=((k+1:Nat):Int)->decide ((k:Int) <M)=true->∃ L,ak P ro N L c/\exec ts G L c (D k s) (cY step exE aoh D stp m id k s))
  (h2:B->∀ s,decide ((n:Int) <M)=false->exec ts G L0 c (D n s) (cZ (D n s) m id)):k9 P ro N id (.loop c) C:=by
 refine uJ hm hts hG hc λst lc X hp=>?_;rw[hC st]at X;cases X;obtain⟨⟨O,hok,hle,hsub⟩,W,h1⟩:=hp;refine⟨Nat×σ,λx=>D x.1 x.2,λx=>x.1<=n/\okI step p (n - x.1) x.1 x.2/\aj step (n - x.1) x.1 x.2=aj step n 0 s0,λx=>n - x.1,(0,s0),mkN ns st,js,⟨alB _,by omega,by simp⟩,w_ ns st st (.refl _) hok,by grind,by grind,?_⟩;rintro⟨k,s⟩ ⟨hk,hJ,E⟩;simp only at hk hJ E;rcases ama k n with hlt|hge;rw[show n - k=(n - k - 1)+1 by omega]at E hJ;obtain⟨L,hl,V⟩:=h W k s hlt hJ.1 (Q3 (hn▸hlt) (hB W)) (decide_eq_true (by omega));have hI:∀ s',step k s=.inr s'->okI step p (n - (k+1)) (k+1) s'/\aj step (n - (k+1)) (k+1) s'=aj step n 0 s0:=λs' Y=>by
  have:=hJ.2 s' Y;grind [aj]
 have hx:∀ x,step k s=.inl x->aj step n 0 s0=.inl x:=λx Y=>by
  grind [aj]
 exact⟨L,_,hl,λe st' q=>VH O hlt (λs' Y=>⟨⟨hlt,hI s' Y⟩,by omega⟩) hx e st' q,V⟩;have hkn:k=n:=by omega
 subst hkn;have V:=h2 W s (by grind);refine⟨L0,_,ag c,λe st' hq=>?_,V⟩;simp only[amY,aj]at E;cases e with
 |exit j=>
  change bif Nat.beq j id then oB (D k s) m st' else False at hq;show bif Nat.beq j id then _ else _;cases hb:Nat.beq j id with
  |true=>
   rw[hb]at hq;obtain⟨js,q3,q4⟩:=hq;exact⟨some (.inr s),js,E,rfl,by rw[O];exact q3,by rw[O];exact q4⟩
  |false=>grind
 |_=>exact hq.elim
theorem IU (hm:P.follows .mixedOrders=true)(hts:ts.ok P)(hG:aot P G)(hc:c7 N c=true)(hC:∀ st,C st=some (YA m ns js D step p n s0 exE aoh stp st))
  (h:∀ k s,p k s->∃ L,ak P ro N L c/\exec ts G L c (D k s) (cY step exE aoh D stp m id k s)):k9 P ro N id (.loop c) C:=by
 refine uJ hm hts hG hc λst lc V hp=>?_;rw[hC st]at V;cases V;obtain⟨⟨O,hok,hle,hsub⟩,h1,hno⟩:=hp;refine⟨Nat×σ,λx=>D x.1 x.2,λx=>x.1<=n/\okI step p (n - x.1) x.1 x.2/\aj step (n - x.1) x.1 x.2=aj step n 0 s0,λx=>n - x.1,(0,s0),mkN ns st,js,⟨alB _,by omega,by simp⟩,w_ ns st st (.refl _) hok,by grind,by grind,?_⟩;rintro⟨k,s⟩ ⟨hk,X,E⟩;simp only at hk X E;rcases ama k n with hlt|hge;rw[show n - k=(n - k - 1)+1 by omega]at E X;obtain⟨L,hl,hex⟩:=h k s X.1;have hI:∀ s',step k s=.inr s'->okI step p (n - (k+1)) (k+1) s'/\aj step (n - (k+1)) (k+1) s'=aj step n 0 s0:=λs' W=>by
  have:=X.2 s' W;grind [aj]
 have hx:∀ x,step k s=.inl x->aj step n 0 s0=.inl x:=λx W=>by
  grind [aj]
 exact⟨L,_,hl,λe st' q=>VH O hlt (λs' W=>⟨⟨hlt,hI s' W⟩,by omega⟩) hx e st' q,hex⟩;have Y:k=n:=by omega
 subst Y;simp only[amY,aj]at E;grind
end
def uK (n:Nat):List Ob:=List.replicate n .dead
def MI (items:List (List SV))(r:RF)(n:Nat):Ex->St->Prop
 | .normal,st=>oB ⟨[],.ab (r.1 0)::uK n⟩ (n+1) ⟨[],st.h⟩\/oB ⟨[],.ab (r.1 (items.length+1))::uK n⟩ (n+1) ⟨[],st.h⟩| .ret,st=>oB ⟨[],.ab (r.1 0)::uK n⟩ (n+1) ⟨[],st.h⟩\/oB ⟨[],.ab (r.1 (items.length+1))::uK n⟩ (n+1) ⟨[],st.h⟩|_,_=>False
section
variable {items:List (List SV)}{r:RF}{n:Nat}{st:St}{e e':Ex}
@[go_sem] def YB:= @MI.eq_1
@[go_sem] def afc:= @MI.eq_2
@[congr] theorem aah {st':St}(h:st=st')(he:e=e'):MI items r n e st=MI items r n e' st':=by rw[h,he]
def aju:uK 0=[]:=(rfl)
def ajv:uK 1=[.dead]:=(rfl)
def ajw:uK 2=[.dead,.dead]:=(rfl)
def ajx:uK 3=[.dead,.dead,.dead]:=(rfl)
def ajy:uK 4=[.dead,.dead,.dead,.dead]:=(rfl)
attribute[go_sem]aju ajv ajw ajx ajy
end
theorem MJ {js:List Nat}{n0:Nat}{h h':List Ob}(q:Sub js n0 ⟨[],h⟩ ⟨[],h'⟩):Sub js n0 ⟨[(0,.tup [])],h⟩ ⟨[(0,.tup [])],h'⟩:=by
 refine⟨q.1,?_,q.2.2⟩;simp only[RY,lk];exact⟨⟨rfl,rfl⟩,trivial⟩
open Classical in
theorem BD {P:Program} {ts:Tis} {G:RF->Cons} (hm:P.follows .mixedOrders=true) (hts:ts.ok P) {f:FuncId} {fn:Func} {c:Code} (hf:P.funcs[f]? =some fn) (hb:fn.body=some c) (E:(fn.name== "runtime.NumGoroutine")=false) (hc:c7 fn.ntmps c=true) (hr:fn.results.toList=[])
  {items:List (List SV)} {X:SV->List SV} {V:List Ob} {n:Nat} (hn:V.length=n)
  (h:∀ r:RF,YOk P (Dg items r)->aot P (G r)/\(X (.os 0)).length<=fn.ntmps/\∃ L,ak P none fn.ntmps L c/\exec ts (G r) L c ⟨nY 0 (X (.os 0)),.ab (r.1 1)::V⟩ (MI items r n))
  (he:∀ (args:Array Value) (w:World),(callFunc f args).run P w=.ok (.enter f args) w):Ak P f X V items:=by
 refine Q0 (λO hr0 hy=>?_) he;obtain⟨hG,h1,L,h2,h3⟩:=h ⟨O,hr0⟩ hy;refine⟨λl o=>if l=X (.os 0)/\o=.ab (O 1)::V then some { α:=Bool,pre:=True,post:=λ_=>True,res:=λb=>.ret (.tup []) (.ab (O (if b then items.length+1 else 0))::uK n)}else none,?_,_,if_pos ⟨rfl,rfl⟩,trivial,λb _=>⟨_,_,_,rfl,by grind⟩⟩;refine E9 hm hts hG hf hb E hc λl o con hC _=>?_;split at hC
 rotate_left
 cases hC;rename_i Y;obtain⟨rfl,rfl⟩:=Y;cases hC;refine⟨h1,L,_,h2,λe st W=>?_,h3⟩;have key:∀ st:St,(oB ⟨[],.ab (O 0)::uK n⟩ (n+1) ⟨[],st.h⟩\/oB ⟨[],.ab (O (items.length+1))::uK n⟩ (n+1) ⟨[],st.h⟩)->Ey (Ob.ab (O 1)::V).length { α:=Bool,pre:=True,post:=λ_=>True,res:=λb=>.ret (.tup []) (.ab (O (if b then items.length+1 else 0))::uK n)} (tA (ri ts st fn.results.toList)) st.h:=λst q=>by
  rw[hr];show ∃ r s' h' js,_;rcases q with⟨js,q1,q2⟩ | ⟨js,q1,q2⟩;exact⟨false,_,_,js,trivial,rfl,by grind,by rw[ak5,hn];exact MJ q2⟩;exact⟨true,_,_,js,trivial,rfl,by grind,by rw[ak5,hn];exact MJ q2⟩
 cases e with
 |normal=>exact key st W|ret=>exact key st W|exit j=>exact W.elim|pan x=>exact W.elim
section
variable {ρ σ τ:Type}
theorem BE {step:τ->σ->ρ⊕σ}:∀ {a b:List τ} {s s':σ},cB step a s=.inr s'->cB step (a++b) s=cB step b s'
 | [],_,_,_,h=>by grind [cB]
 |x::a,b,s,s',h=>by
  simp only[alr,cB]at h |-;cases E:step x s with
  |inl y=>grind|inr s1=>rw[E]at h;simp only at h |-;exact BE h
theorem MK {step:τ->σ->ρ⊕σ}{p:τ->σ->Prop}:∀ {a b:List τ} {s s':σ},cB step a s=.inr s'->okL step p (a++b) s->okL step p b s'
 | [],_,_,_,h,E=>by grind [cB]
 |x::a,b,s,s',h,E=>by
  simp only[alr,cB]at h E;cases O:step x s with
  |inl y=>grind|inr s1=>rw[O]at h;exact MK h (E.2 s1 O)
def LCP (m:Nat)(ns:List apL)(js:List Nat)(D:List Nat->Option Nat->σ->St)(step:τ->σ->ρ⊕σ)(p:τ->σ->Prop)(l:List τ)(s0:σ)(exE:ρ->Ex)(aoh:ρ->St)(aoD:σ->St)(st:St):apc where
 α:=ρ⊕σ
 pre:=sI m ns js st (D (List.range l.length) none s0)/\∀ L,L.Perm l->okL step p L s0
 post:=λr=>∃ L,L.Perm l/\cB step L s0=r
 ex:=λ| .inl x=>exE x| .inr _=>.normal
 out:=λ| .inl x=>aoh x| .inr s=>aoD s
variable {m:Nat}{ns:List apL}{js:List Nat}{step:τ->σ->ρ⊕σ}{p:τ->σ->Prop}{l:List τ}{s0:σ}{exE:ρ->Ex}{aoh:ρ->St}{aoD:σ->St}{st:St}{Q:Ex->St->Prop}{D:List Nat->Option Nat->σ->St}
@[go_sem] theorem afd:rI Q (some (LCP m ns js D step p l s0 exE aoh aoD st))=((sI m ns js st (D (List.range l.length) none s0)/\∀ L,L.Perm l->okL step p L s0)/\∀ L,L.Perm l->(∀ x,cB step L s0=.inl x->Q (exE x) (aoh x))/\∀ s,cB step L s0=.inr s->Q .normal (aoD s)):=by
 apply propext;constructor
 rintro⟨h1,h2⟩;exact⟨h1,λL hL=>⟨λx hx=>h2 (.inl x) ⟨L,hL,hx⟩,λs hs=>h2 (.inr s) ⟨L,hL,hs⟩⟩⟩;rintro⟨h1,h2⟩;refine⟨h1,λr ⟨L,hL,hr⟩ =>?_⟩;cases r with
 |inl x=>exact(h2 L hL).1 x hr|inr s=>exact(h2 L hL).2 s hr
variable {P:Program}{ts:Tis}{G:Cons}{ro:Option Nat}{N id:Nat}{c:Code}{C:St->Option apc}
theorem ML (d:τ)(it:Nat)(hm:P.follows .mixedOrders=true)(hts:ts.ok P)(hG:aot P G)(hc:c7 N c=true)(hC:∀ st,C st=some (LCP m ns js D step p l s0 exE aoh aoD st))
  (h:∀ left cur s,(∀ j,j∈left->j<l.length/\p (l.getD j d) s)->∃ L,ak P ro N L c/\exec ts G L c (D left cur s) (cM step l d exE aoh aoD D m id it left s)):k9 P ro N id (.loop c) C:=by
 refine uJ hm hts hG hc λst lc hC' hp=>?_;rw[hC st]at hC';cases hC';obtain⟨⟨hlen,hok,hle,hsub⟩,hO⟩:=hp;subst hlen;have X:∀ q:List Nat,q.Perm (List.range l.length)->(q.map λj=>l.getD j d).Perm l:=λq hq=>by
  have:=hq.map (λj=>l.getD j d)
  rwa[Fg]at this
 refine⟨List Nat×Option Nat×σ,λx=>D x.1 x.2.1 x.2.2,λx=>∃ q:List Nat,(q++x.1).Perm (List.range l.length)/\cB step (q.map λj=>l.getD j d) s0=.inr x.2.2,λx=>x.1.length,(List.range l.length,none,s0),mkN ns st,js,⟨[],.refl _,rfl⟩,w_ ns st st (.refl _) hok,hle,hsub,?_⟩;rintro⟨left,cur,s⟩ ⟨q,hq,Y⟩;simp only at hq Y;have hmem:∀ j,j∈left->(q++j::left.erase j).Perm (List.range l.length):=λj hj=>((List.perm_cons_erase hj).symm.append_left q).trans hq;have hp0:∀ j,j∈left->j<l.length/\p (l.getD j d) s:=λj hj=>by
  refine⟨amy.1 (hq.mem_iff.1 (amM _ hj)),?_⟩;have:=hO _ (X _ (hmem j hj));rw[amo]at this;exact(MK Y this).1
 obtain⟨L,hl,hex⟩:=h left cur s hp0;refine⟨L,_,hl,?_,hex⟩;have E:∀ e st' o,exC step l d exE aoh st.h.length left s e st' o->∃ r js,(LCP st.h.length ns js D step p l s0 exE aoh aoD st).post r/\(LCP st.h.length ns js D step p l s0 exE aoh aoD st).ex r=e/\st.h.length<=((LCP st.h.length ns js D step p l s0 exE aoh aoD st).out r).h.length/\Sub js st.h.length st' ((LCP st.h.length ns js D step p l s0 exE aoh aoD st).out r):=by
  intro e st' o z;cases o with
  |none=>exact z.elim
  |some j=>
   obtain⟨hj,z⟩:=z;cases hs:step (l.getD j d) s with
   |inr s'=>rw[hs]at z;exact z.elim
   |inl x=>
    rw[hs]at z;obtain⟨q2,W,q3,q4⟩:=z;refine⟨.inl x,W,⟨_,X _ (hmem j hj),?_⟩,q2,q3,q4⟩;simp_all [BE,cB]
 intro e st' V;cases e with
 |normal=>
  change nxC step l d D st.h.length left s st' (zk (ap st'.h it))at V;cases ho:zk (ap st'.h it)with
  |none=>rw[ho]at V;exact V.elim
  |some j=>
   rw[ho]at V;obtain⟨hj,V⟩:=V;cases hs:step (l.getD j d) s with
   |inl x=>rw[hs]at V;exact V.elim
   |inr s'=>
    rw[hs]at V;obtain⟨W,q3,q4⟩:=V;refine⟨(left.erase j,some j,s'),W,⟨q++[j],?_,?_⟩,?_,q3,q4⟩;grind
    simp_all [BE,cB];grind
 |exit j=>
  have O:(bif Nat.beq j id then(left=[]->oB (aoD s) st.h.length st')/\(left≠[]->exC step l d exE aoh st.h.length left s .normal st' (zk (ap st'.h it)))else exC step l d exE aoh st.h.length left s (.exit j) st' (zk (ap st'.h it))):=V;show bif Nat.beq j id then _ else _;cases hb:Nat.beq j id with
  |true=>
   rw[hb]at O;simp only[cond_true]at O |-;by_cases hlt:left=[]
   obtain⟨W,q3,q4⟩:=O.1 hlt;refine⟨.inr s,W,⟨_,X q (by grind),Y⟩,rfl,q3,q4⟩;exact E _ _ _ (O.2 hlt)
  |false=>
   rw[hb]at O;exact E _ _ _ O
 |ret=>exact E _ _ _ V|pan x=>exact E _ _ _ V
end
theorem fkY {E st:St}{n0:Nat}{js:List Nat}(_:JL js)(h1:n0<=E.h.length:=by(first|(show _<=_;decide) |(simp only[*,go_sem,Nat.reduceBEq,Nat.reduceLeDiff,Nat.reduceAdd,Nat.reduceSub,Nat.reduceMul,Int.reduceLE,Int.reduceLT,Int.reduceToNat,Int.reduceNeg,reduceCtorEq];done) |(simp only[*,go_sem,Nat.reduceBEq,Nat.reduceLeDiff,Nat.reduceAdd,Nat.reduceSub,Nat.reduceMul,Int.reduceLE,Int.reduceLT,Int.reduceToNat,Int.reduceNeg,reduceCtorEq];(repeat' (first|with_reducible refine And.intro ?_ ?_|((with_reducible show _≠_);first|assumption|omega|(simp_all [cy,ei];done) |grind) |with_reducible intro _)) <;>(first|rfl|decide|assumption|omega|(simp_all [cy,ei];done) |fail))))(h2:Sub js n0 st E:=by(first|(show _<=_;decide) |(simp only[*,go_sem,Nat.reduceBEq,Nat.reduceLeDiff,Nat.reduceAdd,Nat.reduceSub,Nat.reduceMul,Int.reduceLE,Int.reduceLT,Int.reduceToNat,Int.reduceNeg,reduceCtorEq];done) |(simp only[*,go_sem,Nat.reduceBEq,Nat.reduceLeDiff,Nat.reduceAdd,Nat.reduceSub,Nat.reduceMul,Int.reduceLE,Int.reduceLT,Int.reduceToNat,Int.reduceNeg,reduceCtorEq];(repeat' (first|with_reducible refine And.intro ?_ ?_|((with_reducible show _≠_);first|assumption|omega|(simp_all [cy,ei];done) |grind) |with_reducible intro _)) <;>(first|rfl|decide|assumption|omega|(simp_all [cy,ei];done) |fail)))):oB E n0 st:=Kk js h1 h2
theorem acA {α:Type 1}{G:List SV->α->Prop}{X:SV}{k:List SV->Option α}(h:∀ l c,k l=some c->G (X::l) c):∀ l c,pQ X k l=some c->G l c:=λl c hc=>by
 obtain⟨r,rfl,h1⟩:=Fe hc;grind
theorem clP {p:Prop}(h:p:=by((repeat' (first|with_reducible refine And.intro ?_ ?_|((with_reducible show _≠_);first|assumption|omega|(simp_all [cy,ei];done) |grind) |with_reducible intro _)) <;>(first|done|with_reducible exact Empty.elim ‹Empty› |with_reducible assumption|rfl|omega|assumption|(simp_all only[cy,ei];done) |(simp_all only[cy,ei];grind)))):p:=h
end Go.Sx
end
