/- Part of the proof that the law RefuseLess returns true and leaves its arguments as they were, for all arguments of bulk at most 1048576 (the Upto form). -/
import Derived.Test.YtaikmgjfkejlkaaGreatF106
import Derived.RecoverIn
import Derived.Laws.Pointers
import Derived.Test.YtaikmgjfkejlkaaGreatProg
set_option linter.all false
set_option maxHeartbeats 4000000
set_option maxRecDepth 100000
section
namespace Go.Sx
open Go.RowKit
open IntKind (i64)
section
variable {P:Program}{w0:Bs}{ts:Tis}{G:Cons}{L:vP}{N:Nat}
def sD (ids:List Nat)(h:List Ob):List Ob:=bf h (ids.map λid=>(id,Ob.dead))
theorem Ii (h:List Ob)(id:Nat):∀ (ids:List Nat) (h:List Ob),aq (sD ids h) id=if id∈ids then .dead else aq h id
 | [],h=>by rfl
 |a::r,h=>by
  have E:=Ii h id r (cF h a .dead);have e:sD (a::r) h=sD r (cF h a .dead):=rfl;rw[e,E];by_cases h1:id∈r
  simp[h1];rw[if_neg h1,dF];grind
def Oy (ids:List Nat)(i:Nat):Option Nat:=(yM i ids).map (· +1)
def LU (ids:List Nat)(h:List Ob):List Ob:=ids.map λi=>uV (Oy ids) (aq h i)
def jT (st:St)(caps:List SV):List Nat:=reach st.h 64 (caps.flatMap (fH 3)) []
def YB (lc:apB)(n0:Nat)(e:Ex)(st:St):Prop:= ∃ r js,lc.post r/\lc.ex r=e/\n0<=(lc.out r).h.length/\Sub js n0 st (lc.out r)
theorem YC {F:Nat->Prop}{own:Own}{st:St}{a:Act}{w:World}(E:Y1 F w0 N own st a w)(x:Operand):Rel F own w (raw st.t x) (a.eval x):=by
 cases x with
 |tmp t=>exact E.slots t|const v=>exact .v v
 |func f=>exact .fn rfl rfl (λj s h=>by simp at h) (λj s h=>by simp at h)
 |global g=>exact .any _
theorem LV (O:P.follows .mixedOrders=true)(hts:ts.ok P)(hG:aoI P G){id:Nat}{g:Operand}{ps:Array Tmp}{assign body:Code}{C:St->Option apB}
  (hpn:ps.toList.Nodup) (hpN:∀ p∈ps.toList,p<N) (hca:cV N assign=true) (hcb:cV N body=true)
  (h:∀ st lc,C st=some lc->lc.pre->∃ (f:FuncId) (caps:List SV) (items:List (List SV)) (σ:Type) (T:List (Nat×SV)) (Hx:σ->List Ob) (I:Nat->σ->Prop) (S:Ex->σ->Prop) (x0:σ) (js:List Nat),
   raw st.t g=.fn f [] caps/\I 0 x0/\st.h.length<=(Hx x0).length/\Sub js st.h.length ⟨st.t,sD (jT st caps) st.h⟩ ⟨T,Hx x0⟩/\
   zS P f (λy=>y::caps.map (ren (Oy (jT st caps)) 3)) (LU (jT st caps) st.h) items/\
   (∀ k y args,items[k]? =some args->I k y->args.length=ps.size/\∃ L Qx,(∀ l,ak P (some l) N L assign)/\(∀ l,ak P (some l) N L body)/\(∀ e st',Qx e st'->itQ T Hx I S st.h.length k e st')/\exec ts G L assign ⟨psT ps.toList args++T,Hx y⟩ (λe st1=>e=.normal/\exec ts G L body st1 Qx))/\
   (∀ y,I items.length y->YB lc st.h.length .normal ⟨T,Hx y⟩)/\(∀ y,S .ret y->YB lc st.h.length .ret ⟨T,Hx y⟩)/\
   ∀ j y,S (.exit j) y->YB lc st.h.length (if j=id then .normal else .exit j) ⟨T,Hx y⟩):kZ P none N id (.rangeFunc g ps assign body) C:=by
 intro nd F w0 st lc hC hpre own a w V;obtain⟨f,caps,items,σ,T,Hx,I,S,x0,js,hg,hI0,hle0,hsub0,hit,aqH,hN,hRet,hEx⟩:=h st lc hC hpre;have apR:=YC V g;rw[hg]at apR;generalize hev:a.eval g=gv at apR;cases apR with
 | @fn _ _ _ us lb Y e2 e3 e4=>
  have hus:us= #[]:=by
   grind
  subst hus;have hcaps:api F own w caps lb:=⟨e2,e4⟩;have aqb:∀ i∈jT st caps,∃ hd,own i=some hd:=xw V.hp 64 _ [] (λi hi=>by
   obtain⟨x,hx,hxi⟩:=ans.1 hi;obtain⟨j,hj⟩:=ame hx;exact Jz 3 x _ (hcaps.2 j x hj) i hxi) (λi hi=>by cases hi)
  have hnd:(jT st caps).Nodup:=qF st.h 64 _ [] amW;generalize hidsE:jT st caps=ids at aqb hnd hsub0 hit;refine wpIn_block (wpIn_rangeFunc λfn _=>?_);let rc:aqF:=⟨w.heap.size+1,fn,a.tmps,ps,assign,body,w.heap.size⟩
  let yv:Value:=.func (.yield (w.heap.size+1)) #[] #[]
  obtain⟨W,hW1⟩:∃ W,(w.alloc (.deferred (some []))).alloc (rc.obj .ready none)=W:=⟨_,rfl⟩;have hsz1:W.heap.size=w.heap.size+2:=by grind [NM]
  have hold:∀ b,b<w.heap.size->W.heap[b]? =w.heap[b]?:=λb hb=>by
   grind [qA]
  have hl1:W.heap[w.heap.size+1]? =some (rc.obj .ready none):=by
   rw[<-hW1];have:=kC (w.alloc (.deferred (some []))) (rc.obj .ready none);simp_all
  have hD1:W.heap[w.heap.size]? =some (.deferred (some [])):=by
   rw[<-hW1,qA _ _ _ (by simp_all)];exact kC w _
  refine⟨w.heap.size+1,[{ target:=.collected w.heap.size,args:= #[]}],W,{ target:=.fn (.func f) lb,args:= #[yv]},W,f,#[yv]++lb,W,?_,?_,λ_ _=>trivial,?_,λh=>(by cases h),?_⟩;rw[<-hW1];exact run_enterLoop_outer _ _ _ _ _;simp only[resolve,hev];simp[go_sem,yv];simp[invoke,go_sem,hit.1];let own_s:Own:=λi=>if i∈ids then(own i).map (λhd=>{ hd with bs:=[]})else own i
  let F1:Nat->Prop:=λb=>F b\/b=w.heap.size\/b=w.heap.size+1\/∃ i hd,i∈ids/\own i=some hd/\b∈hd.bs
  have hs1:∀ i hd,own_s i=some hd->∃ hd0,own i=some hd0/\hd0.like hd/\∀ b∈hd.bs,i ∉ ids/\hd=hd0:=λi hd e=>by
   by_cases hi:i∈ids
   simp only[own_s,if_pos hi,amI]at e;obtain⟨hd0,Y,rfl⟩:=e;exact⟨hd0,Y,⟨rfl,rfl,rfl⟩,λb hb=>by cases hb⟩;simp only[own_s,if_neg hi]at e;exact⟨hd,e,.refl _,λb _=>⟨hi,rfl⟩⟩
  have hs2:∀ i hd,own i=some hd->∃ hd',own_s i=some hd'/\hd.like hd':=λi hd e=>by
   grind
  have hcar1:apk F own w F1 own_s W:=⟨hs2,λb hb hn=>⟨by
   rintro ((hf|hf|hf| ⟨i,hd,_,e,O⟩) | ⟨i,hd,e,O⟩);exact hn (.inl hf);omega;omega;exact hn (.inr ⟨i,hd,e,O⟩);obtain⟨hd0,e0,_,Y⟩:=hs1 i hd e;obtain⟨_,rfl⟩:=Y b O;exact hn (.inr ⟨i,hd,e0,O⟩),hold b hb⟩⟩
  have hp1:Hp F1 own_s W (sD ids st.h):=by
   refine⟨λi hd e=>?_,λb hb=>?_,λi hd b e O hb=>?_,λi j hi hj b Y e2 h1 h2=>?_,λi hd b e O=>?_,λi U=>?_⟩;obtain⟨hd0,e0,_⟩:=hs1 i hd e;exact alG (V.hp.dom i hd0 e0) (yW _ _);rcases hb with hf|hf|hf| ⟨i,hd,_,e,O⟩;have:=V.hp.aoY b hf;omega;omega;omega;have:=V.hp.lt i hd b e O;omega;obtain⟨hd0,e0,_,Y⟩:=hs1 i hd e;obtain⟨hni,rfl⟩:=Y b O;have hlt:=V.hp.lt i hd b e0 O;rcases hb with hf|hf|hf| ⟨i2,X,h1,h2,h3⟩;exact V.hp.apart i hd b e0 O hf;omega;omega;exact hni (V.hp.inj i i2 hd X b e0 h2 O h3▸h1);obtain⟨hd1,k1,_,k2⟩:=hs1 i hi Y;obtain⟨X,k3,_,k4⟩:=hs1 j hj e2;obtain⟨_,rfl⟩:=k2 b h1;obtain⟨_,rfl⟩:=k4 b h2;exact V.hp.inj i j hi hj b k1 k3 h1 h2;obtain⟨hd0,e0,_,Y⟩:=hs1 i hd e;obtain⟨_,rfl⟩:=Y b O;have:=V.hp.lt i hd b e0 O;omega;rw[Ii st.h i ids st.h]at U |-;by_cases hi:i∈ids
   rw[if_pos hi]at U;cases U;rw[if_neg hi]at U |-;obtain⟨hd,Y,e2⟩:=V.hp.obs i U;exact⟨hd,by grind,e2.carry hcar1 (by omega) λb O=>hold b (V.hp.lt i hd b Y O)⟩
  obtain⟨q1,q2,q3,q4⟩:=Oo hsub0 hp1 hle0;change Hp F1 (iS js (Hx x0) own_s) W (Hx x0)at q1;generalize hown0:iS js (Hx x0) own_s=own_0 at q1 q2 q3 q4;have h0s:∀ i hd b,own_0 i=some hd->b∈hd.bs->∃ j,j ∉ ids/\own j=some hd:=λi hd b e O=>by
   rw[<-hown0]at e;obtain⟨_,j,hd0,_,e2,_,e4⟩:=jp e;grind
  have hslot1:∀ t,Rel F1 own_0 W (lk t T) (a.tmps.getD t undef):=λt=>by
   rcases Do t _ hsub0.2.1 with e| ⟨Y,e2⟩;rw[e];exact .any _;have h1:=(V.slots t).carry hcar1;grind
  let bs0:List Nat:=(w.heap.size+1)::YA own_0 (Hx x0).length
  have hbs0:∀ b,b∈bs0↔b=w.heap.size+1\/∃ i hd,own_0 i=some hd/\b∈hd.bs:=λb=>by
   show b∈_::_↔_;rw[alD,EF q1.dom]
  let Ff:Nat->Prop:=λb=>F b\/b=w.heap.size
  let own_f:Own:=λi=>match i with|0=>some ⟨none,yv,[],bs0⟩ |i+1=>(ids[i]?).bind own
  have hf1:∀ i hd,own_f (i+1)=some hd->∃ j,ids[i]? =some j/\own j=some hd:=λi hd e=>by
   grind
  have hffo:∀ b,df Ff own_f b->(F b\/b=w.heap.size\/b=w.heap.size+1)\/∃ i hd,own i=some hd/\b∈hd.bs:=by
   rintro b ((hf|hf) | ⟨i,hd,e,O⟩) <;>grind
  let Fs:Nat->Prop:=λb=>F b\/b=w.heap.size\/b=w.heap.size+1
  have hcar0:apk F own w Fs own W:=⟨λ_ hd e=>⟨hd,e,.refl _⟩,λb hb hn=>⟨by
   rintro ((hf|hf|hf) |ho);exact hn (.inl hf);omega;omega;exact hn (.inr ho),hold b hb⟩⟩
  have hrn:Rn (Oy ids) own own_f:=⟨λi j hd O e=>by
   unfold Oy at O;rw[amI]at O;obtain⟨k,hk,rfl⟩:=O;refine⟨hd,?_,.refl _⟩;show(ids[k]?).bind own=some hd;rw[py ids i k hk];exact e⟩
  have hsh:∀ b,¬df Fs own b->¬df Ff own_f b:=λb hn ho=>hn (hffo b ho);let F':Nat->Prop:=λb=>df Ff own_f b/\b ∉ bs0
  have hF'1:∀ b,Fw F' rc.l W b->F1 b:=by
   rintro b (⟨⟨ho,hn⟩,_⟩ |hb);rcases ho with(hf|hf) | ⟨i,hd,e,O⟩ <;>grind;grind
  have hcarP:apk F1 own_0 W (Fw F' rc.l W) own_0 W:=⟨λ_ hd e=>⟨hd,e,.refl _⟩,λb _ hn=>⟨λho=>hn (ho.imp (hF'1 b) (λe=>e)),rfl⟩⟩;have hpk:Pack rc T own st.h.length (Hx x0) (rc.obj .ready none) own_0 F' bs0 W:=by
   refine⟨⟨q1.dom,λb hb=>q1.aoY b (hF'1 b hb),λi hd b e O hb=>q1.apart i hd b e O (hF'1 b hb),q1.inj,q1.lt,λi U=>?_⟩,λt=>(hslot1 t).carry hcarP,hbs0,λi hd e=>?_,λhf=>hf.2 ((hbs0 _).2 (.inl rfl)),hl1,hle0⟩;obtain⟨hd,Y,e2⟩:=q1.obs i U;exact⟨hd,Y,e2.carry hcarP (alw _) λ_ _=>rfl⟩;obtain⟨hd1,k1,l1⟩:=hs2 i hd e;obtain⟨X,k2,l2⟩:=q4 i hd1 (V.hp.dom i hd e) k1;exact⟨X,k2,l1.trans l2⟩
  have hpf:Hp Ff own_f W (.ab (itR rc T own st.h.length Hx I S 1)::LU ids st.h):=by
   refine⟨λi hd e=>?_,λb hb=>?_,λi hd b e O hb=>?_,λi j hi hj b Y e2 h1 h2=>?_,λi hd b e O=>?_,λi U=>?_⟩;grind [LU]
   rcases hb with hf|hf;have:=V.hp.aoY b hf;omega;omega;have hnot:∀ i hd,own i=some hd->b∈hd.bs->False:=λi hd e O=>by
    rcases hb with hf|hf;exact V.hp.apart i hd b e O hf;have:=V.hp.lt i hd b e O;omega
   cases i with
   |zero=>
    cases e;rcases(hbs0 b).1 O with h| ⟨i,hd,e,O⟩;rcases hb with hf|hf;have:=V.hp.aoY b hf;omega;omega;grind
   |succ i=>grind
   have hmix:∀ i hd,own_f (i+1)=some hd->b∈hd.bs->b∈bs0->False:=λi hd e O h0=>by
    obtain⟨j,k1,k2⟩:=hf1 i hd e;rcases(hbs0 b).1 h0 with h| ⟨i2,X,e2,hm2⟩;have:=V.hp.lt j hd b k2 O;omega;obtain⟨j2,k3,k4⟩:=h0s i2 X b e2 hm2;exact k3 (V.hp.inj j2 j X hd b k4 k2 hm2 O▸alH k1)
   cases i with
   |zero=>
    grind
   |succ i=>
    cases j with
    |zero=>grind
    |succ j=>
     obtain⟨k,k1,k2⟩:=hf1 i hi Y;obtain⟨k',k3,k4⟩:=hf1 j hj e2;have:=V.hp.inj k k' hi hj b k2 k4 h1 h2;grind [rY]
   rcases hffo b (.inr ⟨i,hd,e,O⟩)with(h|h|h) | ⟨j,X,k,hm2⟩;have:=V.hp.aoY b h;omega;omega;omega;have:=V.hp.lt j X b k hm2;omega;cases i with
   |zero=>exact⟨_,rfl,rfl,x0,own_0,hI0,hpk⟩
   |succ i=>
    have hob:aq (.ab (itR rc T own st.h.length Hx I S 1)::LU ids st.h) (i+1)=aq (LU ids st.h) i:=rfl;rw[hob]at U |-;rw[uY]at U |-;unfold LU at U |-;rw[aml]at U |-;cases hi:ids[i]? with
    |none=>grind [dI]
    |some j=>
     rw[hi]at U;simp only[amK,anK]at U |-;rw[u7]at U;obtain⟨hd,Y,e2⟩:=V.hp.obs j U;refine⟨hd,by grind,?_⟩;have e3:aps Fs own W hd (aq st.h j):=e2.carry hcar0 (by omega) λb O=>hold b (V.hp.lt j hd b Y O);refine Eh hrn hsh (λb _ ho=>?_) e3;grind
  have hvs:api Ff own_f W (.os 0::caps.map (ren (Oy ids) 3)) (#[yv]++lb):=by
   refine⟨by grind,λj s hj=>?_⟩;cases j with
   |zero=>
    simp at hj;subst hj;have:(#[yv]++lb).getD 0 undef=yv:=by simp only[alW];rw[alS (by simp)];rfl
    rw[this];exact Rel.os (hd:=⟨none,yv,[],bs0⟩) rfl rfl
   |succ j=>
    simp only[anD]at hj;obtain⟨s0,k1,rfl⟩:=ou hj;have:(#[yv]++lb).getD (j+1) undef=lb.getD j undef:=by
     simp only[alW];rw[amR (by simp)];simp
    rw[this];exact Dl hrn hsh 3 s0 _ ((e4 j s0 k1).carry hcar0)
  refine CallsIn.mono (ov (hit.2 (itR rc T own st.h.length Hx I S) (λk=>(aa2 k).1) (acS O hts hG V.size (λi hd e=>V.hp.dom i hd e) hpn hpN hca hcb aqH) Ff own_f W _ hpf hvs)) ?_;rintro e w3 ⟨u,bo,j,h',rfl,hj,hp3,fr3⟩;obtain⟨hd0,e0,hv0,hR⟩:=hp3.obs 0 rfl;have hl3:∀ {y E o},Pack rc T own st.h.length (Hx y) o E (λb=>df Ff bo b/\b ∉ hd0.bs) hd0.bs w3->w3.heap[w.heap.size+1]? =some o:=λpk=>pk.rcd;have fin:∀ y E s p,Pack rc T own st.h.length (Hx y) (rc.obj s p) E (λb=>df Ff bo b/\b ∉ hd0.bs) hd0.bs w3->
    Y1 Fs w0 N E ⟨T,Hx y⟩ { a with defers:=[{ target:=.collected w.heap.size,args:= #[]}]++a.defers} (w3.putObj (w.heap.size+1) (rc.obj .exhausted p)):=by
   intro y E s p pk;have hsz3:=fr3.size;have hsz3':W.heap.size<=w3.heap.size:=hsz3;have hl3s:w.heap.size+1<w3.heap.size:=by omega
   have hoth:∀ c,c≠w.heap.size+1->(w3.putObj (w.heap.size+1) (rc.obj .exhausted p)).heap[c]? =w3.heap[c]?:=λc hc=>World.putObj_heap_other hc;have hownE:∀ i hd b,E i=some hd->b∈hd.bs->b∈hd0.bs/\b≠w.heap.size+1:=λi hd b e O=>⟨(pk.bs b).2 (.inr ⟨i,hd,e,O⟩),λe'=>pk.hp.apart i hd b e O (.inr e')⟩;have hnF:∀ b,b∈hd0.bs->¬Ff b:=λb hb hf=>hp3.apart 0 hd0 b e0 hb hf;have hFsFw:∀ b,Fs b->Fw (λb=>df Ff bo b/\b ∉ hd0.bs) rc.l w3 b:=λb hb=>by
    rcases hb with hf|hf|hf;exact .inl ⟨⟨.inl (.inl hf),λO=>hnF b O (.inl hf)⟩,hp3.aoY b (.inl hf)⟩;exact .inl ⟨⟨.inl (.inr hf),λO=>hnF b O (.inr hf)⟩,hp3.aoY b (.inr hf)⟩;exact .inr hf
   have hcarE:apk (Fw (λb=>df Ff bo b/\b ∉ hd0.bs) rc.l w3) E w3 Fs E (w3.putObj (w.heap.size+1) (rc.obj .exhausted p)):=⟨λ_ hd e=>⟨hd,e,.refl _⟩,λb _ hn=>⟨λho=>hn (ho.imp (hFsFw b) (λe=>e)),hoth b λe=>hn (.inl (.inr e))⟩⟩;have hkeep:∀ b,b<w.heap.size->(¬ ∃ i hd,own i=some hd/\b∈hd.bs)->w3.heap[b]? =w.heap[b]?:=λb hb hn=>by
    rw[fr3.block b ⟨by show b<W.heap.size;omega,λ⟨i,hd,e,O⟩ =>?_⟩];exact hold b hb;cases i with
    |zero=>
     cases e;rcases(hbs0 b).1 O with h| ⟨i,hd,e,O⟩;omega;obtain⟨j,_,k⟩:=h0s i hd b e O;exact hn ⟨j,hd,k,O⟩
    |succ i=>obtain⟨j,_,k⟩:=hf1 i hd e;exact hn ⟨j,hd,k,O⟩
   have hD3:w3.heap[w.heap.size]? =some (.deferred (some [])):=by
    rw[fr3.block w.heap.size ⟨by show w.heap.size<W.heap.size;omega,λ⟨i,hd,e,O⟩ =>hpf.apart i hd _ e O (.inr rfl)⟩];exact hD1
   refine⟨V.size,?_,⟨pk.hp.dom,λb hb=>?_,λi hd b e O hb=>pk.hp.apart i hd b e O (hFsFw b hb),pk.hp.inj,λi hd b e O=>by have:=pk.hp.lt i hd b e O;simpa using this,λi U=>?_⟩,V.fr.trans ⟨pk.ids,λi hd b e O ho=>?_,fr3.os.trans (by rw[<-hW1];rfl),fr3.tape.trans (by rw[<-hW1];rfl),fr3.output.trans (by rw[<-hW1];rfl),by simp;omega,λb hb=>?_⟩,λt=>(pk.slots t).carry hcarE⟩;obtain⟨ms,Ds,k0,k1,k2,k3⟩:=V.defers;refine⟨{ target:=.collected w.heap.size,args:= #[]}::ms,w.heap.size::Ds,by simp[k0],by simp[k1],al6.2 ⟨λO=>?_,k2⟩,λD hD=>?_⟩;have:=rG (k3 _ O).2.2;omega;rcases alD.1 hD with rfl|hD;exact⟨V.fr.size,.inr (.inl rfl),by rw[hoth _ (by omega)];exact hD3⟩;obtain⟨m1,m2,m3⟩:=k3 D hD;have hlt:=rG m3;exact⟨m1,.inl m2,by rw[hoth _ (by omega),hkeep D hlt λ⟨i,hd,e,O⟩ =>V.hp.apart i hd D e O m2];exact m3⟩;have:=pk.hp.aoY b (hFsFw b hb);simpa using this;obtain⟨hd,Y,e2⟩:=pk.hp.obs i U;exact⟨hd,Y,e2.carry hcarE (by simp) λb O=>hoth b (hownE i hd b Y O).2⟩;have h1:=fr3.base 0 hd0 b e0 (hownE i hd b e O).1;refine h1 ⟨by show b<W.heap.size;have:=ho.1;change b<w.heap.size at this;omega,λ⟨i2,X,e2,hm2⟩ =>?_⟩;cases i2 with
   |zero=>
    cases e2;rcases(hbs0 b).1 hm2 with h| ⟨i3,hd3,e3,hm3⟩;exact(hownE i hd b e O).2 h;obtain⟨j,_,k⟩:=h0s i3 hd3 b e3 hm3;exact ho.2 ⟨j,hd3,k,hm3⟩
   |succ i2=>obtain⟨j,_,k⟩:=hf1 i2 X e2;exact ho.2 ⟨j,X,k,hm2⟩
   have hblt:b<w.heap.size:=hb.1;rw[hoth b (by omega)];exact hkeep b hblt hb.2
  have fin2:∀ y E s p ex,Pack rc T own st.h.length (Hx y) (rc.obj s p) E (λb=>df Ff bo b/\b ∉ hd0.bs) hd0.bs w3->YB lc st.h.length ex ⟨T,Hx y⟩->
    ∃ F3 aq9 st3,(∀ b,F b->F3 b)/\Y1 F3 w0 N aq9 st3 { a with defers:=[{ target:=.collected w.heap.size,args:= #[]}]++a.defers} (w3.putObj (w.heap.size+1) (rc.obj .exhausted p))/\∃ r,lc.post r/\ex=lc.ex r/\st3=lc.out r:=by
   rintro y E s p ex pk ⟨r,js2,m1,m2,m3,m4⟩;exact⟨Fs,_,_,λb hb=>.inl hb,(fin y E s p pk).sub m4 V.apZ m3,r,m1,m2.symm,rfl⟩
  rcases hj with rfl|rfl;obtain⟨ex,y,E,hS,hjm,pk⟩:=hR;refine⟨Ox ex,_,run_endLoop (P:=P) (hl3 pk) (by simp[aqF.obj]),?_⟩;cases ex with
  |normal=>cases hjm|pan x=>cases hjm|ret=>exact wpIn_ret (fin2 y E _ _ .ret pk (hRet y hS))
  |exit jj=>
   refine wpIn_exit ?_;have h2:=fin2 y E _ _ _ pk (hEx jj y hS);show if jj=id then _ else _;by_cases hjj:jj=id
   rw[if_pos hjj]at h2 |-;exact h2;rw[if_neg hjj]at h2 |-;exact h2
  obtain⟨y,E,hIy,pk⟩:=hR;exact⟨none,_,run_endLoop (P:=P) (hl3 pk) (by simp[aqF.obj]),fin2 y E _ _ .normal pk (hN y hIy)⟩
end
def okI {ρ σ:Type}(step:Nat->σ->ρ⊕σ)(p:Nat->σ->Prop):Nat->Nat->σ->Prop
 |0,_,_=>True|n+1,i,s=>p i s/\∀ s',step i s=.inr s'->okI step p n (i+1) s'
def ic {ρ σ:Type}{step:Nat->σ->ρ⊕σ}{p:Nat->σ->Prop}:∀ (n i:Nat) (s:σ),(∀ j s,i<=j->j<i+n->p j s)->okI step p n i s
 |0,_,_,_=>trivial
 |n+1,i,s,h=>⟨h i s (alw _) (by omega),λs' _=>ic n (i+1) s' λj s h1 h2=>h j s (by omega) (by omega)⟩
def kh {ρ σ:Type}{step:Nat->σ->ρ⊕σ}{p:Nat->σ->Prop}(J:Nat->σ->Prop):∀ (n i:Nat) (s:σ),J i s->(∀ j s,i<=j->j<i+n->J j s->p j s/\∀ s',step j s=.inr s'->J (j+1) s')->okI step p n i s
 |0,_,_,_,_=>trivial
 |n+1,i,s,h0,h=>⟨(h i s (alw _) (by omega) h0).1,λs' E=>kh J n (i+1) s' ((h i s (alw _) (by omega) h0).2 s' E) λj s h1 h2=>h j s (by omega) (by omega)⟩
def wL {ρ σ:Type}{step:Nat->σ->ρ⊕σ}(J:Nat->σ->Prop):∀ (n i:Nat) (s:σ),J i s->(∀ j s,i<=j->j<i+n->J j s->∀ s',step j s=.inr s'->J (j+1) s')->∀ r,aj step n i s=.inr r->J (i+n) r
 |0,i,s,h0,_,r,hr=>by grind [aj]
 |n+1,i,s,h0,h,r,hr=>by
  simp only[aj]at hr;cases E:step i s with
  |inl x=>grind
  |inr s'=>
   rw[E]at hr;have:=wL J n (i+1) s' (h i s (alw _) (by omega) h0 s' E) (λj s h1 h2=>h j s (by omega) (by omega)) r hr;grind
section
variable {P:Program}{ρ σ:Type}
def Qe (D:Nat->σ->St)(js:List Nat)(n0 k:Nat)(st:St):ρ⊕σ->Prop
 | .inl _=>False| .inr s'=>n0<=(D (k+1) s').h.length/\Sub js n0 st (D (k+1) s')
def exQ (exE:ρ->Ex)(W1:ρ->St)(js:List Nat)(n0:Nat)(e:Ex)(st:St):ρ⊕σ->Prop
 | .inl x=>exE x=e/\n0<=(W1 x).h.length/\Sub js n0 st (W1 x)| .inr _=>False
def cQ (step:Nat->σ->ρ⊕σ)(n:Nat)(exE:ρ->Ex)(W1:ρ->St)(ao0:σ->St)(D:Nat->σ->St)(js:List Nat)(n0 id k:Nat)(s:σ):Ex->St->Prop
 | .normal,st=>k<n/\Qe D js n0 k st (step k s)| .exit j,st=>bif Nat.beq j id then(n<=k->n0<=(ao0 s).h.length/\Sub js n0 st (ao0 s))/\(k<n->exQ exE W1 js n0 .normal st (step k s))else k<n/\exQ exE W1 js n0 (.exit j) st (step k s)| .ret,st=>k<n/\exQ exE W1 js n0 .ret st (step k s)| .pan x,st=>k<n/\exQ exE W1 js n0 (.pan x) st (step k s)
variable {step:Nat->σ->ρ⊕σ}{n n0 id k j:Nat}{exE:ρ->Ex}{W1:ρ->St}{ao0:σ->St}{D:Nat->σ->St}{js:List Nat}{s s':σ}{st:St}{x:Value}{e:Ex}{y:ρ}
@[go_sem] def afv:= @Qe.eq_2
@[go_sem] def ajF:= @exQ.eq_1
@[go_sem] def afw:= @cQ.eq_1
@[go_sem] def ajG:= @cQ.eq_2
@[go_sem] def akm:= @cQ.eq_3
@[go_sem] def akn:= @cQ.eq_4
variable {r r':ρ⊕σ}
@[congr] theorem aa3(h:r=r'):Qe D js n0 k st r=Qe D js n0 k st r':=by rw[h]
@[congr] theorem afx(h:r=r'):exQ exE W1 js n0 e st r=exQ exE W1 js n0 e st r':=by rw[h]
@[congr] theorem ahk {st st':St}{e e':Ex}(h:st=st')(he:e=e'):cQ step n exE W1 ao0 D js n0 id k s e st=cQ step n exE W1 ao0 D js n0 id k s e' st':=by rw[h,he]
theorem Ij {ts:Tis}{G:Cons}{ro:Option Nat}{N:Nat}(hm:P.follows .mixedOrders=true)(hts:ts.ok P)(hG:aoI P G){id:Nat}{c:Code}(hc:cV N c=true){C:St->Option apB}
  (h:∀ st Y,C st=some Y->Y.pre->∃ (ρ σ:Type) (pre:Prop) (step:Nat->σ->ρ⊕σ) (p:Nat->σ->Prop) (n:Nat) (s0:σ) (exE:ρ->Ex) (W1:ρ->St) (ao0:σ->St) (D:Nat->σ->St) (js:List Nat),
   Y=LC pre (aj step n 0 s0) exE W1 ao0/\okI step p n 0 s0/\st.h.length<=(D 0 s0).h.length/\Sub js st.h.length st (D 0 s0)/\
   ∀ k s,k<=n->(k<n->p k s)->∃ L,ak P ro N L c/\exec ts G L c (D k s) (cQ step n exE W1 ao0 D js st.h.length id k s)):kZ P ro N id (.loop c) C:=by
 refine wJ hm hts hG hc λst Y hC hp=>?_;obtain⟨ρ,σ,pre,step,p,n,s0,exE,W1,ao0,D,js,rfl,h1,h2,h3,h4⟩:=h st Y hC hp;refine⟨Nat×σ,λx=>D x.1 x.2,λx=>x.1<=n/\okI step p (n - x.1) x.1 x.2/\aj step (n - x.1) x.1 x.2=aj step n 0 s0,λx=>n - x.1,(0,s0),js,⟨al4 _,by omega,by simp⟩,h2,h3,?_⟩;rintro⟨k,s⟩ ⟨hk,hJ,E⟩;simp only at hk hJ E;obtain⟨L,hl,hex⟩:=h4 k s hk (λhlt=>by
  rw[show n - k=(n - k - 1)+1 by omega]at hJ;exact hJ.1)
 refine⟨L,_,hl,?_,hex⟩;have O:∀ e st',k<n->exQ exE W1 js st.h.length e st' (step k s)->∃ r js,(LC pre (aj step n 0 s0) exE W1 ao0).post r/\(LC pre (aj step n 0 s0) exE W1 ao0).ex r=e/\st.h.length<=((LC pre (aj step n 0 s0) exE W1 ao0).out r).h.length/\Sub js st.h.length st' ((LC pre (aj step n 0 s0) exE W1 ao0).out r):=by
  intro e st' hlt q;cases U:step k s with
  |inr s'=>rw[U]at q;exact q.elim
  |inl x=>
   rw[U]at q;obtain⟨V,q3,q4⟩:=q;rw[show n - k=(n - k - 1)+1 by omega]at E;simp only[aj,U]at E;exact⟨.inl x,js,E,V,q3,q4⟩
 intro e st' X;cases e with
 |normal=>
  obtain⟨q1,V⟩:=X;cases U:step k s with
  |inl x=>rw[U]at V;exact V.elim
  |inr s'=>
   rw[U]at V;rw[show n - k=(n - (k+1))+1 by omega]at E hJ;simp only[aj,U]at E;exact⟨(k+1,s'),js,⟨q1,hJ.2 s' U,E⟩,by grind,V.1,V.2⟩
 |exit j=>
  have W:(bif Nat.beq j id then(n<=k->st.h.length<=(ao0 s).h.length/\Sub js st.h.length st' (ao0 s))/\(k<n->exQ exE W1 js st.h.length .normal st' (step k s))else k<n/\exQ exE W1 js st.h.length (.exit j) st' (step k s)):=X;show bif Nat.beq j id then _ else _;cases hb:Nat.beq j id with
  |true=>
   rw[hb]at W;simp only[cond_true]at W |-;by_cases hlt:k<n
   grind
   obtain⟨q3,q4⟩:=W.1 (by omega);have hkn:k=n:=by omega
   subst hkn;simp only[anr,aj]at E;exact⟨.inr s,js,E,rfl,q3,q4⟩
  |false=>grind
 |ret=>exact O _ _ X.1 X.2|pan x=>exact O _ _ X.1 X.2
end
def cq {ρ σ:Type}[Inhabited σ]:ρ⊕σ->σ| .inr s=>s| .inl _=>default
def eo {ρ σ:Type}[Inhabited ρ]:ρ⊕σ->ρ| .inl s=>s| .inr _=>default
def UN {ρ σ:Type}[Inhabited σ]{s:σ}:cq (ρ:=ρ) (.inr s)=s:=(rfl)
def UO {ρ σ:Type}[Inhabited ρ]{s:ρ}:eo (σ:=σ) (.inl s)=s:=(rfl)
attribute[go_sem]UN UO
def Qf {k:Nat}{n:Int}(h:k<n.toNat)(E:n<9223372036854775808):i64.wrap ((k:Int)+1)=((k+1:Nat):Int):=by
 grind [az]
def xU (pks:List Pk):SV->SV
 | .tup l=>.tup (yI pks l)
 |s=>match pks with| [p] =>AO p s|_=>s
section
variable {F:Nat->Prop}{own:Own}{w:World}
theorem LW {pks:List Pk}{s:SV}{v:Value}(h:Rel F own w s v):Rel F own w (xU pks s) v:=by
 unfold xU;split
 cases h with
 |tup U h1=>
  refine .tup (by rw[EC];exact U) λj s V=>?_;obtain⟨s0,O,E| ⟨p,E⟩⟩:=ED _ _ _ _ V;subst E;exact h1 j _ O;subst E;exact EB (h1 j _ O)
 split
 exact EB h;exact h
@[go_sem] def ahl:= @xU.eq_1
variable {p:Pk}
def ahm{l:List SV}:xU [p] (.agg l)=AO p (.agg l):=(rfl)
def ako{x:Value}:xU [p] (.v x)=AO p (.v x):=(rfl)
def ajH{k:Tag}{l:List k.T}:xU [p] (.rs k l)=AO p (.rs k l):=(rfl)
def ajI{k k2:Tag}{l:List (k.T×k2.T)}:xU [p] (.rm k k2 l)=AO p (.rm k k2 l):=(rfl)
def ajJ:xU [p] .e0=AO p .e0:=(rfl)
attribute[go_sem]ahm ako ajH ajI ajJ
end
section
variable {P:Program}{ts:Tis}{G:Cons}
theorem A8 (pks:List Pk) (hm:P.follows .mixedOrders=true) (hts:ts.ok P) (hG:aoI P G) {f:FuncId} {fn:Func} {c:Code} (hf:P.funcs[f]? =some fn) (hb:fn.body=some c) (X:(fn.name== "runtime.NumGoroutine")=false)
  (hc:cV fn.ntmps c=true) {C:List SV->Option Con}
  (h:∀ l O,C l=some O->an O->l.length<=fn.ntmps/\∃ L,ak P none fn.ntmps L c/\exec ts G L c ⟨nV 0 l,[]⟩ (DX false fn.results.toList ts (λs=>dW O (xU pks s)) (kY O))):B1 P f C:=by
 refine⟨λl O _ args w=>?_,λl O aqs hpre F w vs hF hvs=>?_⟩;have hn:¬fn.name= "runtime.NumGoroutine":=by simpa using X
 simp[callFunc,hf,hn,hb];obtain⟨hlen,L,hl,hx⟩:=h l O aqs hpre;refine sA (n:=0) (callsIn_of_wp_marks hf hb trivial ?_);have hr:Y1 F { w:=w,own:=dB} fn.ntmps dB ⟨nV 0 l,[]⟩ { tmps:=vs++Array.replicate (fn.ntmps - vs.size) undef,defers:=[]} w:=
  ⟨by have:=hvs.1;simp;omega,Dfr.nil,zR hF,Fr.refl _,λt=>qI hvs _ t⟩
 refine wpIn_mono (rJ hm hts hG c hc hl F _ _ hx dB _ w hr) ?_;intro e a' w' hq;have key:∀ W own st,(∀ b,F b->W b)->Y1 W { w:=w,own:=dB} fn.ntmps own st a' w'->iR (λs=>dW O (xU pks s)) (DU false fn.results.toList ts st)->LeavesInM (rd none) 0 P fn a'.tmps
   (λe w'=>(∃ s u bo,dW O s/\e=.returned u/\Handed F w bo w' s u/\Below w.heap.size w w')\/(∃ x,kY O x/\e=.panicked [{ v:=x,recovered:=false}]/\Below w.heap.size w w')) a'.defers .returning w':=by
  intro W own st hF1 hst E;refine mW hst (by simp) λw2 V=>?_;have U:=V.less hF1 rfl;simp only[DU,cond_false,DT]at E;cases hs:th (re ts st fn.results.toList)with
  |none=>rw[hs]at E;exact E.elim
  |some s=>
   obtain⟨u,e1,e2⟩:=zQ (P:=P) hts U hs;refine⟨u,e1,.inl ?_⟩;rw[hs]at E;exact⟨_,u,dB,E,rfl,wI U.hp.aoY (LW (zN U.hp 4 s u e2)),qH U.fr⟩
 cases e with
 |normal=>obtain⟨W,own,st,Y,h1,h2⟩:=hq;exact key W own st Y h1 h2
 |ret=>obtain⟨W,own,st,Y,h1,h2⟩:=hq;exact key W own st Y h1 h2
 |exit id=>obtain⟨W,own,st,Y,h1,h2⟩:=hq;exact h2.elim
 |panic ch=>
  obtain⟨x,W,own,st,Y,h1,h2,rfl⟩:=hq;exact mW h1 (by simp) λw2 V=>.inr ⟨x,h2,rfl,qH V.fr⟩
 |_=>exact hq.elim
end
def yX {o:Ob}(E:PE o=false):∀ (h:List Ob) (i:Nat),oo h=false->oo (cF h i o)=false
 | [],0,_=>by simp[cF,oo,E]
 | [],n+1,_=>by simp[cF,oo,PE,yX E [] n rfl]
 |a::r,0,h=>by grind [oo,cF]
 |a::r,n+1,h=>by simp only[oo,al1]at h;simp[cF,oo,h.1,yX E r n h.2]
def aa4 (P:Program)(g:FuncId)(C:Value->Option SV):Prop:=
 (∀ (args:Array Value) (w:World),(callFunc g args).run P w=.ok (.enter g args) w)/\
 (∀ (p:Addr) (w:World),CallsDIn (rd none) 0 P g #[.pointer (some p)] .returning w (λe u' w'=>(∃ v,e=.returned v)/\u'=.returning/\w'=w))/\
 ∀ (x:Value) (s:SV),C x=some s->∀ (F:Nat->Prop) (own:Own) (w:World) (h:List Ob) (id:Nat) (hd:Hd) (b:Nat) (y:SV),oo h=false->Hp F own w h->aq h id=.cells [y]->own id=some hd->hd.p=some b->
  CallsDIn (rd none) 0 P g #[.pointer (some ⟨b,0,none⟩)] (.panicking [{ v:=x,recovered:=false}]) w (λe u' w'=>(∃ v,e=.returned v)/\u'=.panicking [{ v:=x,recovered:=true}]/\∃ bo,Hp F bo w' (cF h id (.cells [s]))/\Fr { w:=w,own:=own} bo w')
section
variable {P:Program}{ts:Tis}{G:Cons}
theorem JN {n:Nat}{g:FuncId}{i1 t3 q:Nat}{o1 o2:Oper}{tys:Array TypeId}{Q:Exit->Act->World->Prop}{a:Act}{w:World}{b:Nat}
  (ho1:o1.dst=some t3/\o1.op=.makeFunc (.func g) #[] #[.tmp q]/\o1.guard=none) (Y:o2.dst=none/\o2.op=.defer ⟨.value (.tmp t3),#[],tys⟩/\o2.guard=none)
  (hq:a.tmps.getD q undef=.pointer (some ⟨b,0,none⟩)) (ht3:t3<a.tmps.size)
  (h:Q .normal { tmps:=a.tmps.setIfInBounds t3 (.func (.func g) #[] #[.pointer (some ⟨b,0,none⟩)]),defers:= { target:=.fn (.func g) #[.pointer (some ⟨b,0,none⟩)],args:= #[]}::a.defers} w):
  (Code.region i1 #[o1,o2] false).wpIn (rd none) n P Q a w:=by
 obtain⟨d1,p1,V,s1,U,g1⟩:=o1;obtain⟨d2,p2,t2,W,E,g2⟩:=o2;obtain⟨rfl,rfl,rfl⟩:=ho1;obtain⟨rfl,rfl,rfl⟩:=Y;refine wpIn_region ?_;have O:(a.tmps.setIfInBounds t3 (.func (.func g) #[] #[.pointer (some ⟨b,0,none⟩)])).getD t3 undef=.func (.func g) #[] #[.pointer (some ⟨b,0,none⟩)]:=by
  simp_all
 have X:List.range (#[(⟨some t3,.makeFunc (.func g) #[] #[.tmp q],V,s1,U,none⟩:Oper),(⟨none,.defer ⟨.value (.tmp t3),#[],tys⟩,t2,W,E,none⟩:Oper)]:Array Oper).size=[0,1]:=rfl;rw[X];simp only[wpOpsIn,Oper.wpIn,Region.wanted];have e1:(#[(⟨some t3,.makeFunc (.func g) #[] #[.tmp q],V,s1,U,none⟩:Oper),(⟨none,.defer ⟨.value (.tmp t3),#[],tys⟩,t2,W,E,none⟩:Oper)]:Array Oper)[0]? =some ⟨some t3,.makeFunc (.func g) #[] #[.tmp q],V,s1,U,none⟩:=rfl;have e2:(#[(⟨some t3,.makeFunc (.func g) #[] #[.tmp q],V,s1,U,none⟩:Oper),(⟨none,.defer ⟨.value (.tmp t3),#[],tys⟩,t2,W,E,none⟩:Oper)]:Array Oper)[1]? =some ⟨none,.defer ⟨.value (.tmp t3),#[],tys⟩,t2,W,E,none⟩:=rfl;rw[e1,e2];simp only[if_true];refine⟨λ_ _=>trivial,?_⟩;have r1:((⟨some t3,.makeFunc (.func g) #[] #[.tmp q],V,s1,U,none⟩:Oper).semAt (rd none).round a.eval).run P w=.ok (.value (.func (.func g) #[] #[.pointer (some ⟨b,0,none⟩)])) w:=by
  simp[Oper.semAt,execOp,go_sem,Act.eval,hq];try rfl
 rw[r1];simp only[Oper.uponIn_value];refine⟨λ_ _=>trivial,?_⟩;have r2:((⟨none,.defer ⟨.value (.tmp t3),#[],tys⟩,t2,W,E,none⟩:Oper).semAt (rd none).round (a.put (some t3) (.func (.func g) #[] #[.pointer (some ⟨b,0,none⟩)])).eval).run P w=.ok (.defer { target:=.fn (.func g) #[.pointer (some ⟨b,0,none⟩)],args:= #[]}) w:=by
  simp[Oper.semAt,execOp,go_sem,Act.eval,Act.put,O];try rfl
 rw[r2];simp only[Oper.uponIn_defer];exact h
theorem Oz {F:Nat->Prop}{w0:Bs}{ro:Option Nat}{nd N:Nat}(hm:P.follows .mixedOrders=true)(W:ts.ok P)(hG:aoI P G){id:Nat}{ops:Array Oper}(hc:cV N (.region id ops false)=true){st:St}{Q:St->Prop}{L:vP}(hx:exec ts G L (.region id ops false) st (λe st=>e=.normal/\Q st))
  {own:Own} {a:Act} {w:World} (hr:Y1 F w0 N own st a w):(Code.region id ops false).wpIn (rd ro) nd P (λe a w=>e=.normal/\∃ own st,Y1 F w0 N own st a w/\Q st) a w:=by
 have E:DS (Cc ts G ops false st) (λe st=>e=.normal/\Q st) (L (id+2000000) st):=hx;have key:∀ Q:Ex->St->Prop,(∀ x st,¬Q (.pan x) st)->Cc ts G ops false st Q->(Code.region id ops false).wpIn (rd ro) nd P (λe a w=>e=.normal/\∃ own st,Y1 F w0 N own st a w/\Q .normal st) a w:=by
  intro Q V E;simp only[cV,alt]at hc;obtain⟨h1,h2⟩:=hc;have U:=Uc h1;obtain⟨l⟩:=ops;have E:jo ts G l l st (λst'=>Q .normal (wx l st')) (λx st'=>Q (.pan x) st'):=E;refine wpIn_region_list ?_;exact N9 (K:=λst'=>Q .normal (wx l st')) (Z:=λx st'=>Q (.pan x) st') W hG U (λx own st a w h1 h2=>(V x _ h2).elim) l 0 own st a w rfl (hr.start l λk Y=>by omega) E λown st a w hi Y=>⟨rfl,own,_,Y1.finish hi,Y⟩
 cases O:L (id+2000000) st with
 |none=>
  rw[O]at E;refine wpIn_mono (key (λe st=>e=.normal/\Q st) (λx st h=>(by cases h.1)) E) λe a w ⟨h1,own,st,h2,X⟩ =>⟨h1,own,st,h2,X.2⟩
 |some lc=>
  rw[O]at E;refine wpIn_mono (key (agc lc λe st=>e=.normal/\Q st) (λx st h=>(by have h:Ex.pan x=.normal/\Q st:=h;cases h.1)) E.1) λe a w ⟨h1,own,st,h2,r,X,h4,h5⟩ =>⟨h1,own,_,h2.aqd h4 h5,(E.2 r X).2⟩
def UP:Ob->Prop
 | .cells [_] =>True|_=>False
theorem UQ {o:Ob}(h:UP o):∃ y,o=.cells [y]:=by
 unfold UP at h;grind
def acT (rs:List ResultVar)(ts:Tis)(post:SV->Prop)(id:Nat)(st:St):Option SV->Prop
 |some s=>UP (aq st.h id)/\oo st.h=false/\iR post (DT rs ts ⟨st.t,cF st.h id (.cells [s])⟩)|none=>False
def YD (C:Value->Option SV)(rs:List ResultVar)(ts:Tis)(post:SV->Prop)(id:Nat):Ex->St->Prop
 | .exit _,_=>False| .normal,st=>iR post (DT rs ts st)| .ret,st=>iR post (DT rs ts st)| .pan x,st=>acT rs ts post id st (C x)
@[go_sem] def acU:= @UP.eq_1
@[go_sem] def afy:= @acT.eq_1
section
variable {C:Value->Option SV}{rs:List ResultVar}{ts:Tis}{post:SV->Prop}{id:Nat}{st:St}{x:Value}
@[go_sem] def aa5:= @YD.eq_2
@[go_sem] def ahn:= @YD.eq_3
@[go_sem] def aho:= @YD.eq_4
end
def Sv:Code->Code| .seq a _=>a|c=>c
def OA:Code->Code| .seq _ b=>b|c=>c
def ast:Code->Nat| .region i _ _=>i|_=>0
def ahp (i:Nat):Code->Oper| .region _ ops _=>ops.getD i default|_=>default
theorem acV {g:FuncId}{RC:Value->Option SV}(arf:aa4 P g RC)(pks:List Pk)(hm:P.follows .mixedOrders=true)(hts:ts.ok P)(hG:aoI P G){f:FuncId}{fn:Func}{c0 c1:Code}{i1 t3 q:Nat}{o1 o2:Oper}{tys:Array TypeId}
  (hf:P.funcs[f]? =some fn) (hb:fn.body=some (.seq c0 (.seq (.region i1 #[o1,o2] false) c1))) (hname:(fn.name== "runtime.NumGoroutine")=false)
  (ho1:o1.dst=some t3/\o1.op=.makeFunc (.func g) #[] #[.tmp q]/\o1.guard=none) (ho2:o2.dst=none/\o2.op=.defer ⟨.value (.tmp t3),#[],tys⟩/\o2.guard=none) (ht3:t3<fn.ntmps)
  (hc0:cV fn.ntmps c0=true) (hc1:cV fn.ntmps c1=true) {C:List SV->Option Con}
  (h:∀ l V,C l=some V->an V->l.length<=fn.ntmps/\∃ L L' id,ak P none fn.ntmps L c0/\ak P none fn.ntmps L' c1/\exec ts G L c0 ⟨nV 0 l,[]⟩ (λe st=>e=.normal/\lk q st.t=.ptr id 0/\UP (aq st.h id)/\
   exec ts G L' c1 ⟨(t3,.any)::st.t,st.h⟩ (YD RC fn.results.toList ts (λs=>dW V (xU pks s)) id))):B1 P f C:=by
 refine⟨λl V _ args w=>?_,λl V aqs hpre F w vs hF hvs=>?_⟩;simp_all [callFunc]
 ·obtain⟨hlen,L,L',id,hl,hl',hx⟩:=h l V aqs hpre;refine sA (n:=0) (callsIn_of_wp_marks hf hb trivial ?_);have hr:Y1 F { w:=w,own:=dB} fn.ntmps dB ⟨nV 0 l,[]⟩ { tmps:=vs++Array.replicate (fn.ntmps - vs.size) undef,defers:=[]} w:=
   ⟨by have:=hvs.1;simp;omega,Dfr.nil,zR hF,Fr.refl _,λt=>qI hvs _ t⟩
  refine wpIn_seq (wpIn_mono (rJ hm hts hG c0 hc0 hl F _ _ hx dB _ w hr) ?_);intro e a1 w1 hq;cases e with
  |normal=>
   obtain⟨F1,own1,st1,hF1,W,_,hlk,_,hx1⟩:=hq;have hsq:=W.slots q;rw[hlk]at hsq;generalize hv:a1.tmps.getD q undef=pv at hsq;cases hsq with
   | @ptr _ _ b hd ho hp=>
   show(Code.seq (.region i1 #[o1,o2] false) c1).wpIn (rd none) 0 P _ a1 w1;have hsz:=W.size;refine wpIn_seq (JN ho1 ho2 hv (by omega) ?_);show c1.wpIn (rd none) 0 P _ _ w1;obtain⟨ms,Ds,k0,k1,k2,k3⟩:=W.defers;have k0':a1.defers=ms:=by grind
   let d:Deferred:= { target:=.fn (.func g) #[.pointer (some ⟨b,0,none⟩)],args:= #[]}
   let B:Bs:= { w:=w1,own:=own1,ds:=d::a1.defers}
   have hr2:Y1 F1 B fn.ntmps own1 ⟨(t3,.any)::st1.t,st1.h⟩ { tmps:=a1.tmps.setIfInBounds t3 (.func (.func g) #[] #[.pointer (some ⟨b,0,none⟩)]),defers:=d::a1.defers} w1:=by
    refine⟨by grind,Dfr.nil,W.hp,Fr.refl B,λt=>?_⟩;rw[pw];by_cases ht:t3=t
    rw[if_pos ht];exact .any _;rw[if_neg ht];have:=W.slots t;simp_all
   have hbd:∀ D∈Ds,¬ ∃ id hd,own1 id=some hd/\D∈hd.bs:=λD hD ⟨i,hd,e,hm⟩ =>W.hp.apart i hd D e hm (k3 D hD).2.1;have fin:∀ Y P1 O (a2:Act) w2,(∀ b,F1 b->Y b)->Y1 Y B fn.ntmps P1 O a2 w2->iR (λs=>dW V (xU pks s)) (DT fn.results.toList ts O)->
     LeavesInM (rd none) 0 P fn a2.tmps (λe w'=>(∃ s u bo,dW V s/\e=.returned u/\Handed F w bo w' s u/\Below w.heap.size w w')\/(∃ x,kY V x/\e=.panicked [{ v:=x,recovered:=false}]/\Below w.heap.size w w')) a1.defers .returning w2:=by
    intro Y P1 O a2 w2 hF2 E U;have hB:Y1 Y { w:=w,own:=dB} fn.ntmps P1 O { a2 with defers:=[]} w2:=⟨E.size,Dfr.nil,E.hp,W.fr.trans ⟨E.fr.ids,E.fr.base,E.fr.os,E.fr.tape,E.fr.output,E.fr.size,E.fr.block⟩,E.slots⟩;have hkeep:∀ D∈Ds,w2.heap[D]? =some (.deferred (some [])):=λD hD=>by
     rw[E.fr.block D ⟨rG (k3 D hD).2.2,hbd D hD⟩];grind
    rw[k0',<-alT ms];refine A7 (by simp) Ds ms w2 k1 k2 hkeep λw4 hs=>?_;have hst4:=(hB.shut (Ds:=Ds) (λD hD=>⟨(k3 D hD).1,hF2 D (k3 D hD).2.1,hkeep D hD⟩) hs).less (λc hc=>hF2 c (hF1 c hc)) rfl;simp only[DT]at U;cases hres:th (re ts O fn.results.toList)with
    |none=>rw[hres]at U;exact U.elim
    |some s=>
     obtain⟨u,e1,e2⟩:=zQ (P:=P) hts hst4 hres;rw[hres]at U;exact⟨u,e1,.inl ⟨_,u,dB,U,rfl,wI hst4.hp.aoY (LW (zN hst4.hp 4 s u e2)),qH hst4.fr⟩⟩
   have hinv:∀ w2:World,(invoke (.fn (.func g) #[.pointer (some ⟨b,0,none⟩)]) #[]).run P w2=.ok (.enter g #[.pointer (some ⟨b,0,none⟩)]) w2:=λw2=>by simp[invoke,go_sem,arf.1]
   refine wpIn_mono (rJ hm hts hG c1 hc1 hl' F1 _ _ hx1 own1 _ w1 hr2) ?_;have idle:∀ (a':Act) (w':World) Y P1 O,(∀ b,F1 b->Y b)->Y1 Y B fn.ntmps P1 O a' w'->iR (λs=>dW V (xU pks s)) (DT fn.results.toList ts O)->
     LeavesInM (rd none) 0 P fn a'.tmps (λe w'=>(∃ s u bo,dW V s/\e=.returned u/\Handed F w bo w' s u/\Below w.heap.size w w')\/(∃ x,kY V x/\e=.panicked [{ v:=x,recovered:=false}]/\Below w.heap.size w w')) a'.defers .returning w':=by
    intro a' w' Y P1 O hF2 E U;refine mW E (by simp) λw2 X=>?_;refine⟨by simp,.inr ⟨λh=>(by cases h),.func g,#[.pointer (some ⟨b,0,none⟩)],g,#[.pointer (some ⟨b,0,none⟩)],rfl,hinv w2,λ_ _=>trivial,?_⟩⟩;refine(arf.2.1 ⟨b,0,none⟩ w2).mono ?_;rintro e u' w3 ⟨⟨v,rfl⟩,rfl,rfl⟩;exact fin Y P1 O { a' with defers:=B.ds} _ hF2 X U
   intro e a' w' hq;cases e with
   |normal=>obtain⟨Y,P1,O,h0,h1,h2⟩:=hq;exact idle a' w' Y P1 O h0 h1 h2
   |ret=>obtain⟨Y,P1,O,h0,h1,h2⟩:=hq;exact idle a' w' Y P1 O h0 h1 h2
   |exit jd=>obtain⟨Y,P1,O,h0,h1,h2⟩:=hq;exact h2.elim
   |panic ch=>
    obtain⟨x,Y,P1,O,h0,h1,hm,rfl⟩:=hq;change acT fn.results.toList ts _ id O (RC x)at hm;cases m1:RC x with
    |none=>rw[m1]at hm;exact hm.elim
    |some s=>
    rw[m1]at hm;obtain⟨hm2,m4,m3⟩:=hm;obtain⟨y,m2⟩:=UQ hm2;refine mW h1 (by simp) λw2 X=>?_;refine⟨by simp,.inr ⟨λh=>(by cases h),.func g,#[.pointer (some ⟨b,0,none⟩)],g,#[.pointer (some ⟨b,0,none⟩)],rfl,hinv w2,λ_ _=>trivial,?_⟩⟩;obtain⟨hd2,e2,l2⟩:=X.fr.ids id hd ho;refine(arf.2.2 x s m1 Y P1 w2 O.h id hd2 b y m4 X.hp m2 e2 (l2.1.trans hp)).mono ?_;rintro e u' w3 ⟨⟨v,rfl⟩,rfl,aq9,q1,q2⟩;exact fin Y aq9 ⟨O.t,_⟩ { a' with defers:=B.ds} w3 h0 (X.aqM q1 q2) m3
   |_=>exact hq.elim
  |ret=>obtain⟨F1,own,st,h0,h1,h2,_⟩:=hq;cases h2
  |exit jd=>obtain⟨F1,own,st,h0,h1,h2,_⟩:=hq;cases h2
  |panic ch=>obtain⟨x,F1,own,st,h0,h1,⟨h2,_⟩,_⟩:=hq;cases h2
  |_=>exact hq.elim
end
end Go.Sx
end
section
namespace Go.Sx
open Go.Proofs
def kr {p:Prop}(h:p:=by kernel_rfl):p:=h
def ti3:TI:=⟨1,8,false,[(.v (.int .i64 0))],[],0,0,false,false,(some .int),(some .i64),false,[],none,none,1⟩
def ti4:TI:=⟨1,1,false,[(.v (.bool false))],[],0,0,false,false,(some .bool),none,false,[],none,none,3⟩
def ti5:TI:=⟨1,1,false,[(.v (.int .u8 0))],[],0,0,false,false,none,(some .u8),false,[],none,none,1⟩
def ti9:TI:=⟨1,16,false,[(.v (.string (ByteArray.mk #[])))],[],0,0,false,false,(some .str),none,false,[],none,none,2⟩
def YE:TI:=⟨2,16,true,[(.v (.int .i64 0)),(.v (.int .i64 0))],[(0,(1,false)),(1,(1,false))],0,0,false,false,(some .Y2),none,false,[1,1],none,none,0⟩
def YF:TI:=⟨1,24,false,[(.v (.slice none 0 0))],[],67,0,true,false,none,none,false,[],none,none,0⟩
def YG:TI:=⟨1,24,false,[(.v (.slice none 0 0))],[],129,0,true,false,none,none,false,[],none,none,0⟩
def YH:TI:=⟨1,24,false,[(.v (.slice none 0 0))],[],199,0,true,false,none,none,false,[],none,none,0⟩
def YI:TI:=⟨1,24,false,[(.v (.slice none 0 0))],[],131,0,true,false,none,none,false,[],none,none,0⟩
def YJ:TI:=⟨1,24,false,[(.v (.slice none 0 0))],[],203,0,true,false,none,none,false,[],none,none,0⟩
def YK:TI:=⟨1,24,false,[(.v (.slice none 0 0))],[],421,0,true,false,none,none,false,[],none,none,0⟩
def YL:TI:=⟨10,184,true,[(.v (.string (ByteArray.mk #[]))),(.v (.int .i64 0)),(.v (.int .i64 0)),(.v (.int .i64 0)),(.v (.slice none 0 0)),(.v (.slice none 0 0)),(.v (.slice none 0 0)),(.v (.slice none 0 0)),(.v (.slice none 0 0)),(.v (.slice none 0 0))],[(0,(1,false)),(1,(1,false)),(2,(2,true)),(4,(1,false)),(5,(1,false)),(6,(1,false)),(7,(1,false)),(8,(1,false)),(9,(1,false))],0,0,false,false,(some .bh),none,false,[],none,none,0⟩
def YM:TI:=⟨1,24,false,[(.v (.slice none 0 0))],[],217,0,true,false,none,none,false,[],none,none,0⟩
def tj:TI:=⟨1,8,false,[(.v .nilFunc)],[],0,0,false,false,none,none,false,[],none,none,0⟩
def YN:TI:=⟨1,24,false,[(.v (.slice none 0 0))],[],3,0,true,false,(some .ints),none,false,[],none,none,0⟩
def YO:TI:=⟨1,24,false,[(.v (.slice none 0 0))],[],75,0,true,false,none,none,false,[],none,none,0⟩
def YP:TI:=⟨5,72,true,[(.v (.slice none 0 0)),(.v (.int .i64 0)),(.v (.int .i64 0)),(.v (.int .i64 0)),(.v (.slice none 0 0))],[(0,(1,false)),(1,(1,false)),(2,(1,false)),(3,(1,false)),(4,(1,false))],0,0,false,false,(some .refusal),none,false,[],none,none,0⟩
def YQ:TI:=⟨1,24,false,[(.v (.slice none 0 0))],[],58,0,true,false,none,none,false,[],none,none,0⟩
def YR:TI:=⟨1,24,false,[(.v (.slice none 0 0))],[],259,0,true,false,none,none,false,[],none,none,0⟩
def YS:TI:=⟨5,40,true,[(.v (.int .i64 0)),(.v (.int .i64 0)),(.v (.int .i64 0)),(.v (.int .i64 0)),(.v (.int .i64 0))],[(0,(1,false)),(1,(1,false)),(2,(1,false)),(3,(1,false)),(4,(1,false))],0,0,false,false,(some .C1),none,false,[1,1,1,1,1],none,none,0⟩
def YT:TI:=⟨1,8,false,[(.v (.pointer none))],[],0,0,false,false,none,none,false,[],none,none,0⟩
def YU:TI:=⟨2,16,true,[(.v (.int .i64 0)),(.v (.int .i64 0))],[(0,(1,false)),(1,(1,false))],0,0,false,false,(some .range),none,false,[1,1],none,none,0⟩
def YV:TI:=⟨2,16,true,[(.v (.int .i64 0)),(.v (.int .i64 0))],[(0,(1,false)),(1,(1,false))],0,0,false,false,(some .ratio),none,false,[1,1],none,none,0⟩
def YW:TI:=⟨4,32,true,[(.v (.int .i64 0)),(.v (.int .i64 0)),(.v (.int .i64 0)),(.v (.int .i64 0))],[],64,2,false,true,(some .apw),none,false,[],none,none,0⟩
def YX:TI:=⟨12,104,true,[(.v (.string (ByteArray.mk #[]))),(.v (.int .i64 0)),(.v (.int .i64 0)),(.v (.int .i64 0)),(.v (.int .i64 0)),(.v (.int .i64 0)),(.v (.int .i64 0)),(.v (.int .i64 0)),(.v (.int .i64 0)),(.v (.int .i64 0)),(.v (.int .i64 0)),(.v (.int .i64 0))],[(0,(1,false)),(1,(1,false)),(2,(1,false)),(3,(1,false)),(4,(1,false)),(5,(1,false)),(6,(2,true)),(8,(4,true))],0,0,false,false,(some .reach),none,false,[],none,none,0⟩
def YY:TI:=⟨1,24,false,[(.v (.slice none 0 0))],[],60,0,true,false,none,none,false,[],none,none,0⟩
def YZ:TI:=⟨4,32,true,[(.v (.int .i64 0)),(.v (.int .i64 0)),(.v (.int .i64 0)),(.v (.int .i64 0))],[(0,(1,false)),(1,(1,false)),(2,(1,false)),(3,(1,false))],0,0,false,false,(some .aoR),none,false,[1,1,1,1],none,none,0⟩
def Y0:TI:=⟨11,208,true,[(.v (.string (ByteArray.mk #[]))),(.v (.int .i64 0)),(.v (.int .i64 0)),(.v (.int .i64 0)),(.v (.slice none 0 0)),(.v (.slice none 0 0)),(.v (.slice none 0 0)),(.v (.slice none 0 0)),(.v (.slice none 0 0)),(.v (.slice none 0 0)),(.v (.slice none 0 0))],[(0,(10,true)),(10,(1,false))],0,0,false,false,(some .zs),none,false,[],none,none,0⟩
def Y3:TI:=⟨5,40,true,[(.v (.int .i64 0)),(.v (.int .i64 0)),(.v (.int .i64 0)),(.v (.int .i64 0)),(.v (.int .i64 0))],[(0,(1,false)),(1,(1,false)),(2,(1,false)),(3,(1,false)),(4,(1,false))],0,0,false,false,(some .fault),none,false,[1,1,1,1,1],none,none,0⟩
def EG:TI:=⟨1,8,false,[(.v (.map none))],[],3,0,false,false,none,none,false,[],(some .aoQ),(some .int),0⟩
def Qg:TI:=⟨2,16,true,[(.v (.int .i64 0)),(.v .nilFunc)],[(0,(1,false)),(1,(1,false))],0,0,false,false,none,none,false,[],none,none,0⟩
def EH:TI:=⟨2,16,true,[(.v (.int .i64 0)),(.v (.int .i64 0))],[],3,2,false,true,(some .aoQ),none,false,[1,1],none,none,0⟩
def Qh:TI:=⟨1,24,false,[(.v (.slice none 0 0))],[],107,0,true,false,none,none,false,[],none,none,0⟩
def Qi:TI:=⟨1,24,false,[(.v (.slice none 0 0))],[],119,0,true,false,none,none,false,[],none,none,0⟩
def Qj:TI:=⟨6,48,true,[(.v (.int .i64 0)),(.v (.int .i64 0)),(.v (.int .i64 0)),(.v (.int .i64 0)),(.v (.int .i64 0)),(.v (.int .i64 0))],[(0,(5,true)),(5,(1,false))],0,0,false,false,(some .X1),none,false,[1,1,1,1,1,1],none,none,0⟩
def Qk:TI:=⟨4,40,true,[(.v (.string (ByteArray.mk #[]))),(.v (.int .i64 0)),(.v (.int .i64 0)),(.v (.int .i64 0))],[(0,(1,false)),(1,(1,false)),(2,(1,false)),(3,(1,false))],0,0,false,false,(some .ee),none,false,[2,1,1,1],none,none,0⟩
def Ql:TI:=⟨10,88,true,[(.v (.string (ByteArray.mk #[]))),(.v (.int .i64 0)),(.v (.int .i64 0)),(.v (.int .i64 0)),(.v (.int .i64 0)),(.v (.int .i64 0)),(.v (.int .i64 0)),(.v (.int .i64 0)),(.v (.int .i64 0)),(.v (.int .i64 0))],[(0,(1,false)),(1,(1,false)),(2,(1,false)),(3,(1,false)),(4,(1,false)),(5,(1,false)),(6,(1,false)),(7,(1,false)),(8,(1,false)),(9,(1,false))],0,0,false,false,(some .right),none,false,[2,1,1,1,1,1,1,1,1,1],none,none,0⟩
def Qm:TI:=⟨1,8,false,[(.v (.map none))],[],4,0,false,false,none,none,false,[],(some .aoQ),(some .bool),0⟩
def Qn:TI:=⟨1,8,false,[(.v (.map none))],[],3,0,false,false,none,none,false,[],(some .int),(some .int),0⟩
def Qo:TI:=⟨1,8,false,[(.v (.map none))],[],4,0,false,false,none,none,false,[],(some .M1),(some .bool),0⟩
def Qp:TI:=⟨3,24,true,[(.v (.map none)),(.v (.map none)),(.v (.map none))],[(0,(1,false)),(1,(1,false)),(2,(1,false))],0,0,false,false,(some .ao9),none,false,[],none,none,0⟩
def Qq:TI:=⟨2,16,true,[(.v (.int .i64 0)),(.v (.int .i64 0))],[(0,(1,false)),(1,(1,false))],0,0,false,false,(some .M1),none,false,[1,1],none,none,0⟩
def Qr:TI:=⟨2,24,true,[(.v (.string (ByteArray.mk #[]))),(.v (.int .i64 0))],[(0,(1,false)),(1,(1,false))],0,0,false,false,(some .apy),none,false,[2,1],none,none,0⟩
def Qs:TI:=⟨4,40,true,[(.v (.string (ByteArray.mk #[]))),(.v (.int .i64 0)),(.v (.int .i64 0)),(.v (.int .i64 0))],[(0,(1,false)),(1,(1,false)),(2,(1,false)),(3,(1,false))],0,0,false,false,(some .apH),none,false,[2,1,1,1],none,none,0⟩
def Qt:TI:=⟨1,24,false,[(.v (.slice none 0 0))],[],341,0,true,false,none,none,false,[],none,none,0⟩
def Qu:TI:=⟨9,88,true,[(.v (.int .i64 0)),(.v (.int .i64 0)),(.v (.int .i64 0)),(.v (.int .i64 0)),(.v (.int .i64 0)),(.v (.slice none 0 0)),(.v (.int .i64 0)),(.v (.int .i64 0)),(.v (.int .i64 0))],[(0,(1,false)),(1,(1,false)),(2,(1,false)),(3,(1,false)),(4,(1,false)),(5,(1,false)),(6,(1,false)),(7,(1,false)),(8,(1,false))],0,0,false,false,(some .x6),none,false,[],none,none,0⟩
def Qv:TI:=⟨1,24,false,[(.v (.slice none 0 0))],[],222,0,true,false,none,none,false,[],none,none,0⟩
def Qw:TI:=⟨4,32,true,[(.v (.int .i64 0)),(.v (.int .i64 0)),(.v (.int .i64 0)),(.v (.int .i64 0))],[(0,(1,false)),(1,(1,false)),(2,(1,false)),(3,(1,false))],0,0,false,false,(some .holding),none,false,[1,1,1,1],none,none,0⟩
def Qy:TI:=⟨1,8,false,[(.v (.int .u64 0))],[],0,0,false,false,none,(some .u64),false,[],none,none,1⟩
def Qz:TI:=⟨1,8,false,[(.v (.map none))],[],217,0,false,false,none,none,false,[],(some .int),(some .x6),0⟩
def QA:TI:=⟨4,32,true,[(.v (.int .i64 0)),(.v (.int .i64 0)),(.v (.int .i64 0)),(.v (.bool false))],[(0,(1,false)),(1,(1,false)),(2,(1,false)),(3,(1,false))],0,0,false,false,(some .order),none,false,[1,1,1,3],none,none,0⟩
def QB:TI:=⟨1,8,false,[(.v (.map none))],[],3,0,false,false,none,none,false,[],(some .bn),(some .int),0⟩
def QC:TI:=⟨1,8,false,[(.v (.map none))],[],4,0,false,false,none,none,false,[],(some .bn),(some .bool),0⟩
def QD:TI:=⟨2,16,true,[(.v (.int .i64 0)),(.v (.int .i64 0))],[(0,(1,false)),(1,(1,false))],0,0,false,false,(some .bn),none,false,[1,1],none,none,0⟩
def QE:TI:=⟨1,8,false,[(.v (.map none))],[],3,0,false,false,none,none,false,[],(some .gl),(some .int),0⟩
def QF:TI:=⟨2,16,true,[(.v (.int .i64 0)),(.v (.int .i64 0))],[(0,(1,false)),(1,(1,false))],0,0,false,false,(some .gl),none,false,[1,1],none,none,0⟩
def QG:TI:=⟨1,8,false,[(.v .nilFunc)],[],0,0,false,false,(some .fnc),none,false,[],none,none,0⟩
def QH:TI:=⟨3,24,true,[(.v (.int .i64 0)),(.v (.int .i64 0)),(.v (.int .i64 0))],[(0,(1,false)),(1,(2,true))],0,0,false,false,(some .part),none,false,[1,1,1],none,none,0⟩
def QI:TI:=⟨1,8,false,[(.v (.map none))],[],4,0,false,false,none,none,false,[],(some .int),(some .bool),0⟩
def QJ:TI:=⟨1,8,false,[(.v (.map none))],[],359,0,false,false,none,none,false,[],(some .int),(some .fnc),0⟩
def QK:TI:=⟨1,24,false,[(.v (.slice none 0 0))],[],335,0,true,false,none,none,false,[],none,none,0⟩
def QL:TI:=⟨1,8,true,[(.v .nilFunc)],[(0,(1,false))],0,0,false,false,none,none,false,[],none,none,0⟩
def ts:Tis:=λt=>(bif Nat.ble t 112 then(bif Nat.ble t 39 then(bif Nat.ble t 27 then(bif Nat.ble t 9 then(bif Nat.ble t 4 then(bif Nat.ble t 3 then(bif Nat.beq t 3 then some ti3 else none)else(bif Nat.beq t 4 then some ti4 else none))else(bif Nat.ble t 5 then(bif Nat.beq t 5 then some ti5 else none)else(bif Nat.beq t 9 then some ti9 else none)))else(bif Nat.ble t 24 then(bif Nat.ble t 23 then(bif Nat.beq t 23 then some YE else none)else(bif Nat.beq t 24 then some YF else none))else(bif Nat.ble t 25 then(bif Nat.beq t 25 then some YG else none)else(bif Nat.ble t 26 then(bif Nat.beq t 26 then some YH else none)else(bif Nat.beq t 27 then some YI else none)))))else(bif Nat.ble t 32 then(bif Nat.ble t 29 then(bif Nat.ble t 28 then(bif Nat.beq t 28 then some YJ else none)else(bif Nat.beq t 29 then some YK else none))else(bif Nat.ble t 31 then(bif Nat.beq t 31 then some YL else none)else(bif Nat.beq t 32 then some YM else none)))else(bif Nat.ble t 35 then(bif Nat.ble t 33 then(bif Nat.beq t 33 then some tj else none)else(bif Nat.beq t 35 then some YN else none))else(bif Nat.ble t 36 then(bif Nat.beq t 36 then some YO else none)else(bif Nat.ble t 38 then(bif Nat.beq t 38 then some YP else none)else(bif Nat.beq t 39 then some ti3 else none))))))else(bif Nat.ble t 68 then(bif Nat.ble t 60 then(bif Nat.ble t 50 then(bif Nat.ble t 47 then(bif Nat.beq t 47 then some YQ else none)else(bif Nat.beq t 50 then some YR else none))else(bif Nat.ble t 58 then(bif Nat.beq t 58 then some YS else none)else(bif Nat.beq t 60 then some YT else none)))else(bif Nat.ble t 64 then(bif Nat.ble t 62 then(bif Nat.beq t 62 then some YU else none)else(bif Nat.beq t 64 then some YV else none))else(bif Nat.ble t 65 then(bif Nat.beq t 65 then some YW else none)else(bif Nat.ble t 67 then(bif Nat.beq t 67 then some YX else none)else(bif Nat.beq t 68 then some YY else none)))))else(bif Nat.ble t 102 then(bif Nat.ble t 80 then(bif Nat.ble t 75 then(bif Nat.beq t 75 then some YZ else none)else(bif Nat.beq t 80 then some Y0 else none))else(bif Nat.ble t 90 then(bif Nat.beq t 90 then some Y3 else none)else(bif Nat.beq t 102 then some EG else none)))else(bif Nat.ble t 107 then(bif Nat.ble t 106 then(bif Nat.beq t 106 then some tj else none)else(bif Nat.beq t 107 then some Qg else none))else(bif Nat.ble t 108 then(bif Nat.beq t 108 then some EH else none)else(bif Nat.ble t 109 then(bif Nat.beq t 109 then some EH else none)else(bif Nat.beq t 112 then some Qh else none)))))))else(bif Nat.ble t 218 then(bif Nat.ble t 170 then(bif Nat.ble t 131 then(bif Nat.ble t 119 then(bif Nat.ble t 115 then(bif Nat.beq t 115 then some Qi else none)else(bif Nat.beq t 119 then some Qj else none))else(bif Nat.ble t 129 then(bif Nat.beq t 129 then some Qk else none)else(bif Nat.beq t 131 then some Ql else none)))else(bif Nat.ble t 138 then(bif Nat.ble t 137 then(bif Nat.beq t 137 then some tj else none)else(bif Nat.beq t 138 then some tj else none))else(bif Nat.ble t 143 then(bif Nat.beq t 143 then some tj else none)else(bif Nat.ble t 144 then(bif Nat.beq t 144 then some Qm else none)else(bif Nat.beq t 170 then some Qn else none)))))else(bif Nat.ble t 194 then(bif Nat.ble t 173 then(bif Nat.ble t 171 then(bif Nat.beq t 171 then some Qo else none)else(bif Nat.beq t 173 then some Qp else none))else(bif Nat.ble t 183 then(bif Nat.beq t 183 then some Qq else none)else(bif Nat.beq t 194 then some ti3 else none)))else(bif Nat.ble t 203 then(bif Nat.ble t 199 then(bif Nat.beq t 199 then some Qr else none)else(bif Nat.beq t 203 then some Qs else none))else(bif Nat.ble t 215 then(bif Nat.beq t 215 then some Qt else none)else(bif Nat.ble t 217 then(bif Nat.beq t 217 then some Qu else none)else(bif Nat.beq t 218 then some Qv else none))))))else(bif Nat.ble t 275 then(bif Nat.ble t 248 then(bif Nat.ble t 229 then(bif Nat.ble t 222 then(bif Nat.beq t 222 then some Qw else none)else(bif Nat.beq t 229 then some Qy else none))else(bif Nat.ble t 234 then(bif Nat.beq t 234 then some tj else none)else(bif Nat.beq t 248 then some Qz else none)))else(bif Nat.ble t 262 then(bif Nat.ble t 259 then(bif Nat.beq t 259 then some QA else none)else(bif Nat.beq t 262 then some EG else none))else(bif Nat.ble t 272 then(bif Nat.beq t 272 then some QB else none)else(bif Nat.ble t 273 then(bif Nat.beq t 273 then some QC else none)else(bif Nat.beq t 275 then some QD else none)))))else(bif Nat.ble t 341 then(bif Nat.ble t 323 then(bif Nat.ble t 316 then(bif Nat.beq t 316 then some QE else none)else(bif Nat.beq t 323 then some QF else none))else(bif Nat.ble t 335 then(bif Nat.beq t 335 then some QG else none)else(bif Nat.beq t 341 then some QH else none)))else(bif Nat.ble t 357 then(bif Nat.ble t 354 then(bif Nat.beq t 354 then some QI else none)else(bif Nat.beq t 357 then some QJ else none))else(bif Nat.ble t 373 then(bif Nat.beq t 373 then some QK else none)else(bif Nat.ble t 384 then(bif Nat.beq t 384 then some tj else none)else(bif Nat.beq t 386 then some QL else none))))))))
def acW:ca Tryz.prog 3=some ti3:=by kernel_rfl
def acX:ca Tryz.prog 4=some ti4:=by kernel_rfl
def acY:ca Tryz.prog 5=some ti5:=by kernel_rfl
def acZ:ca Tryz.prog 9=some ti9:=by kernel_rfl
def Y4:ca Tryz.prog 23=some YE:=by kernel_rfl
def Y5:ca Tryz.prog 24=some YF:=by kernel_rfl
def Y6:ca Tryz.prog 25=some YG:=by kernel_rfl
def Y7:ca Tryz.prog 26=some YH:=by kernel_rfl
def Y8:ca Tryz.prog 27=some YI:=by kernel_rfl
def Y9:ca Tryz.prog 28=some YJ:=by kernel_rfl
def Y_:ca Tryz.prog 29=some YK:=by kernel_rfl
def Za:ca Tryz.prog 31=some YL:=by kernel_rfl
def Zb:ca Tryz.prog 32=some YM:=by kernel_rfl
def Zc:ca Tryz.prog 33=some tj:=by kernel_rfl
def Zd:ca Tryz.prog 35=some YN:=by kernel_rfl
def Ze:ca Tryz.prog 36=some YO:=by kernel_rfl
def Zf:ca Tryz.prog 38=some YP:=by kernel_rfl
def Zg:ca Tryz.prog 39=some ti3:=by kernel_rfl
def Zh:ca Tryz.prog 47=some YQ:=by kernel_rfl
def Zi:ca Tryz.prog 50=some YR:=by kernel_rfl
def Zj:ca Tryz.prog 58=some YS:=by kernel_rfl
def Zk:ca Tryz.prog 60=some YT:=by kernel_rfl
def Zl:ca Tryz.prog 62=some YU:=by kernel_rfl
def Zm:ca Tryz.prog 64=some YV:=by kernel_rfl
def Zn:ca Tryz.prog 65=some YW:=by kernel_rfl
def Zo:ca Tryz.prog 67=some YX:=by kernel_rfl
def Zp:ca Tryz.prog 68=some YY:=by kernel_rfl
def Zq:ca Tryz.prog 75=some YZ:=by kernel_rfl
def Zr:ca Tryz.prog 80=some Y0:=by kernel_rfl
def Zs:ca Tryz.prog 90=some Y3:=by kernel_rfl
def UR:ca Tryz.prog 102=some EG:=by kernel_rfl
def US:ca Tryz.prog 106=some tj:=by kernel_rfl
def UT:ca Tryz.prog 107=some Qg:=by kernel_rfl
def UU:ca Tryz.prog 108=some EH:=by kernel_rfl
def UV:ca Tryz.prog 109=some EH:=by kernel_rfl
def UW:ca Tryz.prog 112=some Qh:=by kernel_rfl
def UX:ca Tryz.prog 115=some Qi:=by kernel_rfl
def UY:ca Tryz.prog 119=some Qj:=by kernel_rfl
def UZ:ca Tryz.prog 129=some Qk:=by kernel_rfl
def U0:ca Tryz.prog 131=some Ql:=by kernel_rfl
def U3:ca Tryz.prog 137=some tj:=by kernel_rfl
def U4:ca Tryz.prog 138=some tj:=by kernel_rfl
def U5:ca Tryz.prog 143=some tj:=by kernel_rfl
def U6:ca Tryz.prog 144=some Qm:=by kernel_rfl
def U7:ca Tryz.prog 170=some Qn:=by kernel_rfl
def U8:ca Tryz.prog 171=some Qo:=by kernel_rfl
def U9:ca Tryz.prog 173=some Qp:=by kernel_rfl
def U_:ca Tryz.prog 183=some Qq:=by kernel_rfl
def Va:ca Tryz.prog 194=some ti3:=by kernel_rfl
def Vb:ca Tryz.prog 199=some Qr:=by kernel_rfl
def Vc:ca Tryz.prog 203=some Qs:=by kernel_rfl
def Vd:ca Tryz.prog 215=some Qt:=by kernel_rfl
def Ve:ca Tryz.prog 217=some Qu:=by kernel_rfl
def Vf:ca Tryz.prog 218=some Qv:=by kernel_rfl
def Vg:ca Tryz.prog 222=some Qw:=by kernel_rfl
def Vh:ca Tryz.prog 229=some Qy:=by kernel_rfl
def Vi:ca Tryz.prog 234=some tj:=by kernel_rfl
def Vj:ca Tryz.prog 248=some Qz:=by kernel_rfl
def Vk:ca Tryz.prog 259=some QA:=by kernel_rfl
def Vl:ca Tryz.prog 262=some EG:=by kernel_rfl
def Vm:ca Tryz.prog 272=some QB:=by kernel_rfl
def Vn:ca Tryz.prog 273=some QC:=by kernel_rfl
def Vo:ca Tryz.prog 275=some QD:=by kernel_rfl
def Vp:ca Tryz.prog 316=some QE:=by kernel_rfl
def Vq:ca Tryz.prog 323=some QF:=by kernel_rfl
def Vr:ca Tryz.prog 335=some QG:=by kernel_rfl
def Vs:ca Tryz.prog 341=some QH:=by kernel_rfl
def Vt:ca Tryz.prog 354=some QI:=by kernel_rfl
def Vu:ca Tryz.prog 357=some QJ:=by kernel_rfl
def Vv:ca Tryz.prog 373=some QK:=by kernel_rfl
def Vw:ca Tryz.prog 384=some tj:=by kernel_rfl
def Vx:ca Tryz.prog 386=some QL:=by kernel_rfl
def aD:Tis.ok ts Tryz.prog:=(Tis.S1 (Tis.S1 (Tis.S1 (Tis.S1 (Tis.S1 (Tis.S1 (Tis.Q1 acW) (Tis.Q1 acX)) (Tis.S1 (Tis.Q1 acY) (Tis.Q1 acZ))) (Tis.S1 (Tis.S1 (Tis.Q1 Y4) (Tis.Q1 Y5)) (Tis.S1 (Tis.Q1 Y6) (Tis.S1 (Tis.Q1 Y7) (Tis.Q1 Y8))))) (Tis.S1 (Tis.S1 (Tis.S1 (Tis.Q1 Y9) (Tis.Q1 Y_)) (Tis.S1 (Tis.Q1 Za) (Tis.Q1 Zb))) (Tis.S1 (Tis.S1 (Tis.Q1 Zc) (Tis.Q1 Zd)) (Tis.S1 (Tis.Q1 Ze) (Tis.S1 (Tis.Q1 Zf) (Tis.Q1 Zg)))))) (Tis.S1 (Tis.S1 (Tis.S1 (Tis.S1 (Tis.Q1 Zh) (Tis.Q1 Zi)) (Tis.S1 (Tis.Q1 Zj) (Tis.Q1 Zk))) (Tis.S1 (Tis.S1 (Tis.Q1 Zl) (Tis.Q1 Zm)) (Tis.S1 (Tis.Q1 Zn) (Tis.S1 (Tis.Q1 Zo) (Tis.Q1 Zp))))) (Tis.S1 (Tis.S1 (Tis.S1 (Tis.Q1 Zq) (Tis.Q1 Zr)) (Tis.S1 (Tis.Q1 Zs) (Tis.Q1 UR))) (Tis.S1 (Tis.S1 (Tis.Q1 US) (Tis.Q1 UT)) (Tis.S1 (Tis.Q1 UU) (Tis.S1 (Tis.Q1 UV) (Tis.Q1 UW))))))) (Tis.S1 (Tis.S1 (Tis.S1 (Tis.S1 (Tis.S1 (Tis.Q1 UX) (Tis.Q1 UY)) (Tis.S1 (Tis.Q1 UZ) (Tis.Q1 U0))) (Tis.S1 (Tis.S1 (Tis.Q1 U3) (Tis.Q1 U4)) (Tis.S1 (Tis.Q1 U5) (Tis.S1 (Tis.Q1 U6) (Tis.Q1 U7))))) (Tis.S1 (Tis.S1 (Tis.S1 (Tis.Q1 U8) (Tis.Q1 U9)) (Tis.S1 (Tis.Q1 U_) (Tis.Q1 Va))) (Tis.S1 (Tis.S1 (Tis.Q1 Vb) (Tis.Q1 Vc)) (Tis.S1 (Tis.Q1 Vd) (Tis.S1 (Tis.Q1 Ve) (Tis.Q1 Vf)))))) (Tis.S1 (Tis.S1 (Tis.S1 (Tis.S1 (Tis.Q1 Vg) (Tis.Q1 Vh)) (Tis.S1 (Tis.Q1 Vi) (Tis.Q1 Vj))) (Tis.S1 (Tis.S1 (Tis.Q1 Vk) (Tis.Q1 Vl)) (Tis.S1 (Tis.Q1 Vm) (Tis.S1 (Tis.Q1 Vn) (Tis.Q1 Vo))))) (Tis.S1 (Tis.S1 (Tis.S1 (Tis.Q1 Vp) (Tis.Q1 Vq)) (Tis.S1 (Tis.Q1 Vr) (Tis.Q1 Vs))) (Tis.S1 (Tis.S1 (Tis.Q1 Vt) (Tis.Q1 Vu)) (Tis.S1 (Tis.Q1 Vv) (Tis.S1 (Tis.Q1 Vw) (Tis.Q1 Vx))))))))
def arY:ts 3=some ti3:=(rfl)
def ar9:ts 4=some ti4:=(rfl)
def ar8:ts 5=some ti5:=(rfl)
def ar6:ts 9=some ti9:=(rfl)
def arG:ts 23=some YE:=(rfl)
def arB:ts 24=some YF:=(rfl)
def arE:ts 25=some YG:=(rfl)
def arD:ts 26=some YH:=(rfl)
def arU:ts 27=some YI:=(rfl)
def arJ:ts 28=some YJ:=(rfl)
def arl:ts 29=some YK:=(rfl)
def arM:ts 31=some YL:=(rfl)
def arp:ts 32=some YM:=(rfl)
def arK:ts 33=some tj:=(rfl)
def arL:ts 35=some YN:=(rfl)
def aru:ts 36=some YO:=(rfl)
def arS:ts 38=some YP:=(rfl)
def ary:ts 39=some ti3:=(rfl)
def arT:ts 47=some YQ:=(rfl)
def arQ:ts 50=some YR:=(rfl)
def ars:ts 58=some YS:=(rfl)
def aro:ts 60=some YT:=(rfl)
def arI:ts 62=some YU:=(rfl)
def arO:ts 64=some YV:=(rfl)
def arx:ts 65=some YW:=(rfl)
def arw:ts 67=some YX:=(rfl)
def art:ts 68=some YY:=(rfl)
def arC:ts 75=some YZ:=(rfl)
def arR:ts 80=some Y0:=(rfl)
def arj:ts 90=some Y3:=(rfl)
def akp:ts 102=some EG:=(rfl)
def akq:ts 106=some tj:=(rfl)
def akr:ts 107=some Qg:=(rfl)
def aks:ts 108=some EH:=(rfl)
def akt:ts 109=some EH:=(rfl)
def aku:ts 112=some Qh:=(rfl)
def akv:ts 115=some Qi:=(rfl)
def akw:ts 119=some Qj:=(rfl)
def akx:ts 129=some Qk:=(rfl)
def aky:ts 131=some Ql:=(rfl)
def akz:ts 137=some tj:=(rfl)
def akA:ts 138=some tj:=(rfl)
def akB:ts 143=some tj:=(rfl)
def akC:ts 144=some Qm:=(rfl)
def akD:ts 170=some Qn:=(rfl)
def akE:ts 171=some Qo:=(rfl)
def akF:ts 173=some Qp:=(rfl)
def akG:ts 183=some Qq:=(rfl)
def akH:ts 194=some ti3:=(rfl)
def akI:ts 199=some Qr:=(rfl)
def akJ:ts 203=some Qs:=(rfl)
def akK:ts 215=some Qt:=(rfl)
def akL:ts 217=some Qu:=(rfl)
def akM:ts 218=some Qv:=(rfl)
def akN:ts 222=some Qw:=(rfl)
def akO:ts 229=some Qy:=(rfl)
def akP:ts 234=some tj:=(rfl)
def akQ:ts 248=some Qz:=(rfl)
def akR:ts 259=some QA:=(rfl)
def akS:ts 262=some EG:=(rfl)
def akT:ts 272=some QB:=(rfl)
def akU:ts 273=some QC:=(rfl)
def akV:ts 275=some QD:=(rfl)
def akW:ts 316=some QE:=(rfl)
def akX:ts 323=some QF:=(rfl)
def akY:ts 335=some QG:=(rfl)
def akZ:ts 341=some QH:=(rfl)
def ak0:ts 354=some QI:=(rfl)
def ak1:ts 357=some QJ:=(rfl)
def ak2:ts 373=some QK:=(rfl)
def ak3:ts 384=some tj:=(rfl)
def ak4:ts 386=some QL:=(rfl)
attribute[go_sem]arY ar9 ar8 ar6 arG arB arE arD arU arJ arl arM arp arK arL aru arS ary arT arQ ars aro arI arO arx arw art arC arR arj akp akq akr aks akt aku akv akw akx aky akz akA akB akC akD akE akF akG akH akI akJ akK akL akM akN akO akP akQ akR akS akT akU akV akW akX akY akZ ak0 ak1 ak2 ak3 ak4
attribute [go_sem] ti3 ti4 ti5 ti9 YE YF YG YH YI YJ YK YL YM tj YN YO YP YQ YR YS YT YU YV YW YX YY YZ Y0 Y3 EG Qg EH Qh Qi Qj Qk Ql Qm Qn Qo Qp Qq Qr Qs Qt Qu Qv Qw Qy Qz QA QB QC QD QE QF QG QH QI QJ QK QL
def mixed:Tryz.prog.follows .mixedOrders=true:=by kernel_rfl
def kE:List SV->Option Con
 | [.v (.iface t (.int .i64 e))] =>bif Nat.beq t 194 then some (.det True (.i e))else none|_=>none
def A9:B1 Tryz.prog 60 kE:=by
 have hG:aoI Tryz.prog (mkG [] []):=ox (by simp) (by simp);refine A8 [.o] mixed aD hG (fn:=Tryz.f60) (c:=ae Tryz.f60) kr kr kr kr λl U h V=>?_;unfold kE at h;split at h
 rename_i t e;cases O:Nat.beq t 194 with
 |false=>rw[O]at h;cases h
 |true=>
  rw[O]at h;cases h;have E:=alu O;subst E;refine⟨nbl rfl,L0,by unfold ae Tryz.f60;simp only[ak,and_self],?_⟩;unfold ae Tryz.f60;simp only[go_sem,true_imp_iff,false_imp_iff,Nat.reduceBEq,Nat.reduceLeDiff,Nat.reduceAdd,Nat.reduceSub,Nat.reduceMul,true_and,and_true,implies_true,reduceCtorEq]
 cases h
def ac0:Value->Option SV
 | .iface t (.int .i64 e) =>bif Nat.beq t 194 then some (.i e)else none|_=>none
def Vy:aa4 Tryz.prog 59 ac0:=by
 obtain⟨fn,X,O,hn,Y⟩:∃ fn,Tryz.prog.funcs[59]? =some fn/\fn.body=some (ae Tryz.f59)/\fn.ntmps=7/\fn.results= #[]:=⟨Tryz.f59,by kernel_rfl,by kernel_rfl,by kernel_rfl,by kernel_rfl⟩;have hG:aoI Tryz.prog (mkG [(60,kE)] []):=ox (by
  intro x U;simp only[alD,amf,or_false]at U;rcases U with rfl;exact A9) (by simp)
 refine⟨λargs w=>by kernel_rfl,λp w=>?_,?_⟩;refine callsDIn_of_wpSIn X O trivial λc₀ cs V=>?_;unfold ae Tryz.f59;refine wpSIn_seq (wpSIn_region ?_);simp[wpOpsSIn,go_sem,recoverD,V,hn,Exit.thenS,Oper.about,Region.wanted];refine wpSIn_seq (wpSIn_region ?_);simp[wpOpsSIn,go_sem,recoverD,V,Exit.thenS,Oper.about,Region.wanted];refine wpSIn_cond (t:=false) (by simp[Act.eval]) ?_;simp only[alB,if_false];refine wpSIn_of_wpIn rfl (wpIn_skip ?_);cases c₀;simp_all [bodyPostS,results];intro x s U F own w h id hd b y hfw hp hob ho hpb;unfold ac0 at U;split at U
 rename_i t e;cases ht:Nat.beq t 194 with
 |false=>rw[ht]at U;cases U
 |true=>
  rw[ht]at U;cases U;have ht':=alu ht;subst ht';refine callsDIn_of_wpSIn X O trivial λc₀ cs V=>?_;unfold ae Tryz.f59;refine wpSIn_seq (wpSIn_region ?_);simp[wpOpsSIn,go_sem,recoverD,V,hn,Exit.thenS,Oper.about,Region.wanted];refine wpSIn_seq (wpSIn_region ?_);simp[wpOpsSIn,go_sem,recoverD,V,Exit.thenS,Oper.about,Region.wanted];refine wpSIn_cond (t:=true) (by simp[Act.eval]) ?_;simp only[if_true];refine wpSIn_of_wpIn rfl ?_;have hr:Y1 F { w:=w,own:=own} 7 own ⟨[(0,.ptr id 0),(1,.v (.iface 194 (.int .i64 e)))],h⟩ { tmps:= #[.pointer (some ⟨b,0,none⟩),.iface 194 (.int .i64 e),.iface 194 (.int .i64 e),.iface 194 (.int .i64 e),.bool true,undef,undef],defers:=[]} w:=by
   refine⟨rfl,Dfr.nil,hp,Fr.refl { w:=w,own:=own},λt=>?_⟩;rw[pw];by_cases h0:0=t
   subst h0;rw[if_pos rfl];exact .ptr ho hpb;rw[if_neg h0,pw];by_cases h1:1=t
   subst h1;rw[if_pos rfl];exact .v _;rw[if_neg h1];exact .any _
  refine wpIn_mono (Oz (ts:=ts) (L:=L0) (Q:=λst=>st.h=cF h id (.cells [.i e])) mixed aD hG kr ?_ hr) ?_;simp only[go_sem,hob,yX (h:=h) (i:=id) (o:=.cells [.v (.int .i64 e)]) rfl hfw,kE,Nat.reduceBEq,Nat.reduceLeDiff,Nat.reduceAdd,true_and,and_true,true_imp_iff];rintro ex a' w' ⟨rfl,W,st1,E,hh⟩;have hd0:a'.defers=[]:=by
   obtain⟨ms,Ds,q0,q1,q2,q3⟩:=E.defers;cases Ds with
   |nil=>rw[q0];simp at q1;simp[q1]
   |cons D r=>
    obtain⟨m1,m2,_⟩:=q3 D (by simp);have:=hp.aoY D m2;simp only at m1;omega
  refine⟨hd0,.panicking [{ v:=.iface 194 (.int .i64 e),recovered:=true}],?_,_,by simp[results,Y];rfl,⟨_,rfl⟩,rfl,W,hh▸E.hp,E.fr⟩;cases c₀;simp_all
 cases U
attribute [go_sem] kE
abbrev SV.u (n:Nat):SV:=.v (.int .u64 (n:Int))
def zT (ps:List (Nat×(List SV->Option Con)))(os:List (Nat×(List SV->List Ob->Option ao3)))(Y:List SV->Res->Option ap_):Cons:=⟨mkP ps,mkO os,Y⟩
variable {ps:List (Nat×(List SV->Option Con))}{os:List (Nat×(List SV->List Ob->Option ao3))}{Y:List SV->Res->Option ap_}
def ak5:(zT ps os Y).p=mkP ps:=(rfl)
def ak6:(zT ps os Y).o=mkO os:=(rfl)
def ak7:(zT ps os Y).y=Y:=(rfl)
attribute[go_sem]ak5 ak6 ak7
def Dp{P:Program}{E:List (Nat×(List SV->Option Con))}{O:List (Nat×(List SV->List Ob->Option ao3))}(h1:∀ x∈E,B1 P x.1 x.2)(h2:∀ x∈O,ao2 P x.1 x.2)(U:YOk P Y):aoI P (zT E O Y):=⟨Ov E h1,Ow O h2,U⟩
def C90:List SV->List Ob->Option ao3:=λl h=>noH h ((pU λn=>pU λd=>pE { α:=Unit,pre:=True,post:=λ_=>True,res:=λ_=>.ret (.fn 336 [] [.ptr 0 0,.ptr 1 0]) [.cells [.v (.int .u64 n)],.cells [.v (.int .u64 d)]]}) l)
theorem ac1:ao2 Tryz.prog 309 C90:=by
 have hG:aoI Tryz.prog (mkG [] []):=ox (by simp) (by simp);refine ow mixed aD hG (fn:=Tryz.f309) (c:=ae Tryz.f309) kr kr kr kr λl o O h U=>?_;unfold C90 at h;obtain⟨rfl,h⟩:=Qc h;obtain⟨n,l0,rfl,E⟩:=JJ h;obtain⟨d,l1,rfl,h1⟩:=JJ E;obtain⟨rfl,rfl⟩:=wK h1;refine⟨nbl rfl,L0,by unfold ae Tryz.f309;simp only[ak,and_self],?_⟩;unfold ae Tryz.f309;simp only[go_sem,true_imp_iff,decide_eq_true_eq,Nat.reduceBEq,Nat.reduceLeDiff,Nat.reduceAdd,Nat.reduceSub,Nat.reduceMul,true_and,and_true,implies_true];refine⟨(),_,_,[0,1],rfl,?_⟩;simp only[go_sem,Nat.reduceBEq,Nat.reduceLeDiff,Nat.reduceAdd,true_and,and_true];exact⟨rfl,rfl⟩
def A_:Nat->Nat->Nat->List Nat
 |0,n,d=>if n=0 then []else [n,d]|f+1,n,d=>if n=0 then []else n::(if n % max d 1=0 then [d]else A_ f d (n % max d 1))
def rg (f n d:Nat):List (List SV):=(A_ f n d).map λx=>[SV.u x]
theorem Vz (f d:Nat):rg f 0 d=[]:=by cases f <;>rfl
theorem VA {f n d:Nat}(O:n≠0)(V:d<=f):∃ T,rg f n d=[SV.u n]::T/\(n % max d 1=0->T=[[SV.u d]])/\(n % max d 1≠0->∃ U,T=rg U d (n % max d 1)/\n % max d 1<=U/\n % max d 1<d):=by
 cases f with
 |zero=>
  have hd:d=0:=by omega
  subst hd;refine⟨[[SV.u 0]],by simp[rg,A_,O],λ_=>rfl,λh=>?_⟩;exfalso;apply h;simp[aoM]
 |succ f=>
  by_cases E:n % max d 1=0
  exact⟨[[SV.u d]],by simp[rg,A_,O,E],λ_=>rfl,λh=>absurd E h⟩;refine⟨rg f d (n % max d 1),by simp[rg,A_,O,E],λh=>absurd h E,λ_=>⟨f,rfl,?_⟩⟩;have hlt:n % max d 1<max d 1:=anz _ (by omega);have hd:1<=d:=by
   rcases Nat.eq_zero_or_pos d with h|h;subst h;exfalso;apply E;simp[aoM];exact h
  omega
theorem VB (n d:Nat):((n:Int).tmod (if(d:Int) <1 then 1 else(d:Int)))=((n % max d 1:Nat):Int):=by
 have e:(if(d:Int) <1 then(1:Int)else(d:Int))=((max d 1:Nat):Int):=by split <;>omega
 rw[e,amg (by omega)];rfl
open Classical in
theorem ac2 (n0 E:Nat):zS Tryz.prog 336 (λy=>[y,.ptr 1 0,.ptr 2 0]) [.cells [SV.u n0],.cells [SV.u E]] (rg E n0 E):=by
 refine Qd (λr hr hy=>?_) (λargs w=>by kernel_rfl);have hG:aoI Tryz.prog (zT [] [] (itY (rg E n0 E) r)):=Dp (by simp) (by simp) hy;refine⟨λl h=>if l=[.os 0,.ptr 1 0,.ptr 2 0]/\h=[.ab (r 1),.cells [SV.u n0],.cells [SV.u E]]then some { α:=Nat,pre:=True,post:=λj=>j=0\/j=(rg E n0 E).length+1,res:=λj=>.ret (.tup []) [.ab (r j),.dead,.dead]}else none,
  ?_,_,if_pos ⟨rfl,rfl⟩,trivial,λj hj=>⟨_,j,_,rfl,hj⟩⟩
 refine ow mixed aD hG (fn:=Tryz.f336) (c:=ae Tryz.f336) kr kr kr kr λl o con h hp=>?_;split at h
 rename_i hlo;obtain⟨rfl,rfl⟩:=hlo;cases h;refine⟨nbl rfl,λid st=>bif Nat.beq id 0 then some { α:=Nat×Bool,pre:=lk 0 st.t=.os 0/\lk 1 st.t=.ptr 1 0/\lk 2 st.t=.ptr 2 0/\st.h=[.ab (r 1),.cells [SV.u n0],.cells [SV.u E]],post:=λj=>j.1=0\/j.1=(rg E n0 E).length+1,ex:=λj=>bif j.2 then .ret else .normal,out:=λj=>⟨[],[.ab (r j.1),.dead,.dead]⟩:apB}else none,?_,?_⟩;unfold ae Tryz.f336;simp only[ak,true_and,and_true];refine wJ mixed aD hG kr λst lc hC hp=>?_;simp only[go_sem,Nat.reduceBEq,alx]at hC;subst hC;obtain⟨t,h⟩:=st;dsimp only at hp;obtain⟨h0,h1,h2,rfl⟩:=hp;refine⟨Nat×Nat×Nat×Nat,λx=>⟨[(0,.os 0),(1,.ptr 1 0),(2,.ptr 2 0)],[.ab (r (x.1+1)),.cells [SV.u x.2.2.1],.cells [SV.u x.2.2.2]]⟩,λx=>x.2.2.2<=x.2.1/\(rg E n0 E).drop x.1=rg x.2.1 x.2.2.1 x.2.2.2/\x.1<=(rg E n0 E).length,λx=>x.2.2.2,(0,E,n0,E),[0,1,2],⟨alw _,rfl,al4 _⟩,alw _,?_,?_⟩;simp only[go_sem,h0,h1,h2,Nat.reduceBEq,Nat.reduceLeDiff,Nat.reduceAdd,true_and,and_true];decide;rintro⟨k,f,n,d⟩ ⟨hf,O,hk⟩;simp only at hf O hk;refine⟨L0,_,by simp only[ak,and_self],λ_ _ q=>q,?_⟩;simp only[go_sem,EE hr,true_imp_iff,decide_eq_true_eq,VB,alB,false_imp_iff,Nat.reduceBEq,Nat.reduceLeDiff,Nat.reduceAdd,Nat.reduceSub,Nat.reduceMul,true_and,and_true,implies_true];have Y:∀ (l:List (List SV)) (j:Nat),l=(rg E n0 E).drop k->(rg E n0 E)[k+j]? =l[j]?:=λl j e=>by rw[e,anA]
 have U:(rg f n d).length=(rg E n0 E).length - k:=by rw[<-O,amp]
 refine⟨λhn=>?_,λhn=>?_⟩;have V:n≠0:=by simpa using hn
 obtain⟨T,e1,e2,e3⟩:=VA V hf;have hT:(rg E n0 E).drop (k+1)=T:=by rw[<-aou,O,e1];rfl
 have W:=Y _ 0 O.symm;rw[e1]at W;have hk1:k+1<=(rg E n0 E).length:=by
  have:=(alz.1 W).1;omega
 refine⟨W,⟨λ_=>⟨by split <;>omega,rfl,λh2=>?_,λh2=>?_⟩,λh2=>?_⟩,?_⟩;have h3:n % max d 1=0:=by
  have:=eq_of_beq h2;generalize n % max d 1=q at this |-;omega
 have X:=e2 h3;have hl2:(rg E n0 E).length=k+2:=by
  have:=congrArg List.length hT;rw[X,amp]at this;simp at this;omega
 refine⟨?_,⟨(k+1+2,true),[0,1,2],.inr (by rw[hl2]),rfl,⟨rfl,rfl,rfl⟩,by simp[GK,Je,DV,unp,aq,dI,uV,vQ]⟩,⟨(0,true),[0,1,2],.inl rfl,rfl,⟨rfl,rfl,rfl⟩,by simp[GK,Je,DV,unp,aq,dI,uV,vQ]⟩⟩;have:(rg E n0 E)[k+1]? =T[0]?:=by rw[<-hT,anA]
 rw[this,X];rfl;have h3:n % max d 1≠0:=λe=>by rw[e]at h2;simp at h2
 obtain⟨f',m1,m2,m3⟩:=e3 h3;exact⟨(k+1,f',d,n % max d 1),[0,1,2],⟨m2,by rw[hT,m1],hk1⟩,m3,⟨rfl,rfl,rfl⟩,by simp[GK,Je,DV,unp,aq,dI,uV,vQ,nth,mK,ren,wkL,PH]⟩;exact absurd hn (by rw[h2];simp);exact⟨(0,false),[0,1,2],.inl rfl,rfl,⟨rfl,rfl,rfl⟩,by simp[GK,Je,DV,unp,aq,dI,uV,vQ]⟩;have V:n=0:=by simpa using hn
 subst V;rw[Vz]at U;simp at U;exact⟨by simpa using hn,(k+1,false),[0,1,2],.inr (by show k+1=_;omega),rfl,⟨rfl,rfl,rfl⟩,by simp[GK,Je,DV,unp,aq,dI,uV,vQ]⟩;unfold ae Tryz.f336;simp only[go_sem,true_imp_iff,decide_eq_true_eq,Nat.reduceBEq,Nat.reduceLeDiff,Nat.reduceAdd,Nat.reduceSub,Nat.reduceMul,true_and,and_true,implies_true];rintro⟨j,b⟩ hj;cases b;simp only[go_sem];exact⟨j,_,_,[0,1,2],hj,rfl,alw 3,by simp only[go_sem,Nat.reduceBEq,Nat.reduceLeDiff,Nat.reduceAdd,true_and,and_true];decide⟩;simp only[go_sem];exact⟨j,_,_,[0,1,2],hj,rfl,alw 3,by simp only[go_sem,Nat.reduceBEq,Nat.reduceLeDiff,Nat.reduceAdd,true_and,and_true];decide⟩;cases h
def LX (n d:Nat):Nat:=if d=0 then n else(A_ d n d).getLastD d
def C83:List SV->Option Con:=pU λn=>pU λd=>pE (.det (0<=n/\0<=d) (SV.u (LX n.toNat d.toNat)))
theorem VC:B1 Tryz.prog 274 C83:=by
 have hG:aoI Tryz.prog (mkG [] [(309,C90)]):=ox (by simp) (by
  intro x E;simp only[alD,amf,or_false]at E;rcases E with rfl;exact ac1)
 refine Ux false mixed aD hG (fn:=Tryz.f274) (c:=ae Tryz.f274) kr kr kr kr λl con h O=>?_;unfold C83 at h;obtain⟨n',l0,rfl,X⟩:=JJ h;obtain⟨d',l1,rfl,h1⟩:=JJ X;obtain⟨rfl,rfl⟩:=wK h1;clear h X h1;obtain⟨hn,hd⟩:=O;obtain⟨n,rfl⟩:=aod hn;obtain⟨d,rfl⟩:=aod hd;refine⟨nbl rfl,λid st=>bif Nat.beq id 0 then some { α:=Unit,pre:=st.h=[.cells [SV.u d],.cells [SV.u n],.cells [SV.u d]]/\lk 12 st.t=.fn 336 [] [.ptr 1 0,.ptr 2 0]/\lk 4 st.t=.ptr 0 0,post:=λ_=>True,ex:=λ_=>.normal,out:=λ_=>⟨[(4,.ptr 0 0)],[.cells [SV.u ((A_ d n d).getLastD d)],.dead,.dead]⟩:apB}else none,?_,?_⟩;unfold ae Tryz.f274;simp only[ak,true_and,and_true];refine LV mixed aD hG (by decide) (by decide) kr kr λst lc Y O=>?_;simp only[go_sem,Nat.reduceBEq,alx]at Y;subst Y;obtain⟨t,h⟩:=st;dsimp only at O;obtain⟨rfl,V,h4⟩:=O;refine⟨336,[.ptr 1 0,.ptr 2 0],rg d n d,Nat,[(4,.ptr 0 0)],λv=>[.cells [SV.u v],.dead,.dead],λk v=>v=((A_ d n d).take k).getLastD d,λ_ _=>False,d,[0,1,2],V,rfl,alw _,?_,ac2 n d,?_,?_,λ_ h=>h.elim,λ_ _ h=>h.elim⟩;show Sub [0,1,2] 3 ⟨t,[.cells [SV.u d],.dead,.dead]⟩ ⟨[(4,.ptr 0 0)],[.cells [SV.u d],.dead,.dead]⟩;simp only[go_sem,h4,Nat.reduceBEq,Nat.reduceLeDiff,Nat.reduceAdd,true_and,and_true];decide;intro k y args U hI;unfold rg at U;rw[aml,amI]at U;obtain⟨x,E,rfl⟩:=U;refine⟨rfl,L0,_,λl=>by simp only[ak],λl=>by simp only[ak],λ_ _ q=>q,?_⟩;show exec ts _ L0 _ ⟨[(13,SV.u x),(4,SV.ptr 0 0)],[.cells [SV.u y],.dead,.dead]⟩ _;simp only[go_sem,true_imp_iff,Nat.reduceBEq,Nat.reduceLeDiff,Nat.reduceAdd,true_and,and_true];refine⟨x,[0,1,2],?_,alw 3,?_⟩;have hlt:=(alz.1 E).1;have W:=(alz.1 E).2;show x=((A_ d n d).take (k+1)).getLastD d;rw[amJ hlt,W];simp[List.getLastD_concat];simp only[go_sem,Nat.reduceBEq,Nat.reduceLeDiff,Nat.reduceAdd,true_and,and_true];decide;intro y hI;refine⟨(),[0,1,2],trivial,rfl,alw _,?_⟩;have hy:y=(A_ d n d).getLastD d:=by rw[hI,List.take_of_length_le (by simp[rg])]
 subst hy;show Sub [0,1,2] 3 ⟨[(4,.ptr 0 0)],[.cells [SV.u _],.dead,.dead]⟩ ⟨[(4,.ptr 0 0)],[.cells [SV.u _],.dead,.dead]⟩;simp only[go_sem,Nat.reduceBEq,Nat.reduceLeDiff,Nat.reduceAdd,true_and,and_true];decide;unfold ae Tryz.f274;simp only[go_sem,C90,true_imp_iff,decide_eq_true_eq,alB,false_imp_iff,Nat.reduceBEq,Nat.reduceLeDiff,Nat.reduceAdd,Nat.reduceSub,Nat.reduceMul,true_and,and_true,implies_true];refine⟨λh=>?_,λh _ _=>?_⟩;have h':d=0:=by simpa using h
 simp[LX,h'];have h':d≠0:=by simpa using h
 simp[LX,h']
attribute [go_sem] C83
end Go.Sx
end
section
namespace Go.Sx
open Go.RowKit
inductive apE:St->St->Prop where
 |refl (st:St):apE st st
 |cell {st:St} {t:List (Nat×SV)} {h:List Ob} {i j:Nat} {l:List SV} (o:Ob):apE st ⟨t,h⟩->aq h i=.cells l->l[j]? =some (.v (.slice none 0 0))->((∃ k,o=.row k [])\/∃ k,o=.apg k [])->apE st ⟨t,cF h i (.cells (l.set j (.os h.length)))++[o]⟩
 |slot {st:St} {t:List (Nat×SV)} {h:List Ob} {i:Nat} (o:Ob):apE st ⟨t,h⟩->lk i t=.v (.slice none 0 0)->((∃ k,o=.row k [])\/∃ k,o=.apg k [])->apE st ⟨(i,.os h.length)::t,h++[o]⟩
 |aqP {st:St} {t:List (Nat×SV)} {h:List Ob} {i:Nat} (k:Tag):apE st ⟨t,h⟩->lk i t=.e0->apE st ⟨(i,.os h.length)::t,h++[.row k []]⟩
section
variable {P:Program}{F:Nat->Prop}{w0:Bs}{N:Nat}
theorem Ik (h:List Ob)(o:Ob):aq (h++[o]) h.length=o:=by simp_all [sq,aq]
variable {h:List Ob}{a:Act}{w:World}{t:List (Nat×SV)}
theorem QM{own:Own}(O:Y1 F w0 N own ⟨t,h⟩ a w)(o:Ob)(ho:(∃ k,o=.row k [])\/∃ k,o=.apg k []):
  ∃ bo,Y1 F w0 N bo ⟨t,h++[o]⟩ a w/\(∀ id hd,own id=some hd->bo id=some hd)/\bo h.length=some { v:=.slice none 0 0}:=by
 let bo:Own:=λid=>if id=h.length then some { v:=.slice none 0 0}else own id
 have V:∀ id hd,own id=some hd->bo id=some hd:=λid hd e=>by
  have:id≠h.length:=by have:=O.hp.dom id hd e;grind
  grind
 have E:∀ id hd b,bo id=some hd->b∈hd.bs->own id=some hd:=λid hd b e U=>by
  grind
 have hc:apk F own w F bo w:=⟨λid hd e=>⟨hd,V id hd e,.refl _⟩,λb _ hn=>⟨by
  rintro (hf| ⟨id,hd,e,U⟩);exact hn (.inl hf);exact hn (.inr ⟨id,hd,E id hd b e U,U⟩),rfl⟩⟩
 refine⟨bo,⟨O.size,O.defers,⟨λid hd e=>?_,O.hp.aoY,λid hd b e U=>O.hp.apart id hd b (E id hd b e U) U,λi j hi hj b W X b1 b2=>O.hp.inj i j hi hj b (E i hi b W b1) (E j hj b X b2) b1 b2,λid hd b e U=>O.hp.lt id hd b (E id hd b e U) U,λid hd=>?_⟩,
  ⟨λid hd e=>?_,λid hd b e U=>O.fr.base id hd b (E id hd b e U) U,O.fr.os,O.fr.tape,O.fr.output,O.fr.size,O.fr.block⟩,λt=>(O.slots t).carry hc⟩,V,by simp[bo]⟩
 simp only[alA,aly,alJ];by_cases hi:id=h.length
 omega;simp only[bo,if_neg hi]at e;have:=O.hp.dom id hd e;grind;simp only at hd |-;by_cases hi:id<h.length
 rw[sq,if_pos hi]at hd |-;obtain⟨hd',W,X⟩:=O.hp.obs id hd;exact⟨hd',V id hd' W,X.carry hc (alw _) λ_ _=>rfl⟩;by_cases Y:id=h.length
 subst Y;rw[Ik];refine⟨_,by simp[bo];rfl,?_⟩;rcases ho with⟨k,rfl⟩ | ⟨k,rfl⟩;exact .inl ⟨none,rfl,rfl,rfl⟩;exact .inl ⟨rfl,rfl,rfl,rfl⟩;rw[mT (by simp;omega)]at hd;cases hd;obtain⟨hd',W,X⟩:=O.fr.ids id hd e;grind
theorem VD{own:Own}(O:Y1 F w0 N own ⟨t,h⟩ a w)(k:Tag)(Y:Option Addr):
  ∃ bo,Y1 F w0 N bo ⟨t,h++[.row k []]⟩ a w/\(∀ id hd,own id=some hd->bo id=some hd)/\bo h.length=some { v:=.slice Y 0 0}:=by
 let bo:Own:=λid=>if id=h.length then some { v:=.slice Y 0 0}else own id
 have V:∀ id hd,own id=some hd->bo id=some hd:=λid hd e=>by
  have:id≠h.length:=by have:=O.hp.dom id hd e;grind
  grind
 have E:∀ id hd b,bo id=some hd->b∈hd.bs->own id=some hd:=λid hd b e U=>by
  grind
 have hc:apk F own w F bo w:=⟨λid hd e=>⟨hd,V id hd e,.refl _⟩,λb _ hn=>⟨by
  rintro (hf| ⟨id,hd,e,U⟩);exact hn (.inl hf);exact hn (.inr ⟨id,hd,E id hd b e U,U⟩),rfl⟩⟩
 refine⟨bo,⟨O.size,O.defers,⟨λid hd e=>?_,O.hp.aoY,λid hd b e U=>O.hp.apart id hd b (E id hd b e U) U,λi j hi hj b W X b1 b2=>O.hp.inj i j hi hj b (E i hi b W b1) (E j hj b X b2) b1 b2,λid hd b e U=>O.hp.lt id hd b (E id hd b e U) U,λid hd=>?_⟩,
  ⟨λid hd e=>?_,λid hd b e U=>O.fr.base id hd b (E id hd b e U) U,O.fr.os,O.fr.tape,O.fr.output,O.fr.size,O.fr.block⟩,λt=>(O.slots t).carry hc⟩,V,by simp[bo]⟩
 simp only[alA,aly,alJ];by_cases hi:id=h.length
 omega;simp only[bo,if_neg hi]at e;have:=O.hp.dom id hd e;grind;simp only at hd |-;by_cases hi:id<h.length
 rw[sq,if_pos hi]at hd |-;obtain⟨hd',W,X⟩:=O.hp.obs id hd;exact⟨hd',V id hd' W,X.carry hc (alw _) λ_ _=>rfl⟩;by_cases hi2:id=h.length
 subst hi2;rw[Ik];refine⟨_,by simp[bo];rfl,?_⟩;exact .inl ⟨Y,rfl,rfl,rfl⟩;rw[mT (by simp;omega)]at hd;cases hd;obtain⟨hd',W,X⟩:=O.fr.ids id hd e;grind
theorem apE.rel{st st':St}(hn:apE st st'){own:Own}(hr:Y1 F w0 N own st a w):∃ bo,Y1 F w0 N bo st' a w:=by
 induction hn with
 |refl=>grind
 | @slot t h i o _ X ho V=>
  obtain⟨U,h1⟩:=V;obtain⟨P1,h2,h3,W⟩:=QM h1 o ho;refine⟨P1,h2.size,h2.defers,h2.hp,h2.fr,λu=>?_⟩;rw[pw];split
  rename_i e;subst e;have:=h1.slots i;rw[X]at this;rw[cK this];exact .os (hd:= { v:=.slice none 0 0}) W rfl;exact h2.slots u
 | @aqP t h i k _ X V=>
  obtain⟨U,h1⟩:=V;have E:=h1.slots i;rw[X]at E;generalize hv:a.tmps.getD i undef=v at E;cases E with
  | @e0 ad=>
   obtain⟨P1,h2,h3,W⟩:=VD h1 k ad;refine⟨P1,h2.size,h2.defers,h2.hp,h2.fr,λu=>?_⟩;rw[pw];split
   rename_i e;subst e;rw[hv];exact .os (hd:= { v:=.slice ad 0 0}) W rfl;exact h2.slots u
 | @cell t h i j l o _ hc X ho V=>
  obtain⟨U,h1⟩:=V;obtain⟨P1,h2,h3,W⟩:=QM h1 o ho;have hlt:i<h.length:=by
   grind [mT]
  have Y:(cF h i (.cells (l.set j (.os h.length)))).length=h.length:=by rw[cB,if_pos hlt]
  refine⟨P1,h2.size,h2.defers,⟨λid hd e=>?_,h2.hp.aoY,h2.hp.apart,h2.hp.inj,h2.hp.lt,λid hd=>?_⟩,h2.fr,h2.slots⟩;have:=h2.hp.dom id hd e;grind;simp only at hd |-;have O:=h2.hp.obs id;simp only at O;by_cases hi:id<h.length
  rw[sq,if_pos (by rw[Y];exact hi)]at hd |-;rw[sq,if_pos hi]at O;rw[dF]at hd |-;by_cases hii:i=id
  subst hii;rw[if_pos rfl]at hd |-;rw[hc]at O;obtain⟨hd',e1,b,cs,ty,m1,m2,m3,m4,m5⟩:=O rfl;refine⟨hd',e1,b,cs,ty,m1,m2,m3,by grind,λj' s E=>?_⟩;rw[ank]at E;by_cases hj:j=j'
  subst hj;rw[if_pos rfl]at E;split at E
  cases E;have:=m5 j _ X;rw[cK this];exact .os (hd:= { v:=.slice none 0 0}) W rfl;cases E;grind
  grind
  simp_all [sq,if_neg]
end
section
variable {P:Program}{F:Nat->Prop}{w0:Bs}{ro:Option Nat}{nd:Nat}{ts:Tis}{G:Cons}{L:vP}{N:Nat}
theorem uw {ts:Tis}{G:Cons}{ro:Option Nat}{N:Nat}(hm:P.follows .mixedOrders=true)(hts:ts.ok P)(hG:aoI P G){id:Nat}{c:Code}(hc:cV N c=true){C:St->Option apB}
  (h:∀ st O,C st=some O->O.pre->∃ (σ:Type) (D:σ->St) (I:σ->Prop) (m:σ->Nat) (x0:σ) (stN:St) (js:List Nat),I x0/\apE st stN/\st.h.length<=(D x0).h.length/\Sub js st.h.length stN (D x0)/\
   ∀ x,I x->∃ L Qx,ak P ro N L c/\(∀ e st',Qx e st'->uX D I m st.h.length x id (λe st'=>∃ r js,O.post r/\O.ex r=e/\st.h.length<=(O.out r).h.length/\Sub js st.h.length st' (O.out r)) e st')/\exec ts G L c (D x) Qx):kZ P ro N id (.loop c) C:=by
 intro nd F w0 st O hC hpre own a w hr;obtain⟨σ,D,I,m,x0,stN,js,h1,hN,h2,h3,h4⟩:=h st O hC hpre;obtain⟨ownN,hrN⟩:=hN.rel hr;refine wpIn_mono (Id hm hts hG hc D I m st.h.length hr.apZ _ h4 x0 h1 _ a w (hrN.sub h3 hr.apZ h2)) ?_;intro e a' w' hq;have key:∀ ex U bo st',Y1 U w0 N bo st' a' w'->(∃ r js,O.post r/\O.ex r=ex/\st.h.length<=(O.out r).h.length/\Sub js st.h.length st' (O.out r))->∃ P1 E,Y1 U w0 N P1 E a' w'/\∃ r,O.post r/\ex=O.ex r/\E=O.out r:=by
  rintro ex U bo st' hst ⟨r,js,W,V,q3,q4⟩;exact⟨_,_,hst.sub q4 hr.apZ q3,r,W,V.symm,rfl⟩
 cases e with
 |normal=>obtain⟨U,bo,st',X,Y,k2⟩:=hq;obtain⟨P1,E,W,V⟩:=key _ U bo st' Y k2;exact⟨U,P1,E,X,W,V⟩
 |exit j=>obtain⟨U,bo,st',X,Y,k2⟩:=hq;obtain⟨P1,E,W,V⟩:=key _ U bo st' Y k2;exact⟨U,P1,E,X,W,V⟩
 |ret=>obtain⟨U,bo,st',X,Y,k2⟩:=hq;obtain⟨P1,E,W,V⟩:=key _ U bo st' Y k2;exact⟨U,P1,E,X,W,V⟩
 |panic ch=>
  obtain⟨x,U,bo,st',X,Y,k2,k3⟩:=hq;obtain⟨P1,E,W,V⟩:=key _ U bo st' Y k2;exact⟨x,U,P1,E,X,W,V,k3⟩
 |_=>exact hq.elim
end
section
variable {P:Program}{ρ σ:Type}
def oy (st2:St)(n0:Nat)(st:St):Prop:= ∃ js,n0<=st2.h.length/\Sub js n0 st st2
def JO {E st:St}{n0:Nat}(js:List Nat)(h1:n0<=E.h.length)(h2:Sub js n0 st E):oy E n0 st:=⟨js,h1,h2⟩
def zU (D:Nat->σ->St)(n0 k:Nat)(st:St):ρ⊕σ->Prop
 | .inl _=>False| .inr s'=>oy (D (k+1) s') n0 st
def tW (exE:ρ->Ex)(W1:ρ->St)(n0:Nat)(e:Ex)(st:St):ρ⊕σ->Prop
 | .inl x=>exE x=e/\oy (W1 x) n0 st| .inr _=>False
def cE (step:Nat->σ->ρ⊕σ)(n:Nat)(exE:ρ->Ex)(W1:ρ->St)(ao0:σ->St)(D:Nat->σ->St)(n0 id k:Nat)(s:σ):Ex->St->Prop
 | .normal,st=>k<n/\zU D n0 k st (step k s)| .exit j,st=>bif Nat.beq j id then(n<=k->oy (ao0 s) n0 st)/\(k<n->tW exE W1 n0 .normal st (step k s))else k<n/\tW exE W1 n0 (.exit j) st (step k s)| .ret,st=>k<n/\tW exE W1 n0 .ret st (step k s)| .pan x,st=>k<n/\tW exE W1 n0 (.pan x) st (step k s)
variable {step:Nat->σ->ρ⊕σ}{n n0 id k j:Nat}{exE:ρ->Ex}{W1:ρ->St}{ao0:σ->St}{D:Nat->σ->St}{s s':σ}{st:St}{x:Value}{e:Ex}{y:ρ}
@[go_sem] def afz:= @zU.eq_2
@[go_sem] def ahq:= @tW.eq_1
@[go_sem] def afA:= @cE.eq_1
@[go_sem] def ajK:= @cE.eq_2
@[go_sem] def ak8:= @cE.eq_3
@[go_sem] def ak9:= @cE.eq_4
@[congr] theorem aa6 {r r':ρ⊕σ}(h:r=r'):zU D n0 k st r=zU D n0 k st r':=by rw[h]
@[congr] theorem ahr {st st':St}{e e':Ex}(h:st=st')(he:e=e'):cE step n exE W1 ao0 D n0 id k s e st=cE step n exE W1 ao0 D n0 id k s e' st':=by rw[h,he]
theorem Sw {ts:Tis}{G:Cons}{ro:Option Nat}{N:Nat}(hm:P.follows .mixedOrders=true)(hts:ts.ok P)(hG:aoI P G){id:Nat}{c:Code}(hc:cV N c=true){C:St->Option apB}
  (h:∀ st lc,C st=some lc->lc.pre->∃ (ρ σ:Type) (pre:Prop) (step:Nat->σ->ρ⊕σ) (p:Nat->σ->Prop) (n:Nat) (s0:σ) (exE:ρ->Ex) (W1:ρ->St) (ao0:σ->St) (D:Nat->σ->St) (O:St) (js:List Nat),
   lc=LC pre (aj step n 0 s0) exE W1 ao0/\okI step p n 0 s0/\apE st O/\st.h.length<=(D 0 s0).h.length/\Sub js st.h.length O (D 0 s0)/\
   ∀ k s,k<=n->(k<n->p k s)->∃ L,ak P ro N L c/\exec ts G L c (D k s) (cE step n exE W1 ao0 D st.h.length id k s)):kZ P ro N id (.loop c) C:=by
 refine uw hm hts hG hc λst lc hC hp=>?_;obtain⟨ρ,σ,pre,step,p,n,s0,exE,W1,ao0,D,O,js,rfl,h1,hN,h2,h3,h4⟩:=h st lc hC hp;refine⟨Nat×σ,λx=>D x.1 x.2,λx=>x.1<=n/\okI step p (n - x.1) x.1 x.2/\aj step (n - x.1) x.1 x.2=aj step n 0 s0,λx=>n - x.1,(0,s0),O,js,⟨al4 _,by omega,by simp⟩,hN,h2,h3,?_⟩;rintro⟨k,s⟩ ⟨hk,hJ,E⟩;simp only at hk hJ E;obtain⟨L,hl,hex⟩:=h4 k s hk (λhlt=>by
  rw[show n - k=(n - k - 1)+1 by omega]at hJ;exact hJ.1)
 refine⟨L,_,hl,?_,hex⟩;have U:∀ e st',k<n->tW exE W1 st.h.length e st' (step k s)->∃ r js,(LC pre (aj step n 0 s0) exE W1 ao0).post r/\(LC pre (aj step n 0 s0) exE W1 ao0).ex r=e/\st.h.length<=((LC pre (aj step n 0 s0) exE W1 ao0).out r).h.length/\Sub js st.h.length st' ((LC pre (aj step n 0 s0) exE W1 ao0).out r):=by
  intro e st' hlt q;cases V:step k s with
  |inr s'=>rw[V]at q;exact q.elim
  |inl x=>
   rw[V]at q;obtain⟨X,js,q3,q4⟩:=q;rw[show n - k=(n - k - 1)+1 by omega]at E;simp only[aj,V]at E;exact⟨.inl x,js,E,X,q3,q4⟩
 intro e st' Y;cases e with
 |normal=>
  obtain⟨q1,X⟩:=Y;cases V:step k s with
  |inl x=>rw[V]at X;exact X.elim
  |inr s'=>
   rw[V]at X;obtain⟨js,q3,q4⟩:=X;rw[show n - k=(n - (k+1))+1 by omega]at E hJ;simp only[aj,V]at E;exact⟨(k+1,s'),js,⟨q1,hJ.2 s' V,E⟩,by grind,q3,q4⟩
 |exit j=>
  have W:(bif Nat.beq j id then(n<=k->oy (ao0 s) st.h.length st')/\(k<n->tW exE W1 st.h.length .normal st' (step k s))else k<n/\tW exE W1 st.h.length (.exit j) st' (step k s)):=Y;show bif Nat.beq j id then _ else _;cases hb:Nat.beq j id with
  |true=>
   rw[hb]at W;simp only[cond_true]at W |-;by_cases hlt:k<n
   grind
   obtain⟨js,q3,q4⟩:=W.1 (by omega);have hkn:k=n:=by omega
   subst hkn;simp only[anr,aj]at E;exact⟨.inr s,js,E,rfl,q3,q4⟩
  |false=>grind
 |ret=>exact U _ _ Y.1 Y.2|pan x=>exact U _ _ Y.1 Y.2
end
def fL (p:Prop)(S:SV)(H:List Ob):ao3:= { α:=Unit,pre:=p,post:=λ_=>True,res:=λ_=>.ret S H}
def VE (n0:Nat)(S:SV)(H:List Ob)(h:List Ob):Option SV->Prop
 |some s=>oy ⟨[(0,S)],H⟩ n0 ⟨[(0,s)],h⟩|none=>False
def QN (n0:Nat)(rs:List ResultVar)(ts:Tis)(S:SV)(H:List Ob):Ex->St->Prop
 | .exit _,_=>False| .normal,st=>VE n0 S H st.h (th (re ts st rs))| .ret,st=>VE n0 S H st.h (th (re ts st rs))| .pan _,_=>False
section
variable {P:Program}{ts:Tis}{G:Cons}{n0:Nat}{S s:SV}{H h:List Ob}{rs:List ResultVar}{st:St}{x:Value}{j:Nat}
@[go_sem] def afB:= @VE.eq_1
@[go_sem] def Zt:= @QN.eq_2
@[go_sem] def afC:= @QN.eq_3
@[go_sem high] theorem ac3 {p:Prop}{ids:List Nat}{d:Option Nat}{K:St->Prop}{Z:Value->St->Prop}:ym ids d st K Z (some (fL p S H))=(p/\Jc ids d st K Z (.ret S H)):=by
 show(p/\∀ r:Unit,True->Jc ids d st K Z (.ret S H))=_;simp
def hCR (t:Tag)(k:List t.T->Option ao3):List Ob->Option ao3
 | [.cells [.os 1],.row k' l] =>if h:k'=t then k (h▸l)else none|_=>none
theorem ajL {t:Tag}{k:List t.T->Option ao3}{h:List Ob}{c:ao3}(E:hCR t k h=some c):∃ l,h=[.cells [.os 1],.row t l]/\k l=some c:=by
 unfold hCR at E;grind
open Classical in
noncomputable def pQ {α:Type 1}(X:SV)(k:List SV->Option α):List SV->Option α
 |s::r=>if s=X then k r else none| [] =>none
variable {α:Type 1}{X:SV}{k:List SV->Option α}{r:List SV}
@[go_sem] theorem asw:pQ X k (X::r)=k r:=by simp[pQ]
theorem EI{l:List SV}{c:α}(h:pQ X k l=some c):∃ r,l=X::r/\k r=some c:=by
 unfold pQ at h;grind
def pXR {α:Type 1}(t:Tag)(k:List t.T->List SV->Option α):List SV->Option α
 | .ep [.rs k' l] 0::r=>Ig t k r k' l|_=>none
@[go_sem] theorem ak_{t:Tag}{k:List t.T->List SV->Option α}{l:List t.T}:pXR t k (.ep [.rs t l] 0::r)=k l r:=by simp[pXR,Ig]
theorem Zu{t:Tag}{k:List t.T->List SV->Option α}{l:List SV}{c:α}(h:pXR t k l=some c):∃ x r,l=.ep [.rs t x] 0::r/\k x r=some c:=by
 unfold pXR at h;grind [Ig]
theorem LY (hm:P.follows .mixedOrders=true) (W:ts.ok P) (hG:aoI P G) {f:FuncId} {fn:Func} {c:Code} (hf:P.funcs[f]? =some fn) (hb:fn.body=some c) (U:(fn.name== "runtime.NumGoroutine")=false)
  (hc:cV fn.ntmps c=true) {C:List SV->List Ob->Option ao3}
  (h:∀ l o O,C l o=some O->∃ p S H,O=fL p S H/\(p->l.length<=fn.ntmps/\∃ L,ak P none fn.ntmps L c/\exec ts G L c ⟨nV 0 l,o⟩ (QN o.length fn.results.toList ts S H))):ao2 P f C:=by
 refine EA hm W hG hf hb U hc λl o O hC hp=>?_;obtain⟨p,S,H,rfl,h2⟩:=h l o O hC;obtain⟨h3,L,h4,h5⟩:=h2 hp;refine⟨h3,L,_,h4,λe st E=>?_,h5⟩;cases e with
 |normal=>
  change VE _ _ _ _ _ at E;show DY _ _ _ _;cases V:th (re ts st fn.results.toList)with
  |none=>rw[V]at E;exact E.elim
  |some s=>rw[V]at E;obtain⟨js,Y,X⟩:=E;exact⟨(),S,H,js,trivial,rfl,Y,X⟩
 |ret=>
  change VE _ _ _ _ _ at E;show DY _ _ _ _;cases V:th (re ts st fn.results.toList)with
  |none=>rw[V]at E;exact E.elim
  |some s=>rw[V]at E;obtain⟨js,Y,X⟩:=E;exact⟨(),S,H,js,trivial,rfl,Y,X⟩
 |exit j=>exact E.elim|pan x=>exact E.elim
end
end Go.Sx
end
section
namespace Go.Sx
attribute [go_sem] true_imp_iff false_imp_iff Bool.false_eq_true Int.toNat_natCast Int.toNat_zero true_and and_true and_self implies_true forall_const
theorem cl {p:Prop}(h:p:=by(first|done|(repeat' (first|with_reducible refine And.intro ?_ ?_|((with_reducible show _≠_);first|assumption|omega|(simp_all [cq,eo];done) |grind) |with_reducible intro _)) <;>(first|done|with_reducible exact Empty.elim ‹Empty› |with_reducible assumption|rfl|omega|assumption|(simp only[*,cond_true,cond_false,alN,alZ,go_sem,Nat.reduceBEq,Nat.reduceLeDiff,Nat.reduceAdd,Nat.reduceSub,Nat.reduceMul,Int.reduceLE,Int.reduceLT,Int.reduceToNat,Int.reduceNeg,reduceCtorEq];done) |(simp only[*,cond_true,cond_false,alN,alZ,go_sem,Nat.reduceBEq,Nat.reduceLeDiff,Nat.reduceAdd,Nat.reduceSub,Nat.reduceMul,Int.reduceLE,Int.reduceLT,Int.reduceToNat,Int.reduceNeg,reduceCtorEq];(repeat' (first|with_reducible refine And.intro ?_ ?_|((with_reducible show _≠_);first|assumption|omega|(simp_all [cq,eo];done) |grind) |with_reducible intro _)) <;>(first|done|assumption|rfl|omega|(simp_all [cq,eo];done))) |(simp_all [okI,cq,eo];done) |grind))):p:=h
theorem cl2 {p:Prop}(h:p:=by(first|done|(repeat' (first|with_reducible refine And.intro ?_ ?_|((with_reducible show _≠_);first|assumption|omega|(simp_all [cq,eo];done) |grind) |with_reducible intro _)) <;>(first|done|with_reducible exact Empty.elim ‹Empty› |with_reducible assumption|rfl|omega|assumption|(simp only[*,go_sem,Nat.reduceBEq,Nat.reduceLeDiff,Nat.reduceAdd,Nat.reduceSub,Nat.reduceMul,Int.reduceLE,Int.reduceLT,Int.reduceToNat,Int.reduceNeg,reduceCtorEq];done) |(simp_all [cq,eo];done)))):p:=h
inductive JL:List Nat->Prop
 |mk (l:List Nat):JL l
def jl (l:List Nat):JL l:=.mk l
variable {js:List Nat}
theorem fk{E st:St}{n0:Nat}(_:JL js)(h1:n0<=E.h.length:=by(first|(show _<=_;decide) |(simp only[*,go_sem,Nat.reduceBEq,Nat.reduceLeDiff,Nat.reduceAdd,Nat.reduceSub,Nat.reduceMul,Int.reduceLE,Int.reduceLT,Int.reduceToNat,Int.reduceNeg,reduceCtorEq];done) |(simp only[*,go_sem,Nat.reduceBEq,Nat.reduceLeDiff,Nat.reduceAdd,Nat.reduceSub,Nat.reduceMul,Int.reduceLE,Int.reduceLT,Int.reduceToNat,Int.reduceNeg,reduceCtorEq];(repeat' (first|with_reducible refine And.intro ?_ ?_|((with_reducible show _≠_);first|assumption|omega|(simp_all [cq,eo];done) |grind) |with_reducible intro _)) <;>(first|rfl|decide|assumption|omega|(simp_all [cq,eo];done)))))(h2:Sub js n0 st E:=by(first|(show _<=_;decide) |(simp only[*,go_sem,Nat.reduceBEq,Nat.reduceLeDiff,Nat.reduceAdd,Nat.reduceSub,Nat.reduceMul,Int.reduceLE,Int.reduceLT,Int.reduceToNat,Int.reduceNeg,reduceCtorEq];done) |(simp only[*,go_sem,Nat.reduceBEq,Nat.reduceLeDiff,Nat.reduceAdd,Nat.reduceSub,Nat.reduceMul,Int.reduceLE,Int.reduceLT,Int.reduceToNat,Int.reduceNeg,reduceCtorEq];(repeat' (first|with_reducible refine And.intro ?_ ?_|((with_reducible show _≠_);first|assumption|omega|(simp_all [cq,eo];done) |grind) |with_reducible intro _)) <;>(first|rfl|decide|assumption|omega|(simp_all [cq,eo];done))))):oy E n0 st:=JO js h1 h2
theorem fk2{E st:St}{n0:Nat}(_:JL js)(h1:n0<=E.h.length:=by(first|(show _<=_;decide) |(simp only[go_sem,Nat.reduceBEq,Nat.reduceLeDiff,Nat.reduceAdd,Nat.reduceSub,Nat.reduceMul,Int.reduceLE,Int.reduceLT,Int.reduceToNat,Int.reduceNeg,reduceCtorEq];(repeat' (first|with_reducible refine And.intro ?_ ?_|((with_reducible show _≠_);first|assumption|omega|(simp_all [cq,eo];done) |grind) |with_reducible intro _)) <;>(first|rfl|decide|assumption|omega|(simp_all [cq,eo];done)))))(h2:Sub js n0 st E:=by(first|(show _<=_;decide) |(simp only[go_sem,Nat.reduceBEq,Nat.reduceLeDiff,Nat.reduceAdd,Nat.reduceSub,Nat.reduceMul,Int.reduceLE,Int.reduceLT,Int.reduceToNat,Int.reduceNeg,reduceCtorEq];(repeat' (first|with_reducible refine And.intro ?_ ?_|((with_reducible show _≠_);first|assumption|omega|(simp_all [cq,eo];done) |grind) |with_reducible intro _)) <;>(first|rfl|decide|assumption|omega|(simp_all [cq,eo];done))))):oy E n0 st:=JO js h1 h2
variable {α:Type _}{p:α->Prop}
theorem P0:∀ x∈([]:List α),p x:=λ_ h=>by cases h
theorem cgc{a:α}{l:List α}(h:p a)(t:∀ x∈l,p x):∀ x∈a::l,p x:=λx hx=>by
 rcases alD.1 hx with rfl|hx;exact h;exact t x hx
attribute [go_sem] if_true
end Go.Sx
end
section
namespace Go.Sx
open Go.RowKit
open IntKind (i64)
section
variable {P:Program}
end
def okL {ρ σ τ:Type}(step:τ->σ->ρ⊕σ)(p:τ->σ->Prop):List τ->σ->Prop
 | [],_=>True|x::l,s=>p x s/\∀ s',step x s=.inr s'->okL step p l s'
theorem Dq {ρ σ τ:Type}{step:τ->σ->ρ⊕σ}{p:τ->σ->Prop}:∀ (l:List τ) (s:σ),(∀ x∈l,∀ s,p x s)->okL step p l s
 | [],_,_=>trivial
 |x::l,s,h=>⟨h x (by simp) s,λs' _=>Dq l s' λy hy=>h y (by simp[hy])⟩
section
variable {ρ σ τ:Type}
def rgN (T:List (Nat×SV))(H:σ->List Ob)(n0:Nat)(st:St):ρ⊕σ->Prop
 | .inl _=>False| .inr s'=>oy ⟨T,H s'⟩ n0 ⟨T,st.h⟩
def rgX (exE:ρ->Ex)(T:List (Nat×SV))(Hy:ρ->List Ob)(n0:Nat)(e:Ex)(st:St):ρ⊕σ->Prop
 | .inl y=>exE y=e/\oy ⟨T,Hy y⟩ n0 ⟨T,st.h⟩| .inr _=>False
def rgQ (step:τ->σ->ρ⊕σ)(exE:ρ->Ex)(T:List (Nat×SV))(H:σ->List Ob)(Hy:ρ->List Ob)(n0 id:Nat)(x:τ)(s:σ):Ex->St->Prop
 | .normal,st=>rgN T H n0 st (step x s)| .exit j,st=>rgX exE T Hy n0 (bif Nat.beq j id then .normal else .exit j) st (step x s)| .ret,st=>rgX exE T Hy n0 .ret st (step x s)| .pan _,_=>False
variable {step:τ->σ->ρ⊕σ}{exE:ρ->Ex}{T:List (Nat×SV)}{H:σ->List Ob}{Hy:ρ->List Ob}{n0 id j:Nat}{x:τ}{s s':σ}{y:ρ}{st:St}{e:Ex}
@[go_sem] def ajM:= @rgN.eq_2
@[go_sem] def ajN:= @rgX.eq_1
@[go_sem] def ac4:= @rgQ.eq_1
@[go_sem] def ajO:= @rgQ.eq_3
@[go_sem] def ahs:= @rgQ.eq_2
variable {r r':ρ⊕σ}
@[congr] theorem afD(h:r=r'):rgN T H n0 st r=rgN T H n0 st r':=by rw[h]
@[congr] theorem afE{e e':Ex}(h:r=r')(he:e=e'):rgX exE T Hy n0 e st r=rgX exE T Hy n0 e' st r':=by rw[h,he]
end
section
variable {P:Program}{ts:Tis}{G:Cons}{N:Nat}
theorem rZ (hm:P.follows .mixedOrders=true)(hts:ts.ok P)(hG:aoI P G){id:Nat}{g:Operand}{ps:Array Tmp}{assign body:Code}{C:St->Option apB}
  (hpn:ps.toList.Nodup) (hpN:∀ p∈ps.toList,p<N) (hca:cV N assign=true) (hcb:cV N body=true)
  (h:∀ st lc,C st=some lc->lc.pre->∃ (f:FuncId) (caps:List SV) (τ ρ σ:Type) (l:List τ) (mk:τ->List SV) (step:τ->σ->ρ⊕σ) (p:τ->σ->Prop) (pre:Prop) (s0:σ) (exE:ρ->Ex) (W1:ρ->St) (ao0:σ->St) (T:List (Nat×SV)) (H:σ->List Ob) (Hy:ρ->List Ob) (js:List Nat),
   raw st.t g=.fn f [] caps/\lc=LC pre (dC step l s0) exE W1 ao0/\okL step p l s0/\st.h.length<=(H s0).length/\Sub js st.h.length ⟨st.t,sD (jT st caps) st.h⟩ ⟨T,H s0⟩/\
   zS P f (λy=>y::caps.map (ren (Oy (jT st caps)) 3)) (LU (jT st caps) st.h) (l.map mk)/\
   (∀ x s,p x s->(mk x).length=ps.size/\∃ L,(∀ l,ak P (some l) N L assign)/\(∀ l,ak P (some l) N L body)/\exec ts G L assign ⟨psT ps.toList (mk x)++T,H s⟩ (λe st1=>e=.normal/\exec ts G L body st1 (rgQ step exE T H Hy st.h.length id x s)))/\
   (∀ s,oy (ao0 s) st.h.length ⟨T,H s⟩)/\∀ y,oy (W1 y) st.h.length ⟨T,Hy y⟩):kZ P none N id (.rangeFunc g ps assign body) C:=by
 refine LV hm hts hG hpn hpN hca hcb λst lc hC hp=>?_;obtain⟨f,caps,τ,ρ,σ,l,mk,step,p,pre,s0,exE,W1,ao0,T,H,Hy,js,h1,rfl,h2,h3,h4,h5,h6,h7,h8⟩:=h st lc hC hp;refine⟨f,caps,l.map mk,σ⊕ρ,T,λz=>match z with| .inl s=>H s| .inr y=>Hy y,λk z=>match z with| .inl s=>dC step (l.drop k) s=dC step l s0/\okL step p (l.drop k) s| .inr _=>False,
  λe z=>match z with| .inl _=>False| .inr y=>dC step l s0=.inl y/\(match e with| .ret=>exE y=.ret| .exit j=>exE y=(bif Nat.beq j id then .normal else .exit j) |_=>False),.inl s0,js,h1,⟨rfl,h2⟩,h3,h4,h5,?_,?_,?_,?_⟩
 rintro k z args hk hI;cases z with
 |inr y=>exact hI.elim
 |inl s=>
  obtain⟨U,X⟩:=hI;rw[aml,amI]at hk;obtain⟨x,hx,rfl⟩:=hk;have hlt:=(alz.1 hx).1;have hd:l.drop k=x::l.drop (k+1):=by
   grind [List.drop_eq_getElem_cons]
  rw[hd]at U X;obtain⟨hl,L,hla,hlb,hex⟩:=h6 x s X.1;refine⟨hl,L,_,hla,hlb,?_,hex⟩;intro e st' V;have fin:∀ e',rgX exE T Hy st.h.length e' st' (step x s)->∃ y js,exE y=e'/\dC step l s0=.inl y/\st.h.length<=(Hy y).length/\Sub js st.h.length ⟨T,st'.h⟩ ⟨T,Hy y⟩:=by
   intro e' q;cases W:step x s with
   |inr s'=>rw[W]at q;exact q.elim
   |inl y=>
    rw[W]at q;obtain⟨O,js,E,q3⟩:=q;grind [dC]
  cases e with
  |normal=>
   change rgN T H st.h.length st' (step x s)at V;cases W:step x s with
   |inl y=>rw[W]at V;exact V.elim
   |inr s'=>
    rw[W]at V;obtain⟨js,O,E⟩:=V;simp only[dC,W]at U;exact⟨.inl s',js,⟨U,X.2 s' W⟩,O,E⟩
  |exit j=>
   obtain⟨y,js,O,E,q3,q4⟩:=fin _ V;exact⟨.inr y,js,⟨E,O⟩,q3,q4⟩
  |ret=>
   obtain⟨y,js,O,E,q3,q4⟩:=fin _ V;exact⟨.inr y,js,⟨E,O⟩,q3,q4⟩
  |pan x=>exact V.elim
 intro z hI;cases z with
 |inr y=>exact hI.elim
 |inl s=>
  obtain⟨js,O,E⟩:=h7 s;have:=hI.1;rw[amo,aoe]at this;exact⟨.inr s,js,this,rfl,O,E⟩
 intro z Y;cases z with
 |inl s=>exact Y.elim
 |inr y=>
  obtain⟨js,O,E⟩:=h8 y;exact⟨.inl y,js,Y.1.symm,Y.2,O,E⟩
 intro j z Y;cases z with
 |inl s=>exact Y.elim
 |inr y=>
  obtain⟨js,O,E⟩:=h8 y;refine⟨.inl y,js,Y.1.symm,?_,O,E⟩;have:=Y.2;show exE y=_;rw[this];by_cases hj:j=id
  rw[if_pos hj];have hb:Nat.beq j id=true:=by rw[hj];exact aoJ id
  rw[hb];rfl;rw[if_neg hj];cases hb:Nat.beq j id with
  |true=>exact absurd (alu hb) hj|false=>rfl
end
section
variable {P:Program}{ρ σ τ:Type}
def yY:Ob->Option Nat
 | .mi _ _ _ c=>c|_=>none
def nxC (step:τ->σ->ρ⊕σ)(l:List τ)(d:τ)(D:List Nat->Option Nat->σ->St)(n0:Nat)(left:List Nat)(s:σ)(st:St):Option Nat->Prop
 |some j=>j∈left/\zU (λ_ s'=>D (left.erase j) (some j) s') n0 0 st (step (l.getD j d) s)
 |none=>False
def exC (step:τ->σ->ρ⊕σ)(l:List τ)(d:τ)(exE:ρ->Ex)(W1:ρ->St)(n0:Nat)(left:List Nat)(s:σ)(e:Ex)(st:St):Option Nat->Prop
 |some j=>j∈left/\tW exE W1 n0 e st (step (l.getD j d) s)|none=>False
def cM (step:τ->σ->ρ⊕σ)(l:List τ)(d:τ)(exE:ρ->Ex)(W1:ρ->St)(ao0:σ->St)(D:List Nat->Option Nat->σ->St)(n0 id it:Nat)(left:List Nat)(s:σ):Ex->St->Prop
 | .normal,st=>nxC step l d D n0 left s st (yY (aq st.h it))| .exit j,st=>bif Nat.beq j id then(left=[]->oy (ao0 s) n0 st)/\(left≠[]->exC step l d exE W1 n0 left s .normal st (yY (aq st.h it)))else exC step l d exE W1 n0 left s (.exit j) st (yY (aq st.h it))| .ret,st=>exC step l d exE W1 n0 left s .ret st (yY (aq st.h it))| .pan x,st=>exC step l d exE W1 n0 left s (.pan x) st (yY (aq st.h it))
variable {step:τ->σ->ρ⊕σ}{l:List τ}{d:τ}{n0 id it j:Nat}{exE:ρ->Ex}{W1:ρ->St}{ao0:σ->St}{D:List Nat->Option Nat->σ->St}{left:List Nat}{s s':σ}{st:St}{x:Value}{e:Ex}{y:ρ}{t:List (Nat×SV)}{h:List Ob}
@[go_sem] def ajP:= @yY.eq_1
@[go_sem] def aht:= @nxC.eq_1
@[go_sem] def ahu:= @exC.eq_1
def afF:cM step l d exE W1 ao0 D n0 id it left s .normal ⟨t,h⟩=nxC step l d D n0 left s ⟨t,h⟩ (yY (aq h it)):=(rfl)
def ajQ:cM step l d exE W1 ao0 D n0 id it left s (.exit j) ⟨t,h⟩=bif Nat.beq j id then(left=[]->oy (ao0 s) n0 ⟨t,h⟩)/\(left≠[]->exC step l d exE W1 n0 left s .normal ⟨t,h⟩ (yY (aq h it)))else exC step l d exE W1 n0 left s (.exit j) ⟨t,h⟩ (yY (aq h it)):=(rfl)
def ala:cM step l d exE W1 ao0 D n0 id it left s .ret ⟨t,h⟩=exC step l d exE W1 n0 left s .ret ⟨t,h⟩ (yY (aq h it)):=(rfl)
def alb:cM step l d exE W1 ao0 D n0 id it left s (.pan x) ⟨t,h⟩=exC step l d exE W1 n0 left s (.pan x) ⟨t,h⟩ (yY (aq h it)):=(rfl)
attribute[go_sem]afF ajQ ala alb
@[congr] theorem ahv {st st':St}{e e':Ex}(h:st=st')(he:e=e'):cM step l d exE W1 ao0 D n0 id it left s e st=cM step l d exE W1 ao0 D n0 id it left s e' st':=by rw[h,he]
attribute [go_sem] TT
def ahw {t:List (Nat×SV)}{h:List Ob}{d:Nat}{s:SV}:St.put ⟨t,h⟩ (some d) s=⟨(d,s)::t,h⟩:=(rfl)
def ahx {t:List (Nat×SV)}{h:List Ob}{s:SV}:St.put ⟨t,h⟩ none s=⟨t,h⟩:=(rfl)
attribute[go_sem]ahw ahx
theorem EJ (l:List τ)(d:τ):(List.range l.length).map (λj=>l.getD j d)=l:=by
 apply List.ext_getElem <;>grind
end
inductive ap3 where
 |slot (i:Nat) (o:Ob)
 |cell (i j:Nat) (o:Ob)
def ac5 (j n:Nat):Ob->Ob
 | .cells l=>.cells (l.set j (.os n))|o=>o
def ac6 (j:Nat):Ob->Prop
 | .cells l=>nth l j=some (.v (.slice none 0 0))|_=>False
def LZ:Ob->Prop
 | .row _ l=>l=[]| .apg _ l=>l=[]|_=>False
def VF:SV->Ob->Prop
 | .v (.slice none 0 0),_=>True| .e0,.row _ _=>True|_,_=>False
def mkN:List ap3->St->St
 | [],st=>st| .slot i o::r,⟨t,h⟩ =>mkN r ⟨(i,.os h.length)::t,h++[o]⟩| .cell i j o::r,⟨t,h⟩ =>mkN r ⟨t,cF h i (ac5 j h.length (aq h i))++[o]⟩
def okN:List ap3->St->Prop
 | [],_=>True| .slot i o::r,⟨t,h⟩ =>VF (lk i t) o/\LZ o/\okN r ⟨(i,.os h.length)::t,h++[o]⟩| .cell i j o::r,⟨t,h⟩ =>ac6 j (aq h i)/\LZ o/\okN r ⟨t,cF h i (ac5 j h.length (aq h i))++[o]⟩
section
variable {i j m n:Nat}{o:Ob}{r:List ap3}{t t2:List (Nat×SV)}{h h2:List Ob}{l:List SV}{ns:List ap3}{js:List Nat}{st:St}
@[go_sem] def ajR:= @mkN.eq_1
@[go_sem] def ahy:= @mkN.eq_2
@[go_sem] def ahz:= @mkN.eq_3
@[go_sem] def ajS:= @okN.eq_1
@[go_sem] def ahA:= @okN.eq_2
@[go_sem] def ahB:= @okN.eq_3
@[go_sem] theorem ahC:VF (.v (.slice none 0 0)) o=True:=by rfl
@[go_sem] def ajT:= @VF.eq_2
@[go_sem] def ac7:= @ac5.eq_1
@[go_sem] def ac8:= @ac6.eq_1
theorem QO (h:LZ o):(∃ k,o=.row k [])\/∃ k,o=.apg k []:=by
 cases o <;>simp only[LZ]at h <;>simp_all
theorem VG {s:SV}{o:Ob}(h:VF s o):s=.v (.slice none 0 0)\/(s=.e0/\∃ k l,o=.row k l):=by
 unfold VF at h;grind
theorem wM:∀ (ns:List ap3) (E st:St),apE E st->okN ns st->apE E (mkN ns st)
 | [],_,_,hn,_=>hn
 | .slot i o::r,E,⟨t,h⟩,hn,hk=>by
  rcases VG hk.1 with e| ⟨e,k,l,O⟩;exact wM r E _ (.slot o hn e (QO hk.2.1)) hk.2.2;have h2:=hk.2.1;have U:=hk.2.2;rw[O]at h2 U;simp only[LZ]at h2;subst h2;subst O;exact wM r E _ (.aqP k hn e) U
 | .cell i j o::r,E,⟨t,h⟩,hn,hk=>by
  refine wM r E _ ?_ hk.2.2;have h1:=hk.1;cases O:aq h i with
  |cells l=>
   rw[O]at h1;simp only[ac6,gH]at h1;exact .cell o hn O h1 (QO hk.2.1)
  |_=>rw[O]at h1;exact h1.elim
def sE (m:Nat)(ns:List ap3)(js:List Nat)(st d:St):Prop:=st.h.length=m/\okN ns st/\m<=d.h.length/\Sub js m (mkN ns st) d
@[go_sem]def afG:sE m ns js ⟨t,h⟩ ⟨t2,h2⟩=(h.length=m/\okN ns ⟨t,h⟩/\m<=h2.length/\Sub js m (mkN ns ⟨t,h⟩) ⟨t2,h2⟩):=(rfl)
end
theorem ag {P:Program}{ro:Option Nat}{N:Nat}(c:Code):ak P ro N L0 c:=by
 induction c with
 |seq a b E O=>exact⟨E,O⟩|cond _ a b E O=>exact⟨E,O⟩
 |block id c hc=>
  cases c with
  |loop c=>exact λ_ _ _ _ _ h=>by cases h
  |rangeFunc f U a b=>exact λ_ _ _ _ _ h=>by cases h
  |_=>exact hc
 |_=>trivial
section
variable {ρ σ τ:Type}
def pT:Nat->σ->Prop:=λ_ _=>True
@[go_sem]def alc {step:Nat->σ->ρ⊕σ}{n i:Nat}{s:σ}:okI step pT n i s=True:=eq_true (ic _ _ _ λ_ _ _ _=>trivial)
def LCR (m:Nat)(ns:List ap3)(js:List Nat)(D:Nat->σ->St)(step:Nat->σ->ρ⊕σ)(p:Nat->σ->Prop)(n:Nat)(s0:σ)(B:Prop)(exE:ρ->Ex)(W1:ρ->St)(st:St):apB:=
 LC (sE m ns js st (D 0 s0)/\B/\okI step p n 0 s0) (aj step n 0 s0) exE W1 (D n)
def LCV (m:Nat)(ns:List ap3)(js:List Nat)(D:Nat->σ->St)(step:Nat->σ->ρ⊕σ)(p:Nat->σ->Prop)(n:Nat)(s0:σ)(exE:ρ->Ex)(W1:ρ->St)(st:St):apB:=
 LC (sE m ns js st (D 0 s0)/\okI step p n 0 s0/\∀ s,aj step n 0 s0≠ .inr s) (aj step n 0 s0) exE W1 (D n)
variable {m:Nat}{ns:List ap3}{js:List Nat}{step:Nat->σ->ρ⊕σ}{p:Nat->σ->Prop}{n:Nat}{s0:σ}{B:Prop}{exE:ρ->Ex}{W1:ρ->St}{ao0:σ->St}{st:St}{Q:Ex->St->Prop}
variable {D:Nat->σ->St}
@[go_sem]def afH:rC Q (some (LCR m ns js D step p n s0 B exE W1 st))=((sE m ns js st (D 0 s0)/\B/\okI step p n 0 s0)/\(∀ x,aj step n 0 s0=.inl x->Q (exE x) (W1 x))/\∀ s,aj step n 0 s0=.inr s->Q .normal (D n s)):=LR
@[go_sem] theorem afI:rC Q (some (LCV m ns js D step p n s0 exE W1 st))=((sE m ns js st (D 0 s0)/\okI step p n 0 s0/\∀ s,aj step n 0 s0≠ .inr s)/\∀ x,aj step n 0 s0=.inl x->Q (exE x) (W1 x)):=by
 refine LR.trans ?_;grind
def cR (step:Nat->σ->ρ⊕σ)(exE:ρ->Ex)(W1:ρ->St)(D:Nat->σ->St)(m id k:Nat)(s:σ):Ex->St->Prop
 | .normal,st=>zU D m k st (step k s)| .exit j,st=>tW exE W1 m (bif Nat.beq j id then .normal else .exit j) st (step k s)| .ret,st=>tW exE W1 m .ret st (step k s)| .pan x,st=>tW exE W1 m (.pan x) st (step k s)
def cZ (d:St)(m id:Nat):Ex->St->Prop
 | .exit j,st=>bif Nat.beq j id then oy d m st else False|_,_=>False
variable {D:Nat->σ->St}{id k j:Nat}{s:σ}{x:Value}{d:St}{e e':Ex}
@[go_sem] def afJ:= @cR.eq_1
@[go_sem] def ajU:= @cR.eq_2
@[go_sem] def ald:= @cR.eq_3
@[go_sem] def ale:= @cR.eq_4
@[go_sem] def ajV:= @cZ.eq_1
@[congr] theorem ahD {st':St}(h:st=st')(he:e=e'):cR step exE W1 D m id k s e st=cR step exE W1 D m id k s e' st':=by rw[h,he]
@[congr] theorem ahE {st':St}(h:st=st')(he:e=e'):cZ d m id e st=cZ d m id e' st':=by rw[h,he]
@[congr] theorem aa7 {r r':ρ⊕σ}(h:r=r')(he:e=e'):tW exE W1 m e st r=tW exE W1 m e' st r':=by rw[h,he]
end
section
variable {P:Program}{ρ σ τ:Type}{ts:Tis}{G:Cons}{ro:Option Nat}{N:Nat}{id:Nat}{c:Code}{C:St->Option apB}{m:Nat}{ns:List ap3}{js:List Nat}{step:Nat->σ->ρ⊕σ}{p:Nat->σ->Prop}{n:Nat}{s0:σ}{exE:ρ->Ex}{W1:ρ->St}{D:Nat->σ->St}
theorem VH {n0:Nat}(X:n0=m){s:σ}{k:Nat}(hlt:k<n){I:Nat×σ->Prop}{μ:Nat×σ->Nat}{ao0:σ->St}{pre:Prop}{E:ρ⊕σ}
  (hI:∀ s',step k s=.inr s'->I (k+1,s')/\μ (k+1,s') <μ (k,s)) (hx:∀ x,step k s=.inl x->E=.inl x):
  ∀ e st',cR step exE W1 D m id k s e st'->uX (λx:Nat×σ=>D x.1 x.2) I μ n0 (k,s) id (λe st'=>∃ r js,(LC pre E exE W1 ao0).post r/\(LC pre E exE W1 ao0).ex r=e/\n0<=((LC pre E exE W1 ao0).out r).h.length/\Sub js n0 st' ((LC pre E exE W1 ao0).out r)) e st':=by
 subst X;have O:∀ e st',tW exE W1 n0 e st' (step k s)->∃ r js,(LC pre E exE W1 ao0).post r/\(LC pre E exE W1 ao0).ex r=e/\n0<=((LC pre E exE W1 ao0).out r).h.length/\Sub js n0 st' ((LC pre E exE W1 ao0).out r):=by
  intro e st' q;cases V:step k s with
  |inr s'=>rw[V]at q;exact q.elim
  |inl x=>
   rw[V]at q;obtain⟨q2,js,W,Y⟩:=q;exact⟨.inl x,js,(hx x V).symm,q2,W,Y⟩
 intro e st' U;cases e with
 |normal=>
  change zU D n0 k st' (step k s)at U;cases V:step k s with
  |inl x=>rw[V]at U;exact U.elim
  |inr s'=>
   rw[V]at U;obtain⟨js,W,Y⟩:=U;obtain⟨i1,i2⟩:=hI s' V;exact⟨(k+1,s'),js,i1,i2,W,Y⟩
 |exit j=>
  change tW exE W1 n0 (bif Nat.beq j id then .normal else .exit j) st' (step k s)at U;show bif Nat.beq j id then _ else _;grind
 |ret=>exact O _ _ U|pan x=>exact O _ _ U
theorem Ba {B:Prop}(hm:P.follows .mixedOrders=true)(hts:ts.ok P)(hG:aoI P G)(hc:cV N c=true)(hC:∀ st,C st=some (LCR m ns js D step p n s0 B exE W1 st))
  (h:B->∀ k s,k<n->p k s->∃ L Q,ak P ro N L c/\(∀ e st',Q e st'->cR step exE W1 D m id k s e st')/\exec ts G L c (D k s) Q)
  (h2:B->∀ s,∃ Q,(∀ e st',Q e st'->cZ (D n s) m id e st')/\exec ts G L0 c (D n s) Q):kZ P ro N id (.loop c) C:=by
 refine uw hm hts hG hc λst lc V hp=>?_;rw[hC st]at V;cases V;obtain⟨⟨O,hok,hle,hsub⟩,hB,h1⟩:=hp;refine⟨Nat×σ,λx=>D x.1 x.2,λx=>x.1<=n/\okI step p (n - x.1) x.1 x.2/\aj step (n - x.1) x.1 x.2=aj step n 0 s0,λx=>n - x.1,(0,s0),mkN ns st,js,⟨al4 _,by omega,by simp⟩,wM ns st st (.refl _) hok,by grind,by grind,?_⟩;rintro⟨k,s⟩ ⟨hk,W,E⟩;simp only at hk W E;rcases amz k n with hlt|hge;rw[show n - k=(n - k - 1)+1 by omega]at E W;obtain⟨L,Q,hl,hQ,U⟩:=h hB k s hlt W.1;have hI:∀ s',step k s=.inr s'->okI step p (n - (k+1)) (k+1) s'/\aj step (n - (k+1)) (k+1) s'=aj step n 0 s0:=λs' X=>by
  have:=W.2 s' X;grind [aj]
 have hx:∀ x,step k s=.inl x->aj step n 0 s0=.inl x:=λx X=>by
  grind [aj]
 exact⟨L,Q,hl,λe st' q=>VH O hlt (λs' X=>⟨⟨hlt,hI s' X⟩,by omega⟩) hx e st' (hQ e st' q),U⟩;have hkn:k=n:=by omega
 subst hkn;obtain⟨Q,hQ,U⟩:=h2 hB s;refine⟨L0,Q,ag c,λe st' q=>?_,U⟩;have Y:=hQ e st' q;simp only[anr,aj]at E;cases e with
 |exit j=>
  change bif Nat.beq j id then oy (D k s) m st' else False at Y;show bif Nat.beq j id then _ else _;cases hb:Nat.beq j id with
  |true=>
   rw[hb]at Y;obtain⟨js,q3,q4⟩:=Y;exact⟨.inr s,js,E,rfl,by rw[O];exact q3,by rw[O];exact q4⟩
  |false=>grind
 |_=>exact Y.elim
theorem bZ {B:Prop}(W:P.follows .mixedOrders=true)(E:ts.ok P)(hG:aoI P G)(hc:cV N c=true)(V:∀ st,C st=some (LCR m ns js D step p n s0 B exE W1 st))(M:Int)(X:n=M.toNat)(O:B->M<9223372036854775808)
  (h:B->∀ k s,k<n->p k s->i64.wrap ((k:Int)+1)=((k+1:Nat):Int)->decide ((k:Int) <M)=true->∃ L,ak P ro N L c/\exec ts G L c (D k s) (cR step exE W1 D m id k s))
  (h2:B->∀ s,decide ((n:Int) <M)=false->exec ts G L0 c (D n s) (cZ (D n s) m id)):kZ P ro N id (.loop c) C:=by
 refine Ba W E hG hc V (λb k s hlt U=>?_) λb s=>⟨_,λ_ _ q=>q,h2 b s ?_⟩;obtain⟨L,h1,Y⟩:=h b k s hlt U (Qf (X▸hlt) (O b)) (decide_eq_true (by omega));grind
 grind
theorem eF (E:Prop)(X:P.follows .mixedOrders=true)(O:ts.ok P)(hG:aoI P G)(hc:cV N c=true)(W:∀ st,C st=some (LCR m ns js D step p n s0 True exE W1 st))(M:Int)(hn:n=M.toNat)(Y:E->M<9223372036854775808)
  (h:E->∀ k s,k<n->p k s->i64.wrap ((k:Int)+1)=((k+1:Nat):Int)->decide ((k:Int) <M)=true->∃ L,ak P ro N L c/\exec ts G L c (D k s) (cR step exE W1 D m id k s))
  (h2:E->∀ s,decide ((n:Int) <M)=false->exec ts G L0 c (D n s) (cZ (D n s) m id)) (V:¬E->∀ k s,exec ts G L0 c (D k s) λ_ _=>False):kZ P ro N id (.loop c) C:=by
 by_cases U:E
 refine Ba X O hG hc W (λb k s hlt hp=>?_) λb s=>⟨_,λ_ _ q=>q,h2 U s ?_⟩;obtain⟨L,h1,h4⟩:=h U k s hlt hp (Qf (hn▸hlt) (Y U)) (decide_eq_true (by omega));grind
 grind
 exact Ba X O hG hc W (λ_ k s _ _=>⟨L0,_,ag c,λ_ _ q=>q.elim,V U k s⟩) λ_ s=>⟨_,λ_ _ q=>q.elim,V U n s⟩
theorem eQ (hm:P.follows .mixedOrders=true)(Y:ts.ok P)(hG:aoI P G)(hc:cV N c=true)(hC:∀ st,C st=some (LCV m ns js D step p n s0 exE W1 st))
  (h:∀ k s,p k s->∃ L,ak P ro N L c/\exec ts G L c (D k s) (cR step exE W1 D m id k s)):kZ P ro N id (.loop c) C:=by
 refine uw hm Y hG hc λst lc U hp=>?_;rw[hC st]at U;cases U;obtain⟨⟨O,X,hle,hsub⟩,h1,hno⟩:=hp;refine⟨Nat×σ,λx=>D x.1 x.2,λx=>x.1<=n/\okI step p (n - x.1) x.1 x.2/\aj step (n - x.1) x.1 x.2=aj step n 0 s0,λx=>n - x.1,(0,s0),mkN ns st,js,⟨al4 _,by omega,by simp⟩,wM ns st st (.refl _) X,by grind,by grind,?_⟩;rintro⟨k,s⟩ ⟨hk,V,E⟩;simp only at hk V E;have hlt:k<n:=by
  rcases amz k n with h|h;exact h;have hkn:k=n:=by omega
  subst hkn;simp only[anr,aj]at E;grind
 rw[show n - k=(n - k - 1)+1 by omega]at E V;obtain⟨L,hl,hex⟩:=h k s V.1;have hI:∀ s',step k s=.inr s'->okI step p (n - (k+1)) (k+1) s'/\aj step (n - (k+1)) (k+1) s'=aj step n 0 s0:=λs' W=>by
  have:=V.2 s' W;grind [aj]
 have hx:∀ x,step k s=.inl x->aj step n 0 s0=.inl x:=λx W=>by
  grind [aj]
 exact⟨L,_,hl,λe st' q=>VH O hlt (λs' W=>⟨⟨hlt,hI s' W⟩,by omega⟩) hx e st' q,hex⟩
theorem fM {α:Type}{l:List α}(h:l.length<=aK):(l.length:Int) <9223372036854775808:=by grind [aK]
end
section
universe u
variable {α:Type u}{G:List SV->α->Prop}{r:List SV}
theorem ay {k:Int->List SV->Option α}(h:∀ n l c,k n l=some c->G (.v (.int .i64 n)::l) c):∀ l c,pI k l=some c->G l c:=λl c hc=>by
 obtain⟨n,r,rfl,h1⟩:=UH hc;grind
theorem Bb {k:Bool->List SV->Option α}(h:∀ n l c,k n l=some c->G (.v (.bool n)::l) c):∀ l c,pB k l=some c->G l c:=λl c hc=>by
 obtain⟨n,r,rfl,h1⟩:=acO hc;grind
variable {t:Tag}
theorem bN{k:List t.T->List SV->Option α}(h:∀ n l c,k n l=some c->G (.rs t n::l) c):∀ l c,pR t k l=some c->G l c:=λl c hc=>by
 obtain⟨n,r,rfl,h1⟩:=acP hc;grind
variable {k:t.T->List SV->Option α}
theorem av(h:∀ n l c,k n l=some c->G (.agg (cellsOf t n)::l) c):∀ l c,pD t k l=some c->G l c:=λl c hc=>by
 obtain⟨n,r,rfl,h1⟩:=JK hc;grind
theorem gD(h:∀ n l c,k n l=some c->G (.ep (cellsOf t n) 0::l) c):∀ l c,pX t k l=some c->G l c:=λl c hc=>by
 obtain⟨n,r,rfl,h1⟩:=UJ hc;grind
theorem ac9{t2:Tag}{k:List (t.T×t2.T)->List SV->Option α}(h:∀ n l c,k n l=some c->G (.rm t t2 n::l) c):∀ l c,pM t t2 k l=some c->G l c:=λl c hc=>by
 obtain⟨n,r,rfl,h1⟩:=UK hc;grind
theorem am {c0:α}(h:G [] c0):∀ l c,pE c0 l=some c->G l c:=λl c hc=>by
 obtain⟨rfl,rfl⟩:=wK hc;exact h
end
end Go.Sx
end
section
namespace Go.Sx
variable {f:FuncId}{a:List SV}
def sF{p:Pk}{b:List SV}:xU [p] (.fn f a b)=AO p (.fn f a b):=(rfl)
def sG{b:List SV}:AO .o (.fn f a b)=.fn f a b:=(rfl)
end Go.Sx
end
