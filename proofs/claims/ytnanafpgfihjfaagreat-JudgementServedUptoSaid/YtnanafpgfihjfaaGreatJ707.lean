/- Part of the proof that the law JudgementServed returns true and leaves its arguments as they were, for all arguments of bulk at most 1048576 (the Upto form). -/
import Derived.Test.YtnanafpgfihjfaaGreatJ706
import Derived.RecoverIn
import Derived.Laws.Pointers
import Derived.Test.YtnanafpgfihjfaaGreatProg
set_option linter.all false
set_option maxHeartbeats 4000000
set_option maxRecDepth 100000
section
namespace Go.Sx
open Go.RowKit
open IntKind (i64)
section
variable {P:Program}{w0:Bs}{ts:Tis}{G:Cons}{L:wF}{N:Nat}
def wU (ids:List Nat)(h:List Ob):List Ob:=ba h (ids.map fun id=>(id,Ob.dead))
theorem HW (h:List Ob)(id:Nat):∀ (ids:List Nat) (h:List Ob),ar (wU ids h) id=if id∈ids then .dead else ar h id
 | [],h=>by rfl
 |a::r,h=>by
  have ih:=HW h id r (bM h a .dead);have e:wU (a::r) h=wU r (bM h a .dead):=rfl;rw[e,ih];by_cases h1:id∈r
  simp[h1];rw[if_neg h1,dv];grind
def Nh (ids:List Nat)(i:Nat):Option Nat:=(AF i ids).map (· +1)
def Lc (ids:List Nat)(h:List Ob):List Ob:=ids.map fun i=>xz (Nh ids) (ar h i)
def mQ (st:St)(caps:List SV):List Nat:=reach st.h 64 (caps.flatMap (gf 3)) []
def Wn (lc:LCon)(n0:Nat)(e:Ex)(st:St):Prop:= ∃ r js,lc.post r/\lc.ex r=e/\n0<=(lc.out r).h.length/\Sub js n0 st (lc.out r)
theorem Wo {F:Nat->Prop}{own:Own}{st:St}{a:Act}{w:World}(hr:StRel F w0 N own st a w)(x:Operand):Rel F own w (raw st.t x) (a.eval x):=by
 cases x with
 |tmp t=>exact hr.slots t|const v=>exact .v v
 |func f=>exact .fn rfl rfl (fun j s h=>by simp at h) (fun j s h=>by simp at h)
 |global g=>exact .any _
theorem Ld (hm:P.follows .mixedOrders=true)(hts:ts.ok P)(hG:ConsOk P G){id:Nat}{g:Operand}{ps:Array Tmp}{assign body:Code}{C:St->Option LCon}
  (hpn:ps.toList.Nodup) (hpN:∀ p∈ps.toList,p<N) (hca:cD N assign=true) (hcb:cD N body=true)
  (h:∀ st lc,C st=some lc->lc.pre->∃ (f:FuncId) (caps:List SV) (items:List (List SV)) (σ:Type) (T:List (Nat×SV)) (Hx:σ->List Ob) (I:Nat->σ->Prop) (S:Ex->σ->Prop) (x0:σ) (js:List Nat),
   raw st.t g=.fn f [] caps/\I 0 x0/\st.h.length<=(Hx x0).length/\Sub js st.h.length ⟨st.t,wU (mQ st caps) st.h⟩ ⟨T,Hx x0⟩/\
   FG P f (fun y=>y::caps.map (ren (Nh (mQ st caps)) 3)) (Lc (mQ st caps) st.h) items/\
   (∀ k y args,items[k]? =some args->I k y->args.length=ps.size/\∃ L Qx,(∀ l,ap P (some l) N L assign)/\(∀ l,ap P (some l) N L body)/\(∀ e st',Qx e st'->itQ T Hx I S st.h.length k e st')/\exec ts G L assign ⟨psT ps.toList args++T,Hx y⟩ (fun e st1=>e=.normal/\exec ts G L body st1 Qx))/\
   (∀ y,I items.length y->Wn lc st.h.length .normal ⟨T,Hx y⟩)/\(∀ y,S .ret y->Wn lc st.h.length .ret ⟨T,Hx y⟩)/\
   ∀ j y,S (.exit j) y->Wn lc st.h.length (if j=id then .normal else .exit j) ⟨T,Hx y⟩):mP P none N id (.rangeFunc g ps assign body) C:=by
 intro nd F w0 st lc hC hpre own a w hr;obtain⟨f,caps,items,σ,T,Hx,I,S,x0,js,hg,hI0,hle0,hsub0,hit,hround,hN,hRet,hEx⟩:=h st lc hC hpre;have hrel:=Wo hr g;rw[hg]at hrel;generalize hev:a.eval g=gv at hrel;cases hrel with
 | @fn _ _ _ us lb e1 e2 e3 e4=>
  have hus:us= #[]:=by
   grind
  subst hus;have hcaps:RelL F own w caps lb:=⟨e2,e4⟩;have hids:∀ i∈mQ st caps,∃ hd,own i=some hd:=zJ hr.hp 64 _ [] (fun i hi=>by
   obtain⟨x,hx,hxi⟩:=aj3.1 hi;obtain⟨j,hj⟩:=aiU hx;exact Jl 3 x _ (hcaps.2 j x hj) i hxi) (fun i hi=>by cases hi)
  have hnd:(mQ st caps).Nodup:=sP st.h 64 _ [] ajC;generalize hidsE:mQ st caps=ids at hids hnd hsub0 hit;refine wpIn_block (wpIn_rangeFunc fun fn _=>?_);let rc:LRec:=⟨w.heap.size+1,fn,a.tmps,ps,assign,body,w.heap.size⟩
  let yv:Value:=.func (.yield (w.heap.size+1)) #[] #[]
  obtain⟨W1,hW1⟩:∃ W1,(w.alloc (.deferred (some []))).alloc (rc.obj .ready none)=W1:=⟨_,rfl⟩;have hsz1:W1.heap.size=w.heap.size+2:=by grind [My]
  have hold:∀ b,b<w.heap.size->W1.heap[b]? =w.heap[b]?:=fun b hb=>by
   grind [ur]
  have hl1:W1.heap[w.heap.size+1]? =some (rc.obj .ready none):=by
   rw[<-hW1];have:=nO (w.alloc (.deferred (some []))) (rc.obj .ready none);simp_all
  have hD1:W1.heap[w.heap.size]? =some (.deferred (some [])):=by
   rw[<-hW1,ur _ _ _ (by simp_all)];exact nO w _
  refine⟨w.heap.size+1,[{ target:=.collected w.heap.size,args:= #[]}],W1,{ target:=.fn (.func f) lb,args:= #[yv]},W1,f,#[yv]++lb,W1,?_,?_,fun _ _=>trivial,?_,fun h=>(by cases h),?_⟩;rw[<-hW1];exact run_enterLoop_outer _ _ _ _ _;simp only[resolve,hev];simp[go_sem,yv];simp[invoke,go_sem,hit.1];let own_s:Own:=fun i=>if i∈ids then(own i).map (fun hd=>{ hd with bs:=[]})else own i
  let F1:Nat->Prop:=fun b=>F b\/b=w.heap.size\/b=w.heap.size+1\/∃ i hd,i∈ids/\own i=some hd/\b∈hd.bs
  have hs1:∀ i hd,own_s i=some hd->∃ hd0,own i=some hd0/\hd0.like hd/\∀ b∈hd.bs,i ∉ ids/\hd=hd0:=fun i hd e=>by
   by_cases hi:i∈ids
   simp only[own_s,if_pos hi,ajl]at e;obtain⟨hd0,e1,rfl⟩:=e;exact⟨hd0,e1,⟨rfl,rfl,rfl⟩,fun b hb=>by cases hb⟩;simp only[own_s,if_neg hi]at e;exact⟨hd,e,.refl _,fun b _=>⟨hi,rfl⟩⟩
  have hs2:∀ i hd,own i=some hd->∃ hd',own_s i=some hd'/\hd.like hd':=fun i hd e=>by
   grind
  have hcar1:Carries F own w F1 own_s W1:=⟨hs2,fun b hb hn=>⟨by
   rintro ((hf|hf|hf| ⟨i,hd,_,e,hm⟩) | ⟨i,hd,e,hm⟩);exact hn (.inl hf);omega;omega;exact hn (.inr ⟨i,hd,e,hm⟩);obtain⟨hd0,e0,_,e1⟩:=hs1 i hd e;obtain⟨_,rfl⟩:=e1 b hm;exact hn (.inr ⟨i,hd,e0,hm⟩),hold b hb⟩⟩
  have hp1:Hp F1 own_s W1 (wU ids st.h):=by
   refine⟨fun i hd e=>?_,fun b hb=>?_,fun i hd b e hm hb=>?_,fun i j hi hj b e1 e2 h1 h2=>?_,fun i hd b e hm=>?_,fun i hdd=>?_⟩;obtain⟨hd0,e0,_⟩:=hs1 i hd e;exact aiy (hr.hp.dom i hd0 e0) (AQ _ _);rcases hb with hf|hf|hf| ⟨i,hd,_,e,hm⟩;have:=hr.hp.foreign b hf;omega;omega;omega;have:=hr.hp.lt i hd b e hm;omega;obtain⟨hd0,e0,_,e1⟩:=hs1 i hd e;obtain⟨hni,rfl⟩:=e1 b hm;have hlt:=hr.hp.lt i hd b e0 hm;rcases hb with hf|hf|hf| ⟨i2,hd2,h1,h2,h3⟩;exact hr.hp.apart i hd b e0 hm hf;omega;omega;exact hni (hr.hp.inj i i2 hd hd2 b e0 h2 hm h3▸h1);obtain⟨hd1,k1,_,k2⟩:=hs1 i hi e1;obtain⟨hd2,k3,_,k4⟩:=hs1 j hj e2;obtain⟨_,rfl⟩:=k2 b h1;obtain⟨_,rfl⟩:=k4 b h2;exact hr.hp.inj i j hi hj b k1 k3 h1 h2;obtain⟨hd0,e0,_,e1⟩:=hs1 i hd e;obtain⟨_,rfl⟩:=e1 b hm;have:=hr.hp.lt i hd b e0 hm;omega;rw[HW st.h i ids st.h]at hdd |-;by_cases hi:i∈ids
   rw[if_pos hi]at hdd;cases hdd;rw[if_neg hi]at hdd |-;obtain⟨hd,e1,e2⟩:=hr.hp.obs i hdd;exact⟨hd,by grind,e2.carry hcar1 (by omega) fun b hm=>hold b (hr.hp.lt i hd b e1 hm)⟩
  obtain⟨q1,q2,q3,q4⟩:=M_ hsub0 hp1 hle0;change Hp F1 (i9 js (Hx x0) own_s) W1 (Hx x0)at q1;generalize hown0:i9 js (Hx x0) own_s=own_0 at q1 q2 q3 q4;have h0s:∀ i hd b,own_0 i=some hd->b∈hd.bs->∃ j,j ∉ ids/\own j=some hd:=fun i hd b e hm=>by
   rw[<-hown0]at e;obtain⟨_,j,hd0,_,e2,_,e4⟩:=jx e;grind
  have hslot1:∀ t,Rel F1 own_0 W1 (lk t T) (a.tmps.getD t undef):=fun t=>by
   rcases Ef t _ hsub0.2.1 with e| ⟨e1,e2⟩;rw[e];exact .any _;have h1:=(hr.slots t).carry hcar1;grind
  let bs0:List Nat:=(w.heap.size+1)::Wm own_0 (Hx x0).length
  have hbs0:∀ b,b∈bs0↔b=w.heap.size+1\/∃ i hd,own_0 i=some hd/\b∈hd.bs:=fun b=>by
   show b∈_::_↔_;rw[aiu,FH q1.dom]
  let Ff:Nat->Prop:=fun b=>F b\/b=w.heap.size
  let own_f:Own:=fun i=>match i with|0=>some ⟨none,yv,[],bs0⟩ |i+1=>(ids[i]?).bind own
  have hf1:∀ i hd,own_f (i+1)=some hd->∃ j,ids[i]? =some j/\own j=some hd:=fun i hd e=>by
   grind
  have hffo:∀ b,cm Ff own_f b->(F b\/b=w.heap.size\/b=w.heap.size+1)\/∃ i hd,own i=some hd/\b∈hd.bs:=by
   rintro b ((hf|hf) | ⟨i,hd,e,hm⟩) <;>grind
  let Fs:Nat->Prop:=fun b=>F b\/b=w.heap.size\/b=w.heap.size+1
  have hcar0:Carries F own w Fs own W1:=⟨fun _ hd e=>⟨hd,e,.refl _⟩,fun b hb hn=>⟨by
   rintro ((hf|hf|hf) |ho);exact hn (.inl hf);omega;omega;exact hn (.inr ho),hold b hb⟩⟩
  have hrn:Rn (Nh ids) own own_f:=⟨fun i j hd hm e=>by
   unfold Nh at hm;rw[ajl]at hm;obtain⟨k,hk,rfl⟩:=hm;refine⟨hd,?_,.refl _⟩;show(ids[k]?).bind own=some hd;rw[rR ids i k hk];exact e⟩
  have hsh:∀ b,¬cm Fs own b->¬cm Ff own_f b:=fun b hn ho=>hn (hffo b ho);let F':Nat->Prop:=fun b=>cm Ff own_f b/\b ∉ bs0
  have hF'1:∀ b,Fw F' rc.l W1 b->F1 b:=by
   rintro b (⟨⟨ho,hn⟩,_⟩ |hb);rcases ho with(hf|hf) | ⟨i,hd,e,hm⟩ <;>grind;grind
  have hcarP:Carries F1 own_0 W1 (Fw F' rc.l W1) own_0 W1:=⟨fun _ hd e=>⟨hd,e,.refl _⟩,fun b _ hn=>⟨fun ho=>hn (ho.imp (hF'1 b) (fun e=>e)),rfl⟩⟩;have hpk:Pack rc T own st.h.length (Hx x0) (rc.obj .ready none) own_0 F' bs0 W1:=by
   refine⟨⟨q1.dom,fun b hb=>q1.foreign b (hF'1 b hb),fun i hd b e hm hb=>q1.apart i hd b e hm (hF'1 b hb),q1.inj,q1.lt,fun i hdd=>?_⟩,fun t=>(hslot1 t).carry hcarP,hbs0,fun i hd e=>?_,fun hf=>hf.2 ((hbs0 _).2 (.inl rfl)),hl1,hle0⟩;obtain⟨hd,e1,e2⟩:=q1.obs i hdd;exact⟨hd,e1,e2.carry hcarP (aio _) fun _ _=>rfl⟩;obtain⟨hd1,k1,l1⟩:=hs2 i hd e;obtain⟨hd2,k2,l2⟩:=q4 i hd1 (hr.hp.dom i hd e) k1;exact⟨hd2,k2,l1.trans l2⟩
  have hpf:Hp Ff own_f W1 (.ab (itR rc T own st.h.length Hx I S 1)::Lc ids st.h):=by
   refine⟨fun i hd e=>?_,fun b hb=>?_,fun i hd b e hm hb=>?_,fun i j hi hj b e1 e2 h1 h2=>?_,fun i hd b e hm=>?_,fun i hdd=>?_⟩;grind [Lc]
   rcases hb with hf|hf;have:=hr.hp.foreign b hf;omega;omega;have hnot:∀ i hd,own i=some hd->b∈hd.bs->False:=fun i hd e hm=>by
    rcases hb with hf|hf;exact hr.hp.apart i hd b e hm hf;have:=hr.hp.lt i hd b e hm;omega
   cases i with
   |zero=>
    cases e;rcases(hbs0 b).1 hm with h| ⟨i,hd,e,hm⟩;rcases hb with hf|hf;have:=hr.hp.foreign b hf;omega;omega;grind
   |succ i=>grind
   have hmix:∀ i hd,own_f (i+1)=some hd->b∈hd.bs->b∈bs0->False:=fun i hd e hm h0=>by
    obtain⟨j,k1,k2⟩:=hf1 i hd e;rcases(hbs0 b).1 h0 with h| ⟨i2,hd2,e2,hm2⟩;have:=hr.hp.lt j hd b k2 hm;omega;obtain⟨j2,k3,k4⟩:=h0s i2 hd2 b e2 hm2;exact k3 (hr.hp.inj j2 j hd2 hd b k4 k2 hm2 hm▸aiw k1)
   cases i with
   |zero=>
    grind
   |succ i=>
    cases j with
    |zero=>grind
    |succ j=>
     obtain⟨k,k1,k2⟩:=hf1 i hi e1;obtain⟨k',k3,k4⟩:=hf1 j hj e2;have:=hr.hp.inj k k' hi hj b k2 k4 h1 h2;grind [uc]
   rcases hffo b (.inr ⟨i,hd,e,hm⟩)with(h|h|h) | ⟨j,hd2,k,hm2⟩;have:=hr.hp.foreign b h;omega;omega;omega;have:=hr.hp.lt j hd2 b k hm2;omega;cases i with
   |zero=>exact⟨_,rfl,rfl,x0,own_0,hI0,hpk⟩
   |succ i=>
    have hob:ar (.ab (itR rc T own st.h.length Hx I S 1)::Lc ids st.h) (i+1)=ar (Lc ids st.h) i:=rfl;rw[hob]at hdd |-;rw[tV]at hdd |-;unfold Lc at hdd |-;rw[ai7]at hdd |-;cases hi:ids[i]? with
    |none=>grind [dg]
    |some j=>
     rw[hi]at hdd;simp only[ajt,aky]at hdd |-;rw[xI]at hdd;obtain⟨hd,e1,e2⟩:=hr.hp.obs j hdd;refine⟨hd,by grind,?_⟩;have e3:ObRel Fs own W1 hd (ar st.h j):=e2.carry hcar0 (by omega) fun b hm=>hold b (hr.hp.lt j hd b e1 hm);refine Fe hrn hsh (fun b _ ho=>?_) e3;grind
  have hvs:RelL Ff own_f W1 (.os 0::caps.map (ren (Nh ids) 3)) (#[yv]++lb):=by
   refine⟨by grind,fun j s hj=>?_⟩;cases j with
   |zero=>
    simp at hj;subst hj;have:(#[yv]++lb).getD 0 undef=yv:=by simp only[aiB];rw[aiS (by simp)];rfl
    rw[this];exact Rel.os (hd:=⟨none,yv,[],bs0⟩) rfl rfl
   |succ j=>
    simp only[akf]at hj;obtain⟨s0,k1,rfl⟩:=iW hj;have:(#[yv]++lb).getD (j+1) undef=lb.getD j undef:=by
     simp only[aiB];rw[ajz (by simp)];simp
    rw[this];exact Ec hrn hsh 3 s0 _ ((e4 j s0 k1).carry hcar0)
  refine CallsIn.mono (qG (hit.2 (itR rc T own st.h.length Hx I S) (fun k=>(Yy k).1) (aah hm hts hG hr.size (fun i hd e=>hr.hp.dom i hd e) hpn hpN hca hcb hround) Ff own_f W1 _ hpf hvs)) ?_;rintro e w3 ⟨u,own',j,h',rfl,hj,hp3,fr3⟩;obtain⟨hd0,e0,hv0,hR⟩:=hp3.obs 0 rfl;have hl3:∀ {y own_e o},Pack rc T own st.h.length (Hx y) o own_e (fun b=>cm Ff own' b/\b ∉ hd0.bs) hd0.bs w3->w3.heap[w.heap.size+1]? =some o:=fun pk=>pk.rcd;have fin:∀ y own_e s p,Pack rc T own st.h.length (Hx y) (rc.obj s p) own_e (fun b=>cm Ff own' b/\b ∉ hd0.bs) hd0.bs w3->
    StRel Fs w0 N own_e ⟨T,Hx y⟩ { a with defers:=[{ target:=.collected w.heap.size,args:= #[]}]++a.defers} (w3.putObj (w.heap.size+1) (rc.obj .exhausted p)):=by
   intro y own_e s p pk;have hsz3:=fr3.size;have hsz3':W1.heap.size<=w3.heap.size:=hsz3;have hl3s:w.heap.size+1<w3.heap.size:=by omega
   have hoth:∀ c,c≠w.heap.size+1->(w3.putObj (w.heap.size+1) (rc.obj .exhausted p)).heap[c]? =w3.heap[c]?:=fun c hc=>World.putObj_heap_other hc;have hownE:∀ i hd b,own_e i=some hd->b∈hd.bs->b∈hd0.bs/\b≠w.heap.size+1:=fun i hd b e hm=>⟨(pk.bs b).2 (.inr ⟨i,hd,e,hm⟩),fun e'=>pk.hp.apart i hd b e hm (.inr e')⟩;have hnF:∀ b,b∈hd0.bs->¬Ff b:=fun b hb hf=>hp3.apart 0 hd0 b e0 hb hf;have hFsFw:∀ b,Fs b->Fw (fun b=>cm Ff own' b/\b ∉ hd0.bs) rc.l w3 b:=fun b hb=>by
    rcases hb with hf|hf|hf;exact .inl ⟨⟨.inl (.inl hf),fun hm=>hnF b hm (.inl hf)⟩,hp3.foreign b (.inl hf)⟩;exact .inl ⟨⟨.inl (.inr hf),fun hm=>hnF b hm (.inr hf)⟩,hp3.foreign b (.inr hf)⟩;exact .inr hf
   have hcarE:Carries (Fw (fun b=>cm Ff own' b/\b ∉ hd0.bs) rc.l w3) own_e w3 Fs own_e (w3.putObj (w.heap.size+1) (rc.obj .exhausted p)):=⟨fun _ hd e=>⟨hd,e,.refl _⟩,fun b _ hn=>⟨fun ho=>hn (ho.imp (hFsFw b) (fun e=>e)),hoth b fun e=>hn (.inl (.inr e))⟩⟩;have hkeep:∀ b,b<w.heap.size->(¬ ∃ i hd,own i=some hd/\b∈hd.bs)->w3.heap[b]? =w.heap[b]?:=fun b hb hn=>by
    rw[fr3.block b ⟨by show b<W1.heap.size;omega,fun⟨i,hd,e,hm⟩ =>?_⟩];exact hold b hb;cases i with
    |zero=>
     cases e;rcases(hbs0 b).1 hm with h| ⟨i,hd,e,hm⟩;omega;obtain⟨j,_,k⟩:=h0s i hd b e hm;exact hn ⟨j,hd,k,hm⟩
    |succ i=>obtain⟨j,_,k⟩:=hf1 i hd e;exact hn ⟨j,hd,k,hm⟩
   have hD3:w3.heap[w.heap.size]? =some (.deferred (some [])):=by
    rw[fr3.block w.heap.size ⟨by show w.heap.size<W1.heap.size;omega,fun⟨i,hd,e,hm⟩ =>hpf.apart i hd _ e hm (.inr rfl)⟩];exact hD1
   refine⟨hr.size,?_,⟨pk.hp.dom,fun b hb=>?_,fun i hd b e hm hb=>pk.hp.apart i hd b e hm (hFsFw b hb),pk.hp.inj,fun i hd b e hm=>by have:=pk.hp.lt i hd b e hm;simpa using this,fun i hdd=>?_⟩,hr.fr.trans ⟨pk.ids,fun i hd b e hm ho=>?_,fr3.os.trans (by rw[<-hW1];rfl),fr3.tape.trans (by rw[<-hW1];rfl),fr3.output.trans (by rw[<-hW1];rfl),by simp;omega,fun b hb=>?_⟩,fun t=>(pk.slots t).carry hcarE⟩;obtain⟨ms,Ds,k0,k1,k2,k3⟩:=hr.defers;refine⟨{ target:=.collected w.heap.size,args:= #[]}::ms,w.heap.size::Ds,by simp[k0],by simp[k1],ai1.2 ⟨fun hm=>?_,k2⟩,fun D hD=>?_⟩;have:=qC (k3 _ hm).2.2;omega;rcases aiu.1 hD with rfl|hD;exact⟨hr.fr.size,.inr (.inl rfl),by rw[hoth _ (by omega)];exact hD3⟩;obtain⟨m1,m2,m3⟩:=k3 D hD;have hlt:=qC m3;exact⟨m1,.inl m2,by rw[hoth _ (by omega),hkeep D hlt fun⟨i,hd,e,hm⟩ =>hr.hp.apart i hd D e hm m2];exact m3⟩;have:=pk.hp.foreign b (hFsFw b hb);simpa using this;obtain⟨hd,e1,e2⟩:=pk.hp.obs i hdd;exact⟨hd,e1,e2.carry hcarE (by simp) fun b hm=>hoth b (hownE i hd b e1 hm).2⟩;have h1:=fr3.base 0 hd0 b e0 (hownE i hd b e hm).1;refine h1 ⟨by show b<W1.heap.size;have:=ho.1;change b<w.heap.size at this;omega,fun⟨i2,hd2,e2,hm2⟩ =>?_⟩;cases i2 with
   |zero=>
    cases e2;rcases(hbs0 b).1 hm2 with h| ⟨i3,hd3,e3,hm3⟩;exact(hownE i hd b e hm).2 h;obtain⟨j,_,k⟩:=h0s i3 hd3 b e3 hm3;exact ho.2 ⟨j,hd3,k,hm3⟩
   |succ i2=>obtain⟨j,_,k⟩:=hf1 i2 hd2 e2;exact ho.2 ⟨j,hd2,k,hm2⟩
   have hblt:b<w.heap.size:=hb.1;rw[hoth b (by omega)];exact hkeep b hblt hb.2
  have fin2:∀ y own_e s p ex,Pack rc T own st.h.length (Hx y) (rc.obj s p) own_e (fun b=>cm Ff own' b/\b ∉ hd0.bs) hd0.bs w3->Wn lc st.h.length ex ⟨T,Hx y⟩->
    ∃ F3 own3 st3,(∀ b,F b->F3 b)/\StRel F3 w0 N own3 st3 { a with defers:=[{ target:=.collected w.heap.size,args:= #[]}]++a.defers} (w3.putObj (w.heap.size+1) (rc.obj .exhausted p))/\∃ r,lc.post r/\ex=lc.ex r/\st3=lc.out r:=by
   rintro y own_e s p ex pk ⟨r,js2,m1,m2,m3,m4⟩;exact⟨Fs,_,_,fun b hb=>.inl hb,(fin y own_e s p pk).sub m4 hr.base_lt m3,r,m1,m2.symm,rfl⟩
  rcases hj with rfl|rfl;obtain⟨ex,y,own_e,hS,hjm,pk⟩:=hR;refine⟨Ng ex,_,run_endLoop (P:=P) (hl3 pk) (by simp[LRec.obj]),?_⟩;cases ex with
  |normal=>cases hjm|pan x=>cases hjm|ret=>exact wpIn_ret (fin2 y own_e _ _ .ret pk (hRet y hS))
  |exit jj=>
   refine wpIn_exit ?_;have h2:=fin2 y own_e _ _ _ pk (hEx jj y hS);show if jj=id then _ else _;by_cases hjj:jj=id
   rw[if_pos hjj]at h2 |-;exact h2;rw[if_neg hjj]at h2 |-;exact h2
  obtain⟨y,own_e,hIy,pk⟩:=hR;exact⟨none,_,run_endLoop (P:=P) (hl3 pk) (by simp[LRec.obj]),fin2 y own_e _ _ .normal pk (hN y hIy)⟩
end
def okI {ρ σ:Type}(step:Nat->σ->ρ⊕σ)(p:Nat->σ->Prop):Nat->Nat->σ->Prop
 |0,_,_=>True|n+1,i,s=>p i s/\∀ s',step i s=.inr s'->okI step p n (i+1) s'
theorem kU {ρ σ:Type}{step:Nat->σ->ρ⊕σ}{p:Nat->σ->Prop}:∀ (n i:Nat) (s:σ),(∀ j s,i<=j->j<i+n->p j s)->okI step p n i s
 |0,_,_,_=>trivial
 |n+1,i,s,h=>⟨h i s (aio _) (by omega),fun s' _=>kU n (i+1) s' fun j s h1 h2=>h j s (by omega) (by omega)⟩
theorem BI {ρ σ:Type}{step:Nat->σ->ρ⊕σ}{p:Nat->σ->Prop}(J:Nat->σ->Prop):∀ (n i:Nat) (s:σ),J i s->(∀ j s,i<=j->j<i+n->J j s->p j s/\∀ s',step j s=.inr s'->J (j+1) s')->okI step p n i s
 |0,_,_,_,_=>trivial
 |n+1,i,s,h0,h=>⟨(h i s (aio _) (by omega) h0).1,fun s' hs=>BI J n (i+1) s' ((h i s (aio _) (by omega) h0).2 s' hs) fun j s h1 h2=>h j s (by omega) (by omega)⟩
theorem Le {ρ σ:Type}{step:Nat->σ->ρ⊕σ}(J:Nat->σ->Prop):∀ (n i:Nat) (s:σ),J i s->(∀ j s,i<=j->j<i+n->J j s->∀ s',step j s=.inr s'->J (j+1) s')->∀ r,aq step n i s=.inr r->J (i+n) r
 |0,i,s,h0,_,r,hr=>by grind [aq]
 |n+1,i,s,h0,h,r,hr=>by
  simp only[aq]at hr;cases hs:step i s with
  |inl x=>grind
  |inr s'=>
   rw[hs]at hr;have:=Le J n (i+1) s' (h i s (aio _) (by omega) h0 s' hs) (fun j s h1 h2=>h j s (by omega) (by omega)) r hr;grind
section
variable {P:Program}{ρ σ:Type}
def Lf (D:Nat->σ->St)(js:List Nat)(n0 k:Nat)(st:St):ρ⊕σ->Prop
 | .inl _=>False| .inr s'=>n0<=(D (k+1) s').h.length/\Sub js n0 st (D (k+1) s')
def exQ (exE:ρ->Ex)(outE:ρ->St)(js:List Nat)(n0:Nat)(e:Ex)(st:St):ρ⊕σ->Prop
 | .inl x=>exE x=e/\n0<=(outE x).h.length/\Sub js n0 st (outE x)| .inr _=>False
def cQ (step:Nat->σ->ρ⊕σ)(n:Nat)(exE:ρ->Ex)(outE:ρ->St)(outN:σ->St)(D:Nat->σ->St)(js:List Nat)(n0 id k:Nat)(s:σ):Ex->St->Prop
 | .normal,st=>k<n/\Lf D js n0 k st (step k s)| .exit j,st=>bif Nat.beq j id then(n<=k->n0<=(outN s).h.length/\Sub js n0 st (outN s))/\(k<n->exQ exE outE js n0 .normal st (step k s))else k<n/\exQ exE outE js n0 (.exit j) st (step k s)| .ret,st=>k<n/\exQ exE outE js n0 .ret st (step k s)| .pan x,st=>k<n/\exQ exE outE js n0 (.pan x) st (step k s)
variable {step:Nat->σ->ρ⊕σ}{n n0 id k j:Nat}{exE:ρ->Ex}{outE:ρ->St}{outN:σ->St}{D:Nat->σ->St}{js:List Nat}{s s':σ}{st:St}{x:Value}{e:Ex}{y:ρ}
@[go_sem] theorem acA:Lf (ρ:=ρ) D js n0 k st (.inr s')=(n0<=(D (k+1) s').h.length/\Sub js n0 st (D (k+1) s')):=(rfl)
@[go_sem] theorem agI:exQ (σ:=σ) exE outE js n0 e st (.inl y)=(exE y=e/\n0<=(outE y).h.length/\Sub js n0 st (outE y)):=(rfl)
@[go_sem] theorem acB:cQ step n exE outE outN D js n0 id k s .normal st=(k<n/\Lf D js n0 k st (step k s)):=(rfl)
@[go_sem] theorem agJ:cQ step n exE outE outN D js n0 id k s (.exit j) st=bif Nat.beq j id then(n<=k->n0<=(outN s).h.length/\Sub js n0 st (outN s))/\(k<n->exQ exE outE js n0 .normal st (step k s))else k<n/\exQ exE outE js n0 (.exit j) st (step k s):=(rfl)
@[go_sem] theorem aho:cQ step n exE outE outN D js n0 id k s .ret st=(k<n/\exQ exE outE js n0 .ret st (step k s)):=(rfl)
@[go_sem] theorem ahp:cQ step n exE outE outN D js n0 id k s (.pan x) st=(k<n/\exQ exE outE js n0 (.pan x) st (step k s)):=(rfl)
@[congr] theorem Yz {r r':ρ⊕σ}(h:r=r'):Lf D js n0 k st r=Lf D js n0 k st r':=by rw[h]
@[congr] theorem acC {r r':ρ⊕σ}(h:r=r'):exQ exE outE js n0 e st r=exQ exE outE js n0 e st r':=by rw[h]
@[congr] theorem aeo {st st':St}{e e':Ex}(h:st=st')(he:e=e'):cQ step n exE outE outN D js n0 id k s e st=cQ step n exE outE outN D js n0 id k s e' st':=by rw[h,he]
theorem HX {ts:Tis}{G:Cons}{ro:Option Nat}{N:Nat}(hm:P.follows .mixedOrders=true)(hts:ts.ok P)(hG:ConsOk P G){id:Nat}{c:Code}(hc:cD N c=true){C:St->Option LCon}
  (h:∀ st lc,C st=some lc->lc.pre->∃ (ρ σ:Type) (pre:Prop) (step:Nat->σ->ρ⊕σ) (p:Nat->σ->Prop) (n:Nat) (s0:σ) (exE:ρ->Ex) (outE:ρ->St) (outN:σ->St) (D:Nat->σ->St) (js:List Nat),
   lc=LC pre (aq step n 0 s0) exE outE outN/\okI step p n 0 s0/\st.h.length<=(D 0 s0).h.length/\Sub js st.h.length st (D 0 s0)/\
   ∀ k s,k<=n->(k<n->p k s)->∃ L,ap P ro N L c/\exec ts G L c (D k s) (cQ step n exE outE outN D js st.h.length id k s)):mP P ro N id (.loop c) C:=by
 refine BH hm hts hG hc fun st lc hC hp=>?_;obtain⟨ρ,σ,pre,step,p,n,s0,exE,outE,outN,D,js,rfl,h1,h2,h3,h4⟩:=h st lc hC hp;refine⟨Nat×σ,fun x=>D x.1 x.2,fun x=>x.1<=n/\okI step p (n - x.1) x.1 x.2/\aq step (n - x.1) x.1 x.2=aq step n 0 s0,fun x=>n - x.1,(0,s0),js,⟨aiX _,by omega,by simp⟩,h2,h3,?_⟩;rintro⟨k,s⟩ ⟨hk,hJ,hrun⟩;simp only at hk hJ hrun;obtain⟨L,hl,hex⟩:=h4 k s hk (fun hlt=>by
  rw[show n - k=(n - k - 1)+1 by omega]at hJ;exact hJ.1)
 refine⟨L,_,hl,?_,hex⟩;have hfin:∀ e st',k<n->exQ exE outE js st.h.length e st' (step k s)->∃ r js,(LC pre (aq step n 0 s0) exE outE outN).post r/\(LC pre (aq step n 0 s0) exE outE outN).ex r=e/\st.h.length<=((LC pre (aq step n 0 s0) exE outE outN).out r).h.length/\Sub js st.h.length st' ((LC pre (aq step n 0 s0) exE outE outN).out r):=by
  intro e st' hlt q;cases hs:step k s with
  |inr s'=>rw[hs]at q;exact q.elim
  |inl x=>
   rw[hs]at q;obtain⟨q2,q3,q4⟩:=q;rw[show n - k=(n - k - 1)+1 by omega]at hrun;simp only[aq,hs]at hrun;exact⟨.inl x,js,hrun,q2,q3,q4⟩
 intro e st' hq;cases e with
 |normal=>
  obtain⟨q1,q2⟩:=hq;cases hs:step k s with
  |inl x=>rw[hs]at q2;exact q2.elim
  |inr s'=>
   rw[hs]at q2;rw[show n - k=(n - (k+1))+1 by omega]at hrun hJ;simp only[aq,hs]at hrun;exact⟨(k+1,s'),js,⟨q1,hJ.2 s' hs,hrun⟩,by grind,q2.1,q2.2⟩
 |exit j=>
  have hq':(bif Nat.beq j id then(n<=k->st.h.length<=(outN s).h.length/\Sub js st.h.length st' (outN s))/\(k<n->exQ exE outE js st.h.length .normal st' (step k s))else k<n/\exQ exE outE js st.h.length (.exit j) st' (step k s)):=hq;show bif Nat.beq j id then _ else _;cases hb:Nat.beq j id with
  |true=>
   rw[hb]at hq';simp only[cond_true]at hq' |-;by_cases hlt:k<n
   grind
   obtain⟨q3,q4⟩:=hq'.1 (by omega);have hkn:k=n:=by omega
   subst hkn;simp only[aj2,aq]at hrun;exact⟨.inr s,js,hrun,rfl,q3,q4⟩
  |false=>grind
 |ret=>exact hfin _ _ hq.1 hq.2|pan x=>exact hfin _ _ hq.1 hq.2
end
def cy {ρ σ:Type}[Inhabited σ]:ρ⊕σ->σ| .inr s=>s| .inl _=>default
def fK {ρ σ:Type}[Inhabited ρ]:ρ⊕σ->ρ| .inl s=>s| .inr _=>default
@[go_sem] theorem SS {ρ σ:Type}[Inhabited σ]{s:σ}:cy (ρ:=ρ) (.inr s)=s:=(rfl)
@[go_sem] theorem SU {ρ σ:Type}[Inhabited ρ]{s:ρ}:fK (σ:=σ) (.inl s)=s:=(rfl)
theorem Oz {k:Nat}{n:Int}(h:k<n.toNat)(hn:n<9223372036854775808):i64.wrap ((k:Int)+1)=((k+1:Nat):Int):=by
 grind [cI]
def we (pks:List Pk):SV->SV
 | .tup l=>.tup (bD pks l)
 |s=>match pks with| [p] =>Ct p s|_=>s
section
variable {F:Nat->Prop}{own:Own}{w:World}
theorem BJ {pks:List Pk}{s:SV}{v:Value}(h:Rel F own w s v):Rel F own w (we pks s) v:=by
 unfold we;split
 cases h with
 |tup h0 h1=>
  refine .tup (by rw[FE];exact h0) fun j s hj=>?_;obtain⟨s0,e1,e2| ⟨p,e2⟩⟩:=FF _ _ _ _ hj;subst e2;exact h1 j _ e1;subst e2;exact FD (h1 j _ e1)
 split
 exact FD h;exact h
@[go_sem] theorem aep {pks:List Pk}{l:List SV}:we pks (.tup l)=.tup (bD pks l):=(rfl)
@[go_sem] theorem aeq {p:Pk}{l:List SV}:we [p] (.agg l)=Ct p (.agg l):=(rfl)
@[go_sem] theorem ahq {p:Pk}{x:Value}:we [p] (.v x)=Ct p (.v x):=(rfl)
@[go_sem] theorem agK {p:Pk}{k:Tag}{l:List k.T}:we [p] (.rs k l)=Ct p (.rs k l):=(rfl)
@[go_sem] theorem agL {p:Pk}{k k2:Tag}{l:List (k.T×k2.T)}:we [p] (.rm k k2 l)=Ct p (.rm k k2 l):=(rfl)
@[go_sem] theorem agM {p:Pk}:we [p] .e0=Ct p .e0:=(rfl)
end
section
variable {P:Program}{ts:Tis}{G:Cons}
theorem ax (pks:List Pk) (hm:P.follows .mixedOrders=true) (hts:ts.ok P) (hG:ConsOk P G) {f:FuncId} {fn:Func} {c:Code} (hf:P.funcs[f]? =some fn) (hb:fn.body=some c) (hname:(fn.name== "runtime.NumGoroutine")=false)
  (hc:cD fn.ntmps c=true) {C:List SV->Option Con}
  (h:∀ l con,C l=some con->aw con->l.length<=fn.ntmps/\∃ L,ap P none fn.ntmps L c/\exec ts G L c ⟨nN 0 l,[]⟩ (Kx false fn.results.toList ts (fun s=>dw con (we pks s)) (nQ con))):FnOk P f C:=by
 refine⟨fun l con _ args w=>?_,fun l con hcon hpre F w vs hF hvs=>?_⟩;have hn:¬fn.name= "runtime.NumGoroutine":=by simpa using hname
 simp[callFunc,hf,hn,hb];obtain⟨hlen,L,hl,hx⟩:=h l con hcon hpre;refine pW (n:=0) (callsIn_of_wp_marks hf hb trivial ?_);have hr:StRel F { w:=w,own:=cF} fn.ntmps cF ⟨nN 0 l,[]⟩ { tmps:=vs++Array.replicate (fn.ntmps - vs.size) undef,defers:=[]} w:=
  ⟨by have:=hvs.1;simp;omega,Dfr.nil,xL hF,Fr.refl _,fun t=>nR hvs _ t⟩
 refine wpIn_mono (oK hm hts hG c hc hl F _ _ hx cF _ w hr) ?_;intro e a' w' hq;have key:∀ F1 own st,(∀ b,F b->F1 b)->StRel F1 { w:=w,own:=cF} fn.ntmps own st a' w'->fh (fun s=>dw con (we pks s)) (AI false fn.results.toList ts st)->LeavesInM (rd none) 0 P fn a'.tmps
   (fun e w'=>(∃ s u own',dw con s/\e=.returned u/\Handed F w own' w' s u/\Below w.heap.size w w')\/(∃ x,nQ con x/\e=.panicked [{ v:=x,recovered:=false}]/\Below w.heap.size w w')) a'.defers .returning w':=by
  intro F1 own st hF1 hst hdone;refine j_ hst (by simp) fun w2 hst2=>?_;have hst3:=hst2.less hF1 rfl;simp only[AI,cond_false,yB]at hdone;cases hs:mz (k9 ts st fn.results.toList)with
  |none=>rw[hs]at hdone;exact hdone.elim
  |some s=>
   obtain⟨u,e1,e2⟩:=xK (P:=P) hts hst3 hs;refine⟨u,e1,.inl ?_⟩;rw[hs]at hdone;exact⟨_,u,cF,hdone,rfl,vJ hst3.hp.foreign (BJ (vG hst3.hp 4 s u e2)),qH hst3.fr⟩
 cases e with
 |normal=>obtain⟨F1,own,st,h0,h1,h2⟩:=hq;exact key F1 own st h0 h1 h2
 |ret=>obtain⟨F1,own,st,h0,h1,h2⟩:=hq;exact key F1 own st h0 h1 h2
 |exit id=>obtain⟨F1,own,st,h0,h1,h2⟩:=hq;exact h2.elim
 |panic ch=>
  obtain⟨x,F1,own,st,h0,h1,h2,rfl⟩:=hq;exact j_ h1 (by simp) fun w2 hst2=>.inr ⟨x,h2,rfl,qH hst2.fr⟩
 |_=>exact hq.elim
end
theorem xN {o:Ob}(ho:N9 o=false):∀ (h:List Ob) (i:Nat),nM h=false->nM (bM h i o)=false
 | [],0,_=>by simp[bM,nM,ho]
 | [],n+1,_=>by simp[bM,nM,N9,xN ho [] n rfl]
 |a::r,0,h=>by grind [nM,bM]
 |a::r,n+1,h=>by simp only[nM,ai8]at h;simp[bM,nM,h.1,xN ho r n h.2]
def Lg (P:Program)(g:FuncId)(C:Value->Option SV):Prop:=
 (∀ (args:Array Value) (w:World),(callFunc g args).run P w=.ok (.enter g args) w)/\
 (∀ (p:Addr) (w:World),CallsDIn (rd none) 0 P g #[.pointer (some p)] .returning w (fun e u' w'=>(∃ v,e=.returned v)/\u'=.returning/\w'=w))/\
 ∀ (x:Value) (s:SV),C x=some s->∀ (F:Nat->Prop) (own:Own) (w:World) (h:List Ob) (id:Nat) (hd:Hd) (b:Nat) (y:SV),nM h=false->Hp F own w h->ar h id=.cells [y]->own id=some hd->hd.p=some b->
  CallsDIn (rd none) 0 P g #[.pointer (some ⟨b,0,none⟩)] (.panicking [{ v:=x,recovered:=false}]) w (fun e u' w'=>(∃ v,e=.returned v)/\u'=.panicking [{ v:=x,recovered:=true}]/\∃ own',Hp F own' w' (bM h id (.cells [s]))/\Fr { w:=w,own:=own} own' w')
section
variable {P:Program}{ts:Tis}{G:Cons}
theorem Jx {n:Nat}{g:FuncId}{i1 t3 q:Nat}{o1 o2:Oper}{tys:Array TypeId}{Q:Exit->Act->World->Prop}{a:Act}{w:World}{b:Nat}
  (ho1:o1.dst=some t3/\o1.op=.makeFunc (.func g) #[] #[.tmp q]/\o1.guard=none) (ho2:o2.dst=none/\o2.op=.defer ⟨.value (.tmp t3),#[],tys⟩/\o2.guard=none)
  (hq:a.tmps.getD q undef=.pointer (some ⟨b,0,none⟩)) (ht3:t3<a.tmps.size)
  (h:Q .normal { tmps:=a.tmps.setIfInBounds t3 (.func (.func g) #[] #[.pointer (some ⟨b,0,none⟩)]),defers:= { target:=.fn (.func g) #[.pointer (some ⟨b,0,none⟩)],args:= #[]}::a.defers} w):
  (Code.region i1 #[o1,o2] false).wpIn (rd none) n P Q a w:=by
 obtain⟨d1,p1,t1,s1,f1,g1⟩:=o1;obtain⟨d2,p2,t2,s2,f2,g2⟩:=o2;obtain⟨rfl,rfl,rfl⟩:=ho1;obtain⟨rfl,rfl,rfl⟩:=ho2;refine wpIn_region ?_;have hget:(a.tmps.setIfInBounds t3 (.func (.func g) #[] #[.pointer (some ⟨b,0,none⟩)])).getD t3 undef=.func (.func g) #[] #[.pointer (some ⟨b,0,none⟩)]:=by
  simp_all
 have hr1:List.range (#[(⟨some t3,.makeFunc (.func g) #[] #[.tmp q],t1,s1,f1,none⟩:Oper),(⟨none,.defer ⟨.value (.tmp t3),#[],tys⟩,t2,s2,f2,none⟩:Oper)]:Array Oper).size=[0,1]:=rfl;rw[hr1];simp only[wpOpsIn,Oper.wpIn,Region.wanted];have e1:(#[(⟨some t3,.makeFunc (.func g) #[] #[.tmp q],t1,s1,f1,none⟩:Oper),(⟨none,.defer ⟨.value (.tmp t3),#[],tys⟩,t2,s2,f2,none⟩:Oper)]:Array Oper)[0]? =some ⟨some t3,.makeFunc (.func g) #[] #[.tmp q],t1,s1,f1,none⟩:=rfl;have e2:(#[(⟨some t3,.makeFunc (.func g) #[] #[.tmp q],t1,s1,f1,none⟩:Oper),(⟨none,.defer ⟨.value (.tmp t3),#[],tys⟩,t2,s2,f2,none⟩:Oper)]:Array Oper)[1]? =some ⟨none,.defer ⟨.value (.tmp t3),#[],tys⟩,t2,s2,f2,none⟩:=rfl;rw[e1,e2];simp only[if_true];refine⟨fun _ _=>trivial,?_⟩;have r1:((⟨some t3,.makeFunc (.func g) #[] #[.tmp q],t1,s1,f1,none⟩:Oper).semAt (rd none).round a.eval).run P w=.ok (.value (.func (.func g) #[] #[.pointer (some ⟨b,0,none⟩)])) w:=by
  simp[Oper.semAt,execOp,go_sem,Act.eval,hq];try rfl
 rw[r1];simp only[Oper.uponIn_value];refine⟨fun _ _=>trivial,?_⟩;have r2:((⟨none,.defer ⟨.value (.tmp t3),#[],tys⟩,t2,s2,f2,none⟩:Oper).semAt (rd none).round (a.put (some t3) (.func (.func g) #[] #[.pointer (some ⟨b,0,none⟩)])).eval).run P w=.ok (.defer { target:=.fn (.func g) #[.pointer (some ⟨b,0,none⟩)],args:= #[]}) w:=by
  simp[Oper.semAt,execOp,go_sem,Act.eval,Act.put,hget];try rfl
 rw[r2];simp only[Oper.uponIn_defer];exact h
theorem xO {F:Nat->Prop}{w0:Bs}{ro:Option Nat}{nd N:Nat}(hm:P.follows .mixedOrders=true)(hts:ts.ok P)(hG:ConsOk P G){id:Nat}{ops:Array Oper}(hc:cD N (.region id ops false)=true){st:St}{Q:St->Prop}{L:wF}(hx:exec ts G L (.region id ops false) st (fun e st=>e=.normal/\Q st))
  {own:Own} {a:Act} {w:World} (hr:StRel F w0 N own st a w):(Code.region id ops false).wpIn (rd ro) nd P (fun e a w=>e=.normal/\∃ own st,StRel F w0 N own st a w/\Q st) a w:=by
 have hx':EU (Dn ts G ops false st) (fun e st=>e=.normal/\Q st) (L (id+2000000) st):=hx;have key:∀ Q:Ex->St->Prop,(∀ x st,¬Q (.pan x) st)->Dn ts G ops false st Q->(Code.region id ops false).wpIn (rd ro) nd P (fun e a w=>e=.normal/\∃ own st,StRel F w0 N own st a w/\Q .normal st) a w:=by
  intro Q hpan hx';simp only[cD,aim]at hc;obtain⟨h1,h2⟩:=hc;have hrok:=Sk h1;obtain⟨l⟩:=ops;have hx':j7 ts G l l st (fun st'=>Q .normal (yA l st')) (fun x st'=>Q (.pan x) st'):=hx';refine wpIn_region_list ?_;exact MV (K:=fun st'=>Q .normal (yA l st')) (Z:=fun x st'=>Q (.pan x) st') hts hG hrok (fun x own st a w h1 h2=>(hpan x _ h2).elim) l 0 own st a w rfl (hr.start l fun k hk=>by omega) hx' fun own st a w hi hk=>⟨rfl,own,_,StRel.finish hi,hk⟩
 cases hlc:L (id+2000000) st with
 |none=>
  rw[hlc]at hx';refine wpIn_mono (key (fun e st=>e=.normal/\Q st) (fun x st h=>(by cases h.1)) hx') fun e a w ⟨h1,own,st,h2,h3⟩ =>⟨h1,own,st,h2,h3.2⟩
 |some lc=>
  rw[hlc]at hx';refine wpIn_mono (key (adg lc fun e st=>e=.normal/\Q st) (fun x st h=>(by have h:Ex.pan x=.normal/\Q st:=h;cases h.1)) hx'.1) fun e a w ⟨h1,own,st,h2,r,h3,h4,h5⟩ =>⟨h1,own,_,h2.subJ h4 h5,(hx'.2 r h3).2⟩
def G0:Ob->Prop
 | .cells [_] =>True|_=>False
theorem FI {o:Ob}(h:G0 o):∃ y,o=.cells [y]:=by
 unfold G0 at h;grind
def SW (rs:List ResultVar)(ts:Tis)(post:SV->Prop)(id:Nat)(st:St):Option SV->Prop
 |some s=>G0 (ar st.h id)/\nM st.h=false/\fh post (yB rs ts ⟨st.t,bM st.h id (.cells [s])⟩)|none=>False
def SX (C:Value->Option SV)(rs:List ResultVar)(ts:Tis)(post:SV->Prop)(id:Nat):Ex->St->Prop
 | .exit _,_=>False| .normal,st=>fh post (yB rs ts st)| .ret,st=>fh post (yB rs ts st)| .pan x,st=>SW rs ts post id st (C x)
@[go_sem] theorem aai {y:SV}:G0 (.cells [y])=True:=(rfl)
@[go_sem] theorem acD {rs:List ResultVar}{ts:Tis}{post:SV->Prop}{id:Nat}{st:St}{s:SV}:SW rs ts post id st (some s)=(G0 (ar st.h id)/\nM st.h=false/\fh post (yB rs ts ⟨st.t,bM st.h id (.cells [s])⟩)):=(rfl)
section
variable {C:Value->Option SV}{rs:List ResultVar}{ts:Tis}{post:SV->Prop}{id:Nat}{st:St}{x:Value}
@[go_sem] theorem YA:SX C rs ts post id .normal st=fh post (yB rs ts st):=(rfl)
@[go_sem] theorem aer:SX C rs ts post id .ret st=fh post (yB rs ts st):=(rfl)
@[go_sem] theorem aes:SX C rs ts post id (.pan x) st=SW rs ts post id st (C x):=(rfl)
end
def rT:Code->Code| .seq a _=>a|c=>c
def pY:Code->Code| .seq _ b=>b|c=>c
def Wp:Code->Nat| .region i _ _=>i|_=>0
def SY (i:Nat):Code->Oper| .region _ ops _=>ops.getD i default|_=>default
theorem aaj {g:FuncId}{RC:Value->Option SV}(hrec:Lg P g RC)(pks:List Pk)(hm:P.follows .mixedOrders=true)(hts:ts.ok P)(hG:ConsOk P G){f:FuncId}{fn:Func}{c0 c1:Code}{i1 t3 q:Nat}{o1 o2:Oper}{tys:Array TypeId}
  (hf:P.funcs[f]? =some fn) (hb:fn.body=some (.seq c0 (.seq (.region i1 #[o1,o2] false) c1))) (hname:(fn.name== "runtime.NumGoroutine")=false)
  (ho1:o1.dst=some t3/\o1.op=.makeFunc (.func g) #[] #[.tmp q]/\o1.guard=none) (ho2:o2.dst=none/\o2.op=.defer ⟨.value (.tmp t3),#[],tys⟩/\o2.guard=none) (ht3:t3<fn.ntmps)
  (hc0:cD fn.ntmps c0=true) (hc1:cD fn.ntmps c1=true) {C:List SV->Option Con}
  (h:∀ l con,C l=some con->aw con->l.length<=fn.ntmps/\∃ L L' id,ap P none fn.ntmps L c0/\ap P none fn.ntmps L' c1/\exec ts G L c0 ⟨nN 0 l,[]⟩ (fun e st=>e=.normal/\lk q st.t=.ptr id 0/\G0 (ar st.h id)/\
   exec ts G L' c1 ⟨(t3,.any)::st.t,st.h⟩ (SX RC fn.results.toList ts (fun s=>dw con (we pks s)) id))):FnOk P f C:=by
 refine⟨fun l con _ args w=>?_,fun l con hcon hpre F w vs hF hvs=>?_⟩;simp_all [callFunc]
 ·obtain⟨hlen,L,L',id,hl,hl',hx⟩:=h l con hcon hpre;refine pW (n:=0) (callsIn_of_wp_marks hf hb trivial ?_);have hr:StRel F { w:=w,own:=cF} fn.ntmps cF ⟨nN 0 l,[]⟩ { tmps:=vs++Array.replicate (fn.ntmps - vs.size) undef,defers:=[]} w:=
   ⟨by have:=hvs.1;simp;omega,Dfr.nil,xL hF,Fr.refl _,fun t=>nR hvs _ t⟩
  refine wpIn_seq (wpIn_mono (oK hm hts hG c0 hc0 hl F _ _ hx cF _ w hr) ?_);intro e a1 w1 hq;cases e with
  |normal=>
   obtain⟨F1,own1,st1,hF1,hst1,_,hlk,_,hx1⟩:=hq;have hsq:=hst1.slots q;rw[hlk]at hsq;generalize hv:a1.tmps.getD q undef=pv at hsq;cases hsq with
   | @ptr _ _ b hd ho hp=>
   show(Code.seq (.region i1 #[o1,o2] false) c1).wpIn (rd none) 0 P _ a1 w1;have hsz:=hst1.size;refine wpIn_seq (Jx ho1 ho2 hv (by omega) ?_);show c1.wpIn (rd none) 0 P _ _ w1;obtain⟨ms,Ds,k0,k1,k2,k3⟩:=hst1.defers;have k0':a1.defers=ms:=by grind
   let d:Deferred:= { target:=.fn (.func g) #[.pointer (some ⟨b,0,none⟩)],args:= #[]}
   let B:Bs:= { w:=w1,own:=own1,ds:=d::a1.defers}
   have hr2:StRel F1 B fn.ntmps own1 ⟨(t3,.any)::st1.t,st1.h⟩ { tmps:=a1.tmps.setIfInBounds t3 (.func (.func g) #[] #[.pointer (some ⟨b,0,none⟩)]),defers:=d::a1.defers} w1:=by
    refine⟨by grind,Dfr.nil,hst1.hp,Fr.refl B,fun t=>?_⟩;rw[pV];by_cases ht:t3=t
    rw[if_pos ht];exact .any _;rw[if_neg ht];have:=hst1.slots t;simp_all
   have hbd:∀ D∈Ds,¬ ∃ id hd,own1 id=some hd/\D∈hd.bs:=fun D hD ⟨i,hd,e,hm⟩ =>hst1.hp.apart i hd D e hm (k3 D hD).2.1;have fin:∀ F2 own2 st2 (a2:Act) w2,(∀ b,F1 b->F2 b)->StRel F2 B fn.ntmps own2 st2 a2 w2->fh (fun s=>dw con (we pks s)) (yB fn.results.toList ts st2)->
     LeavesInM (rd none) 0 P fn a2.tmps (fun e w'=>(∃ s u own',dw con s/\e=.returned u/\Handed F w own' w' s u/\Below w.heap.size w w')\/(∃ x,nQ con x/\e=.panicked [{ v:=x,recovered:=false}]/\Below w.heap.size w w')) a1.defers .returning w2:=by
    intro F2 own2 st2 a2 w2 hF2 hst2 hdone;have hB:StRel F2 { w:=w,own:=cF} fn.ntmps own2 st2 { a2 with defers:=[]} w2:=⟨hst2.size,Dfr.nil,hst2.hp,hst1.fr.trans ⟨hst2.fr.ids,hst2.fr.base,hst2.fr.os,hst2.fr.tape,hst2.fr.output,hst2.fr.size,hst2.fr.block⟩,hst2.slots⟩;have hkeep:∀ D∈Ds,w2.heap[D]? =some (.deferred (some [])):=fun D hD=>by
     rw[hst2.fr.block D ⟨qC (k3 D hD).2.2,hbd D hD⟩];grind
    rw[k0',<-aiQ ms];refine wT (by simp) Ds ms w2 k1 k2 hkeep fun w4 hs=>?_;have hst4:=(hB.shut (Ds:=Ds) (fun D hD=>⟨(k3 D hD).1,hF2 D (k3 D hD).2.1,hkeep D hD⟩) hs).less (fun c hc=>hF2 c (hF1 c hc)) rfl;simp only[yB]at hdone;cases hres:mz (k9 ts st2 fn.results.toList)with
    |none=>rw[hres]at hdone;exact hdone.elim
    |some s=>
     obtain⟨u,e1,e2⟩:=xK (P:=P) hts hst4 hres;rw[hres]at hdone;exact⟨u,e1,.inl ⟨_,u,cF,hdone,rfl,vJ hst4.hp.foreign (BJ (vG hst4.hp 4 s u e2)),qH hst4.fr⟩⟩
   have hinv:∀ w2:World,(invoke (.fn (.func g) #[.pointer (some ⟨b,0,none⟩)]) #[]).run P w2=.ok (.enter g #[.pointer (some ⟨b,0,none⟩)]) w2:=fun w2=>by simp[invoke,go_sem,hrec.1]
   refine wpIn_mono (oK hm hts hG c1 hc1 hl' F1 _ _ hx1 own1 _ w1 hr2) ?_;have idle:∀ (a':Act) (w':World) F2 own2 st2,(∀ b,F1 b->F2 b)->StRel F2 B fn.ntmps own2 st2 a' w'->fh (fun s=>dw con (we pks s)) (yB fn.results.toList ts st2)->
     LeavesInM (rd none) 0 P fn a'.tmps (fun e w'=>(∃ s u own',dw con s/\e=.returned u/\Handed F w own' w' s u/\Below w.heap.size w w')\/(∃ x,nQ con x/\e=.panicked [{ v:=x,recovered:=false}]/\Below w.heap.size w w')) a'.defers .returning w':=by
    intro a' w' F2 own2 st2 hF2 hst2 hdone;refine j_ hst2 (by simp) fun w2 hst3=>?_;refine⟨by simp,.inr ⟨fun h=>(by cases h),.func g,#[.pointer (some ⟨b,0,none⟩)],g,#[.pointer (some ⟨b,0,none⟩)],rfl,hinv w2,fun _ _=>trivial,?_⟩⟩;refine(hrec.2.1 ⟨b,0,none⟩ w2).mono ?_;rintro e u' w3 ⟨⟨v,rfl⟩,rfl,rfl⟩;exact fin F2 own2 st2 { a' with defers:=B.ds} _ hF2 hst3 hdone
   intro e a' w' hq;cases e with
   |normal=>obtain⟨F2,own2,st2,h0,h1,h2⟩:=hq;exact idle a' w' F2 own2 st2 h0 h1 h2
   |ret=>obtain⟨F2,own2,st2,h0,h1,h2⟩:=hq;exact idle a' w' F2 own2 st2 h0 h1 h2
   |exit jd=>obtain⟨F2,own2,st2,h0,h1,h2⟩:=hq;exact h2.elim
   |panic ch=>
    obtain⟨x,F2,own2,st2,h0,h1,hm,rfl⟩:=hq;change SW fn.results.toList ts _ id st2 (RC x)at hm;cases m1:RC x with
    |none=>rw[m1]at hm;exact hm.elim
    |some s=>
    rw[m1]at hm;obtain⟨hm2,m4,m3⟩:=hm;obtain⟨y,m2⟩:=FI hm2;refine j_ h1 (by simp) fun w2 hst3=>?_;refine⟨by simp,.inr ⟨fun h=>(by cases h),.func g,#[.pointer (some ⟨b,0,none⟩)],g,#[.pointer (some ⟨b,0,none⟩)],rfl,hinv w2,fun _ _=>trivial,?_⟩⟩;obtain⟨hd2,e2,l2⟩:=hst3.fr.ids id hd ho;refine(hrec.2.2 x s m1 F2 own2 w2 st2.h id hd2 b y m4 hst3.hp m2 e2 (l2.1.trans hp)).mono ?_;rintro e u' w3 ⟨⟨v,rfl⟩,rfl,own3,q1,q2⟩;exact fin F2 own3 ⟨st2.t,_⟩ { a' with defers:=B.ds} w3 h0 (hst3.moved q1 q2) m3
   |_=>exact hq.elim
  |ret=>obtain⟨F1,own,st,h0,h1,h2,_⟩:=hq;cases h2
  |exit jd=>obtain⟨F1,own,st,h0,h1,h2,_⟩:=hq;cases h2
  |panic ch=>obtain⟨x,F1,own,st,h0,h1,⟨h2,_⟩,_⟩:=hq;cases h2
  |_=>exact hq.elim
end
end Go.Sx
end
section
namespace Go.Sx
open Go.Proofs
theorem kr {p:Prop}(h:p:=by kernel_rfl):p:=h
def ti3:TI:=⟨1,8,false,[(.v (.int .i64 0))],[],0,0,false,false,(some .int),(some .i64),false,[],none,none,1⟩
def ti4:TI:=⟨1,1,false,[(.v (.bool false))],[],0,0,false,false,(some .bool),none,false,[],none,none,3⟩
def ti9:TI:=⟨1,16,false,[(.v (.string (ByteArray.mk #[])))],[],0,0,false,false,(some .str),none,false,[],none,none,2⟩
def Wq:TI:=⟨2,16,true,[(.v (.int .i64 0)),(.v (.int .i64 0))],[(0,(1,false)),(1,(1,false))],0,0,false,false,(some .tank),none,false,[1,1],none,none,0⟩
def Wr:TI:=⟨1,24,false,[(.v (.slice none 0 0))],[],156,0,true,false,none,none,false,[],none,none,0⟩
def Ws:TI:=⟨1,24,false,[(.v (.slice none 0 0))],[],158,0,true,false,none,none,false,[],none,none,0⟩
def Wt:TI:=⟨1,24,false,[(.v (.slice none 0 0))],[],219,0,true,false,none,none,false,[],none,none,0⟩
def Wu:TI:=⟨1,24,false,[(.v (.slice none 0 0))],[],118,0,true,false,none,none,false,[],none,none,0⟩
def Wv:TI:=⟨1,24,false,[(.v (.slice none 0 0))],[],222,0,true,false,none,none,false,[],none,none,0⟩
def Ww:TI:=⟨1,24,false,[(.v (.slice none 0 0))],[],326,0,true,false,none,none,false,[],none,none,0⟩
def Wx:TI:=⟨10,184,true,[(.v (.string (ByteArray.mk #[]))),(.v (.int .i64 0)),(.v (.int .i64 0)),(.v (.int .i64 0)),(.v (.slice none 0 0)),(.v (.slice none 0 0)),(.v (.slice none 0 0)),(.v (.slice none 0 0)),(.v (.slice none 0 0)),(.v (.slice none 0 0))],[(0,(1,false)),(1,(1,false)),(2,(2,true)),(4,(1,false)),(5,(1,false)),(6,(1,false)),(7,(1,false)),(8,(1,false)),(9,(1,false))],0,0,false,false,(some .district),none,false,[],none,none,0⟩
def Ni:TI:=⟨1,24,false,[(.v (.slice none 0 0))],[],68,0,true,false,none,none,false,[],none,none,0⟩
def Wy:TI:=⟨1,24,false,[(.v (.slice none 0 0))],[],66,0,true,false,none,none,false,[],none,none,0⟩
def Nj:TI:=⟨1,8,false,[(.v .nilFunc)],[],0,0,false,false,(some .fnc),none,false,[],none,none,0⟩
def Wz:TI:=⟨1,24,false,[(.v (.slice none 0 0))],[],3,0,true,false,none,none,false,[],none,none,0⟩
def WA:TI:=⟨1,24,false,[(.v (.slice none 0 0))],[],55,0,true,false,none,none,false,[],none,none,0⟩
def WB:TI:=⟨2,48,true,[(.v (.slice none 0 0)),(.v (.slice none 0 0))],[(0,(1,false)),(1,(1,false))],0,0,false,false,(some .cases),none,false,[],none,none,0⟩
def WC:TI:=⟨1,24,false,[(.v (.slice none 0 0))],[],62,0,true,false,none,none,false,[],none,none,0⟩
def WD:TI:=⟨5,72,true,[(.v (.int .i64 0)),(.v (.int .i64 0)),(.v (.int .i64 0)),(.v (.slice none 0 0)),(.v (.slice none 0 0))],[(0,(1,false)),(1,(1,false)),(2,(1,false)),(3,(1,false)),(4,(1,false))],0,0,false,false,(some .case),none,false,[],none,none,0⟩
def WE:TI:=⟨1,24,false,[(.v (.slice none 0 0))],[],176,0,true,false,none,none,false,[],none,none,0⟩
def WF:TI:=⟨2,48,true,[(.v (.slice none 0 0)),(.v (.slice none 0 0))],[(0,(1,false)),(1,(1,false))],0,0,false,false,(some .plea),none,false,[],none,none,0⟩
def WG:TI:=⟨6,96,true,[(.v (.int .i64 0)),(.v (.int .i64 0)),(.v (.int .i64 0)),(.v (.slice none 0 0)),(.v (.slice none 0 0)),(.v (.slice none 0 0))],[(0,(1,false)),(1,(1,false)),(2,(1,false)),(3,(2,true)),(5,(1,false))],0,0,false,false,(some .suit),none,false,[],none,none,0⟩
def WH:TI:=⟨1,8,false,[(.v (.map none))],[],4,0,false,false,none,none,false,[],(some .int),(some .bool),0⟩
def WI:TI:=⟨9,72,true,[(.v (.int .i64 0)),(.v (.int .i64 0)),(.v (.int .i64 0)),(.v (.int .i64 0)),(.v (.int .i64 0)),(.v (.int .i64 0)),(.v (.int .i64 0)),(.v (.int .i64 0)),(.v (.int .i64 0))],[(0,(1,false)),(1,(1,false)),(2,(1,false)),(3,(1,false)),(4,(1,false)),(5,(1,false)),(6,(1,false)),(7,(1,false)),(8,(1,false))],0,0,false,false,(some .judgement),none,false,[1,1,1,1,1,1,1,1,1],none,none,0⟩
def WJ:TI:=⟨5,40,true,[(.v (.int .i64 0)),(.v (.int .i64 0)),(.v (.int .i64 0)),(.v (.int .i64 0)),(.v (.int .i64 0))],[(0,(1,false)),(1,(1,false)),(2,(1,false)),(3,(1,false)),(4,(1,false))],0,0,false,false,(some .claim),none,false,[1,1,1,1,1],none,none,0⟩
def WK:TI:=⟨1,8,false,[(.v (.map none))],[],3,0,false,false,none,none,false,[],(some .int),(some .int),0⟩
def WL:TI:=⟨1,24,false,[(.v (.slice none 0 0))],[],235,0,true,false,none,none,false,[],none,none,0⟩
def WN:TI:=⟨1,8,false,[(.v (.map none))],[],98,0,false,false,none,none,false,[],(some .int),(some .fnc),0⟩
def OA:TI:=⟨10,88,true,[(.v (.string (ByteArray.mk #[]))),(.v (.int .i64 0)),(.v (.int .i64 0)),(.v (.int .i64 0)),(.v (.int .i64 0)),(.v (.int .i64 0)),(.v (.int .i64 0)),(.v (.int .i64 0)),(.v (.int .i64 0)),(.v (.int .i64 0))],[(0,(1,false)),(1,(1,false)),(2,(1,false)),(3,(1,false)),(4,(1,false)),(5,(1,false)),(6,(1,false)),(7,(1,false)),(8,(1,false)),(9,(1,false))],0,0,false,false,(some .right),none,false,[2,1,1,1,1,1,1,1,1,1],none,none,0⟩
def FJ:TI:=⟨1,8,false,[(.v (.int .u64 0))],[],0,0,false,false,none,(some .u64),false,[],none,none,1⟩
def OB:TI:=⟨2,16,true,[(.v (.int .u64 0)),(.v (.int .u64 0))],[],121,2,false,true,none,none,false,[1,1],none,none,0⟩
def OC:TI:=⟨1,24,false,[(.v (.slice none 0 0))],[],132,0,true,false,none,none,false,[],none,none,0⟩
def OD:TI:=⟨3,40,true,[(.v (.int .u64 0)),(.v (.int .u64 0)),(.v (.slice none 0 0))],[(0,(2,true)),(2,(1,false))],0,0,false,false,(some .precedentsCourt),none,false,[],none,none,0⟩
def OE:TI:=⟨3,24,true,[(.v (.int .i64 0)),(.v (.int .u64 0)),(.v (.int .u64 0))],[(0,(1,false)),(1,(1,false)),(2,(1,false))],0,0,false,false,(some .precedentsDecided),none,false,[1,1,1],none,none,0⟩
def OF:TI:=⟨1,8,false,[(.v (.pointer none))],[],0,0,false,false,none,none,false,[],none,none,0⟩
def OG:TI:=⟨1,24,false,[(.v (.slice none 0 0))],[],198,0,true,false,none,none,false,[],none,none,0⟩
def OH:TI:=⟨4,64,true,[(.v (.slice none 0 0)),(.v (.slice none 0 0)),(.v (.map none)),(.v (.map none))],[(0,(2,true)),(2,(1,false)),(3,(1,false))],0,0,false,false,(some .pleasCourt),none,false,[],none,none,0⟩
def OI:TI:=⟨5,40,true,[(.v (.int .i64 0)),(.v (.int .i64 0)),(.v (.int .i64 0)),(.v (.int .i64 0)),(.v (.int .i64 0))],[(0,(1,false)),(1,(1,false)),(2,(1,false)),(3,(1,false)),(4,(1,false))],0,0,false,false,(some .fault),none,false,[1,1,1,1,1],none,none,0⟩
def OJ:TI:=⟨2,16,true,[(.v (.int .i64 0)),(.v (.int .i64 0))],[(0,(1,false)),(1,(1,false))],0,0,false,false,(some .ratio),none,false,[1,1],none,none,0⟩
def OK:TI:=⟨4,32,true,[(.v (.int .i64 0)),(.v (.int .i64 0)),(.v (.int .i64 0)),(.v (.int .i64 0))],[],151,2,false,true,(some .ratio2),none,false,[],none,none,0⟩
def OL:TI:=⟨2,16,true,[(.v (.int .i64 0)),(.v (.int .i64 0))],[(0,(1,false)),(1,(1,false))],0,0,false,false,(some .range),none,false,[1,1],none,none,0⟩
def OM:TI:=⟨12,104,true,[(.v (.string (ByteArray.mk #[]))),(.v (.int .i64 0)),(.v (.int .i64 0)),(.v (.int .i64 0)),(.v (.int .i64 0)),(.v (.int .i64 0)),(.v (.int .i64 0)),(.v (.int .i64 0)),(.v (.int .i64 0)),(.v (.int .i64 0)),(.v (.int .i64 0)),(.v (.int .i64 0))],[(0,(1,false)),(1,(1,false)),(2,(1,false)),(3,(1,false)),(4,(1,false)),(5,(1,false)),(6,(2,true)),(8,(4,true))],0,0,false,false,(some .reach),none,false,[],none,none,0⟩
def ON:TI:=⟨4,40,true,[(.v (.string (ByteArray.mk #[]))),(.v (.int .i64 0)),(.v (.int .i64 0)),(.v (.int .i64 0))],[(0,(1,false)),(1,(1,false)),(2,(1,false)),(3,(1,false))],0,0,false,false,(some .farm),none,false,[2,1,1,1],none,none,0⟩
def OO:TI:=⟨5,56,true,[(.v (.int .i64 0)),(.v (.int .i64 0)),(.v (.int .i64 0)),(.v (.bool false)),(.v (.slice none 0 0))],[(0,(1,false)),(1,(1,false)),(2,(1,false)),(3,(1,false)),(4,(1,false))],0,0,false,false,(some .clause),none,false,[],none,none,0⟩
def FK:TI:=⟨1,8,false,[(.v .nilFunc)],[],0,0,false,false,none,none,false,[],none,none,0⟩
def OP:TI:=⟨3,24,true,[(.v (.int .i64 0)),(.v (.int .i64 0)),(.v (.bool false))],[(0,(1,false)),(1,(1,false)),(2,(1,false))],0,0,false,false,(some .reason),none,false,[1,1,3],none,none,0⟩
def OQ:TI:=⟨2,24,true,[(.v (.string (ByteArray.mk #[]))),(.v (.int .i64 0))],[(0,(1,false)),(1,(1,false))],0,0,false,false,(some .crop),none,false,[2,1],none,none,0⟩
def OS:TI:=⟨4,40,true,[(.v (.string (ByteArray.mk #[]))),(.v (.int .i64 0)),(.v (.int .i64 0)),(.v (.int .i64 0))],[(0,(1,false)),(1,(1,false)),(2,(1,false)),(3,(1,false))],0,0,false,false,(some .duty),none,false,[2,1,1,1],none,none,0⟩
def OT:TI:=⟨1,24,false,[(.v (.slice none 0 0))],[],34,0,true,false,none,none,false,[],none,none,0⟩
def OU:TI:=⟨4,32,true,[(.v (.int .i64 0)),(.v (.int .i64 0)),(.v (.int .i64 0)),(.v (.bool false))],[(0,(1,false)),(1,(1,false)),(2,(1,false)),(3,(1,false))],0,0,false,false,(some .order),none,false,[1,1,1,3],none,none,0⟩
def OV:TI:=⟨1,8,false,[(.v (.map none))],[],3,0,false,false,none,none,false,[],(some .int2),(some .int),0⟩
def OW:TI:=⟨2,16,true,[(.v (.int .i64 0)),(.v (.int .i64 0))],[],3,2,false,true,(some .int2),none,false,[1,1],none,none,0⟩
def OX:TI:=⟨1,8,false,[(.v (.map none))],[],3,0,false,false,none,none,false,[],(some .timetableSlot),(some .int),0⟩
def OY:TI:=⟨1,8,false,[(.v (.map none))],[],4,0,false,false,none,none,false,[],(some .timetableSlot),(some .bool),0⟩
def OZ:TI:=⟨2,16,true,[(.v (.int .i64 0)),(.v (.int .i64 0))],[(0,(1,false)),(1,(1,false))],0,0,false,false,(some .timetableSlot),none,false,[1,1],none,none,0⟩
def O0:TI:=⟨1,24,false,[(.v (.slice none 0 0))],[],273,0,true,false,none,none,false,[],none,none,0⟩
def ts:Tis:=fun t=>(bif Nat.ble t 118 then(bif Nat.ble t 36 then(bif Nat.ble t 26 then(bif Nat.ble t 9 then(bif Nat.ble t 3 then(bif Nat.beq t 3 then some ti3 else none)else(bif Nat.ble t 4 then(bif Nat.beq t 4 then some ti4 else none)else(bif Nat.beq t 9 then some ti9 else none)))else(bif Nat.ble t 24 then(bif Nat.ble t 23 then(bif Nat.beq t 23 then some Wq else none)else(bif Nat.beq t 24 then some Wr else none))else(bif Nat.ble t 25 then(bif Nat.beq t 25 then some Ws else none)else(bif Nat.beq t 26 then some Wt else none))))else(bif Nat.ble t 31 then(bif Nat.ble t 28 then(bif Nat.ble t 27 then(bif Nat.beq t 27 then some Wu else none)else(bif Nat.beq t 28 then some Wv else none))else(bif Nat.ble t 29 then(bif Nat.beq t 29 then some Ww else none)else(bif Nat.beq t 31 then some Wx else none)))else(bif Nat.ble t 33 then(bif Nat.ble t 32 then(bif Nat.beq t 32 then some Ni else none)else(bif Nat.beq t 33 then some Wy else none))else(bif Nat.ble t 34 then(bif Nat.beq t 34 then some Nj else none)else(bif Nat.beq t 36 then some ti3 else none)))))else(bif Nat.ble t 62 then(bif Nat.ble t 49 then(bif Nat.ble t 46 then(bif Nat.ble t 39 then(bif Nat.beq t 39 then some Wz else none)else(bif Nat.beq t 46 then some WA else none))else(bif Nat.ble t 48 then(bif Nat.beq t 48 then some WB else none)else(bif Nat.beq t 49 then some WC else none)))else(bif Nat.ble t 58 then(bif Nat.ble t 55 then(bif Nat.beq t 55 then some WD else none)else(bif Nat.beq t 58 then some WE else none))else(bif Nat.ble t 60 then(bif Nat.beq t 60 then some WF else none)else(bif Nat.beq t 62 then some WG else none))))else(bif Nat.ble t 71 then(bif Nat.ble t 66 then(bif Nat.ble t 64 then(bif Nat.beq t 64 then some WH else none)else(bif Nat.beq t 66 then some WI else none))else(bif Nat.ble t 68 then(bif Nat.beq t 68 then some WJ else none)else(bif Nat.beq t 71 then some WK else none)))else(bif Nat.ble t 89 then(bif Nat.ble t 83 then(bif Nat.beq t 83 then some WL else none)else(bif Nat.beq t 89 then some WN else none))else(bif Nat.ble t 92 then(bif Nat.beq t 92 then some Ni else none)else(bif Nat.beq t 118 then some OA else none))))))else(bif Nat.ble t 176 then(bif Nat.ble t 142 then(bif Nat.ble t 123 then(bif Nat.ble t 121 then(bif Nat.beq t 121 then some FJ else none)else(bif Nat.ble t 122 then(bif Nat.beq t 122 then some OB else none)else(bif Nat.beq t 123 then some OC else none)))else(bif Nat.ble t 132 then(bif Nat.ble t 125 then(bif Nat.beq t 125 then some OD else none)else(bif Nat.beq t 132 then some OE else none))else(bif Nat.ble t 140 then(bif Nat.beq t 140 then some OF else none)else(bif Nat.beq t 142 then some OG else none))))else(bif Nat.ble t 152 then(bif Nat.ble t 147 then(bif Nat.ble t 145 then(bif Nat.beq t 145 then some OH else none)else(bif Nat.beq t 147 then some OI else none))else(bif Nat.ble t 151 then(bif Nat.beq t 151 then some OJ else none)else(bif Nat.beq t 152 then some OK else none)))else(bif Nat.ble t 156 then(bif Nat.ble t 154 then(bif Nat.beq t 154 then some OL else none)else(bif Nat.beq t 156 then some OM else none))else(bif Nat.ble t 158 then(bif Nat.beq t 158 then some ON else none)else(bif Nat.beq t 176 then some OO else none)))))else(bif Nat.ble t 229 then(bif Nat.ble t 211 then(bif Nat.ble t 198 then(bif Nat.ble t 178 then(bif Nat.beq t 178 then some FK else none)else(bif Nat.beq t 198 then some OP else none))else(bif Nat.ble t 199 then(bif Nat.beq t 199 then some FK else none)else(bif Nat.beq t 211 then some FJ else none)))else(bif Nat.ble t 219 then(bif Nat.ble t 214 then(bif Nat.beq t 214 then some ti3 else none)else(bif Nat.beq t 219 then some OQ else none))else(bif Nat.ble t 222 then(bif Nat.beq t 222 then some OS else none)else(bif Nat.beq t 229 then some OT else none))))else(bif Nat.ble t 249 then(bif Nat.ble t 238 then(bif Nat.ble t 235 then(bif Nat.beq t 235 then some OU else none)else(bif Nat.beq t 238 then some OV else none))else(bif Nat.ble t 239 then(bif Nat.beq t 239 then some OW else none)else(bif Nat.beq t 249 then some OX else none)))else(bif Nat.ble t 252 then(bif Nat.ble t 250 then(bif Nat.beq t 250 then some OY else none)else(bif Nat.beq t 252 then some OZ else none))else(bif Nat.ble t 273 then(bif Nat.beq t 273 then some Nj else none)else(bif Nat.beq t 291 then some O0 else none)))))))
theorem aak:cw Tryz.prog 3=some ti3:=by kernel_rfl
theorem aal:cw Tryz.prog 4=some ti4:=by kernel_rfl
theorem aam:cw Tryz.prog 9=some ti9:=by kernel_rfl
theorem WO:cw Tryz.prog 23=some Wq:=by kernel_rfl
theorem WP:cw Tryz.prog 24=some Wr:=by kernel_rfl
theorem WQ:cw Tryz.prog 25=some Ws:=by kernel_rfl
theorem WR:cw Tryz.prog 26=some Wt:=by kernel_rfl
theorem WS:cw Tryz.prog 27=some Wu:=by kernel_rfl
theorem WT:cw Tryz.prog 28=some Wv:=by kernel_rfl
theorem WU:cw Tryz.prog 29=some Ww:=by kernel_rfl
theorem WV:cw Tryz.prog 31=some Wx:=by kernel_rfl
theorem WW:cw Tryz.prog 32=some Ni:=by kernel_rfl
theorem WX:cw Tryz.prog 33=some Wy:=by kernel_rfl
theorem WY:cw Tryz.prog 34=some Nj:=by kernel_rfl
theorem WZ:cw Tryz.prog 36=some ti3:=by kernel_rfl
theorem W0:cw Tryz.prog 39=some Wz:=by kernel_rfl
theorem W2:cw Tryz.prog 46=some WA:=by kernel_rfl
theorem W3:cw Tryz.prog 48=some WB:=by kernel_rfl
theorem W4:cw Tryz.prog 49=some WC:=by kernel_rfl
theorem W5:cw Tryz.prog 55=some WD:=by kernel_rfl
theorem W6:cw Tryz.prog 58=some WE:=by kernel_rfl
theorem W7:cw Tryz.prog 60=some WF:=by kernel_rfl
theorem W8:cw Tryz.prog 62=some WG:=by kernel_rfl
theorem W9:cw Tryz.prog 64=some WH:=by kernel_rfl
theorem W_:cw Tryz.prog 66=some WI:=by kernel_rfl
theorem Xa:cw Tryz.prog 68=some WJ:=by kernel_rfl
theorem Xb:cw Tryz.prog 71=some WK:=by kernel_rfl
theorem Xc:cw Tryz.prog 83=some WL:=by kernel_rfl
theorem Xd:cw Tryz.prog 89=some WN:=by kernel_rfl
theorem Xe:cw Tryz.prog 92=some Ni:=by kernel_rfl
theorem SZ:cw Tryz.prog 118=some OA:=by kernel_rfl
theorem S0:cw Tryz.prog 121=some FJ:=by kernel_rfl
theorem S3:cw Tryz.prog 122=some OB:=by kernel_rfl
theorem S4:cw Tryz.prog 123=some OC:=by kernel_rfl
theorem S5:cw Tryz.prog 125=some OD:=by kernel_rfl
theorem S6:cw Tryz.prog 132=some OE:=by kernel_rfl
theorem S7:cw Tryz.prog 140=some OF:=by kernel_rfl
theorem S8:cw Tryz.prog 142=some OG:=by kernel_rfl
theorem S9:cw Tryz.prog 145=some OH:=by kernel_rfl
theorem S_:cw Tryz.prog 147=some OI:=by kernel_rfl
theorem Ta:cw Tryz.prog 151=some OJ:=by kernel_rfl
theorem Tb:cw Tryz.prog 152=some OK:=by kernel_rfl
theorem Tc:cw Tryz.prog 154=some OL:=by kernel_rfl
theorem Td:cw Tryz.prog 156=some OM:=by kernel_rfl
theorem Te:cw Tryz.prog 158=some ON:=by kernel_rfl
theorem Tf:cw Tryz.prog 176=some OO:=by kernel_rfl
theorem Tg:cw Tryz.prog 178=some FK:=by kernel_rfl
theorem Th:cw Tryz.prog 198=some OP:=by kernel_rfl
theorem Ti:cw Tryz.prog 199=some FK:=by kernel_rfl
theorem Tj:cw Tryz.prog 211=some FJ:=by kernel_rfl
theorem Tk:cw Tryz.prog 214=some ti3:=by kernel_rfl
theorem Tl:cw Tryz.prog 219=some OQ:=by kernel_rfl
theorem Tm:cw Tryz.prog 222=some OS:=by kernel_rfl
theorem Tn:cw Tryz.prog 229=some OT:=by kernel_rfl
theorem To:cw Tryz.prog 235=some OU:=by kernel_rfl
theorem Tp:cw Tryz.prog 238=some OV:=by kernel_rfl
theorem Tq:cw Tryz.prog 239=some OW:=by kernel_rfl
theorem Tr:cw Tryz.prog 249=some OX:=by kernel_rfl
theorem Ts:cw Tryz.prog 250=some OY:=by kernel_rfl
theorem Tt:cw Tryz.prog 252=some OZ:=by kernel_rfl
theorem Tu:cw Tryz.prog 273=some Nj:=by kernel_rfl
theorem Tv:cw Tryz.prog 291=some O0:=by kernel_rfl
theorem am:Tis.ok ts Tryz.prog:=(Tis.ok_node (Tis.ok_node (Tis.ok_node (Tis.ok_node (Tis.ok_node (Tis.ok_leaf aak) (Tis.ok_node (Tis.ok_leaf aal) (Tis.ok_leaf aam))) (Tis.ok_node (Tis.ok_node (Tis.ok_leaf WO) (Tis.ok_leaf WP)) (Tis.ok_node (Tis.ok_leaf WQ) (Tis.ok_leaf WR)))) (Tis.ok_node (Tis.ok_node (Tis.ok_node (Tis.ok_leaf WS) (Tis.ok_leaf WT)) (Tis.ok_node (Tis.ok_leaf WU) (Tis.ok_leaf WV))) (Tis.ok_node (Tis.ok_node (Tis.ok_leaf WW) (Tis.ok_leaf WX)) (Tis.ok_node (Tis.ok_leaf WY) (Tis.ok_leaf WZ))))) (Tis.ok_node (Tis.ok_node (Tis.ok_node (Tis.ok_node (Tis.ok_leaf W0) (Tis.ok_leaf W2)) (Tis.ok_node (Tis.ok_leaf W3) (Tis.ok_leaf W4))) (Tis.ok_node (Tis.ok_node (Tis.ok_leaf W5) (Tis.ok_leaf W6)) (Tis.ok_node (Tis.ok_leaf W7) (Tis.ok_leaf W8)))) (Tis.ok_node (Tis.ok_node (Tis.ok_node (Tis.ok_leaf W9) (Tis.ok_leaf W_)) (Tis.ok_node (Tis.ok_leaf Xa) (Tis.ok_leaf Xb))) (Tis.ok_node (Tis.ok_node (Tis.ok_leaf Xc) (Tis.ok_leaf Xd)) (Tis.ok_node (Tis.ok_leaf Xe) (Tis.ok_leaf SZ)))))) (Tis.ok_node (Tis.ok_node (Tis.ok_node (Tis.ok_node (Tis.ok_leaf S0) (Tis.ok_node (Tis.ok_leaf S3) (Tis.ok_leaf S4))) (Tis.ok_node (Tis.ok_node (Tis.ok_leaf S5) (Tis.ok_leaf S6)) (Tis.ok_node (Tis.ok_leaf S7) (Tis.ok_leaf S8)))) (Tis.ok_node (Tis.ok_node (Tis.ok_node (Tis.ok_leaf S9) (Tis.ok_leaf S_)) (Tis.ok_node (Tis.ok_leaf Ta) (Tis.ok_leaf Tb))) (Tis.ok_node (Tis.ok_node (Tis.ok_leaf Tc) (Tis.ok_leaf Td)) (Tis.ok_node (Tis.ok_leaf Te) (Tis.ok_leaf Tf))))) (Tis.ok_node (Tis.ok_node (Tis.ok_node (Tis.ok_node (Tis.ok_leaf Tg) (Tis.ok_leaf Th)) (Tis.ok_node (Tis.ok_leaf Ti) (Tis.ok_leaf Tj))) (Tis.ok_node (Tis.ok_node (Tis.ok_leaf Tk) (Tis.ok_leaf Tl)) (Tis.ok_node (Tis.ok_leaf Tm) (Tis.ok_leaf Tn)))) (Tis.ok_node (Tis.ok_node (Tis.ok_node (Tis.ok_leaf To) (Tis.ok_leaf Tp)) (Tis.ok_node (Tis.ok_leaf Tq) (Tis.ok_leaf Tr))) (Tis.ok_node (Tis.ok_node (Tis.ok_leaf Ts) (Tis.ok_leaf Tt)) (Tis.ok_node (Tis.ok_leaf Tu) (Tis.ok_leaf Tv)))))))
@[go_sem] theorem ts_3:ts 3=some ti3:=(rfl)
@[go_sem] theorem ts_4:ts 4=some ti4:=(rfl)
@[go_sem] theorem ts_9:ts 9=some ti9:=(rfl)
@[go_sem] theorem ts_23:ts 23=some Wq:=(rfl)
@[go_sem] theorem ts_24:ts 24=some Wr:=(rfl)
@[go_sem] theorem ts_25:ts 25=some Ws:=(rfl)
@[go_sem] theorem ts_26:ts 26=some Wt:=(rfl)
@[go_sem] theorem ts_27:ts 27=some Wu:=(rfl)
@[go_sem] theorem ts_28:ts 28=some Wv:=(rfl)
@[go_sem] theorem ts_29:ts 29=some Ww:=(rfl)
@[go_sem] theorem ts_31:ts 31=some Wx:=(rfl)
@[go_sem] theorem ts_32:ts 32=some Ni:=(rfl)
@[go_sem] theorem ts_33:ts 33=some Wy:=(rfl)
@[go_sem] theorem ts_34:ts 34=some Nj:=(rfl)
@[go_sem] theorem ts_36:ts 36=some ti3:=(rfl)
@[go_sem] theorem ts_39:ts 39=some Wz:=(rfl)
@[go_sem] theorem ts_46:ts 46=some WA:=(rfl)
@[go_sem] theorem ts_48:ts 48=some WB:=(rfl)
@[go_sem] theorem ts_49:ts 49=some WC:=(rfl)
@[go_sem] theorem ts_55:ts 55=some WD:=(rfl)
@[go_sem] theorem ts_58:ts 58=some WE:=(rfl)
@[go_sem] theorem ts_60:ts 60=some WF:=(rfl)
@[go_sem] theorem ts_62:ts 62=some WG:=(rfl)
@[go_sem] theorem ts_64:ts 64=some WH:=(rfl)
@[go_sem] theorem ts_66:ts 66=some WI:=(rfl)
@[go_sem] theorem ts_68:ts 68=some WJ:=(rfl)
@[go_sem] theorem ts_71:ts 71=some WK:=(rfl)
@[go_sem] theorem ts_83:ts 83=some WL:=(rfl)
@[go_sem] theorem ts_89:ts 89=some WN:=(rfl)
@[go_sem] theorem ts_92:ts 92=some Ni:=(rfl)
@[go_sem] theorem ahr:ts 118=some OA:=(rfl)
@[go_sem] theorem ahs:ts 121=some FJ:=(rfl)
@[go_sem] theorem aht:ts 122=some OB:=(rfl)
@[go_sem] theorem ahu:ts 123=some OC:=(rfl)
@[go_sem] theorem ahv:ts 125=some OD:=(rfl)
@[go_sem] theorem ahw:ts 132=some OE:=(rfl)
@[go_sem] theorem ahx:ts 140=some OF:=(rfl)
@[go_sem] theorem ahy:ts 142=some OG:=(rfl)
@[go_sem] theorem ahz:ts 145=some OH:=(rfl)
@[go_sem] theorem ahA:ts 147=some OI:=(rfl)
@[go_sem] theorem ahB:ts 151=some OJ:=(rfl)
@[go_sem] theorem ahC:ts 152=some OK:=(rfl)
@[go_sem] theorem ahD:ts 154=some OL:=(rfl)
@[go_sem] theorem ahE:ts 156=some OM:=(rfl)
@[go_sem] theorem ahF:ts 158=some ON:=(rfl)
@[go_sem] theorem ahG:ts 176=some OO:=(rfl)
@[go_sem] theorem ahH:ts 178=some FK:=(rfl)
@[go_sem] theorem ahI:ts 198=some OP:=(rfl)
@[go_sem] theorem ahJ:ts 199=some FK:=(rfl)
@[go_sem] theorem ahK:ts 211=some FJ:=(rfl)
@[go_sem] theorem ahL:ts 214=some ti3:=(rfl)
@[go_sem] theorem ahM:ts 219=some OQ:=(rfl)
@[go_sem] theorem ahN:ts 222=some OS:=(rfl)
@[go_sem] theorem ahO:ts 229=some OT:=(rfl)
@[go_sem] theorem ahP:ts 235=some OU:=(rfl)
@[go_sem] theorem ahQ:ts 238=some OV:=(rfl)
@[go_sem] theorem ahR:ts 239=some OW:=(rfl)
@[go_sem] theorem ahS:ts 249=some OX:=(rfl)
@[go_sem] theorem ahT:ts 250=some OY:=(rfl)
@[go_sem] theorem ahU:ts 252=some OZ:=(rfl)
@[go_sem] theorem ahV:ts 273=some Nj:=(rfl)
@[go_sem] theorem ahW:ts 291=some O0:=(rfl)
attribute [go_sem] ti3 ti4 ti9 Wq Wr Ws Wt Wu Wv Ww Wx Ni Wy Nj Wz WA WB WC WD WE WF WG WH WI WJ WK WL WN OA FJ OB OC OD OE OF OG OH OI OJ OK OL OM ON OO FK OP OQ OS OT OU OV OW OX OY OZ O0
theorem mixed:Tryz.prog.follows .mixedOrders=true:=by kernel_rfl
def mA:List SV->Option Con
 | [.v (.iface t (.int .i64 e))] =>bif Nat.beq t 214 then some (.det True (.i e))else none|_=>none
theorem CK:FnOk Tryz.prog 106 mA:=by
 have hG:ConsOk Tryz.prog (mkG [] []):=av (by simp) (by simp);refine ax [.o] mixed am hG (fn:=Tryz.f106) (c:=aa Tryz.f106) kr kr kr kr fun l con h hp=>?_;unfold mA at h;split at h
 rename_i t e;cases ht:Nat.beq t 214 with
 |false=>rw[ht]at h;cases h
 |true=>
  rw[ht]at h;cases h;have ht':=ain ht;subst ht';refine⟨nbl rfl,L0,by unfold aa Tryz.f106;simp only[ap,and_self],?_⟩;unfold aa Tryz.f106;simp only[go_sem,true_imp_iff,false_imp_iff,Nat.reduceBEq,Nat.reduceLeDiff,Nat.reduceAdd,Nat.reduceSub,Nat.reduceMul,true_and,and_true,implies_true,reduceCtorEq]
 cases h
def aan:Value->Option SV
 | .iface t (.int .i64 e) =>bif Nat.beq t 214 then some (.i e)else none|_=>none
theorem Tw:Lg Tryz.prog 105 aan:=by
 obtain⟨fn,hfn,hbody,hn,hres⟩:∃ fn,Tryz.prog.funcs[105]? =some fn/\fn.body=some (aa Tryz.f105)/\fn.ntmps=7/\fn.results= #[]:=⟨Tryz.f105,by kernel_rfl,by kernel_rfl,by kernel_rfl,by kernel_rfl⟩;have hG:ConsOk Tryz.prog (mkG [(106,mA)] []):=av (by
  intro x hx;simp only[aiu,ai9,or_false]at hx;rcases hx with rfl;exact CK) (by simp)
 refine⟨fun args w=>by kernel_rfl,fun p w=>?_,?_⟩;refine callsDIn_of_wpSIn hfn hbody trivial fun c₀ cs hu=>?_;unfold aa Tryz.f105;refine wpSIn_seq (wpSIn_region ?_);simp[wpOpsSIn,go_sem,recoverD,hu,hn,Exit.thenS,Oper.about,Region.wanted];refine wpSIn_seq (wpSIn_region ?_);simp[wpOpsSIn,go_sem,recoverD,hu,Exit.thenS,Oper.about,Region.wanted];refine wpSIn_cond (t:=false) (by simp[Act.eval]) ?_;simp only[ait,if_false];refine wpSIn_of_wpIn rfl (wpIn_skip ?_);cases c₀;simp_all [bodyPostS,results];intro x s hx F own w h id hd b y hfw hp hob ho hpb;unfold aan at hx;split at hx
 rename_i t e;cases ht:Nat.beq t 214 with
 |false=>rw[ht]at hx;cases hx
 |true=>
  rw[ht]at hx;cases hx;have ht':=ain ht;subst ht';refine callsDIn_of_wpSIn hfn hbody trivial fun c₀ cs hu=>?_;unfold aa Tryz.f105;refine wpSIn_seq (wpSIn_region ?_);simp[wpOpsSIn,go_sem,recoverD,hu,hn,Exit.thenS,Oper.about,Region.wanted];refine wpSIn_seq (wpSIn_region ?_);simp[wpOpsSIn,go_sem,recoverD,hu,Exit.thenS,Oper.about,Region.wanted];refine wpSIn_cond (t:=true) (by simp[Act.eval]) ?_;simp only[if_true];refine wpSIn_of_wpIn rfl ?_;have hr:StRel F { w:=w,own:=own} 7 own ⟨[(0,.ptr id 0),(1,.v (.iface 214 (.int .i64 e)))],h⟩ { tmps:= #[.pointer (some ⟨b,0,none⟩),.iface 214 (.int .i64 e),.iface 214 (.int .i64 e),.iface 214 (.int .i64 e),.bool true,undef,undef],defers:=[]} w:=by
   refine⟨rfl,Dfr.nil,hp,Fr.refl { w:=w,own:=own},fun t=>?_⟩;rw[pV];by_cases h0:0=t
   subst h0;rw[if_pos rfl];exact .ptr ho hpb;rw[if_neg h0,pV];by_cases h1:1=t
   subst h1;rw[if_pos rfl];exact .v _;rw[if_neg h1];exact .any _
  refine wpIn_mono (xO (ts:=ts) (L:=L0) (Q:=fun st=>st.h=bM h id (.cells [.i e])) mixed am hG kr ?_ hr) ?_;simp only[go_sem,hob,xN (h:=h) (i:=id) (o:=.cells [.v (.int .i64 e)]) rfl hfw,mA,Nat.reduceBEq,Nat.reduceLeDiff,Nat.reduceAdd,true_and,and_true,true_imp_iff];rintro ex a' w' ⟨rfl,own1,st1,hst1,hh⟩;have hd0:a'.defers=[]:=by
   obtain⟨ms,Ds,q0,q1,q2,q3⟩:=hst1.defers;cases Ds with
   |nil=>rw[q0];simp at q1;simp[q1]
   |cons D r=>
    obtain⟨m1,m2,_⟩:=q3 D (by simp);have:=hp.foreign D m2;simp only at m1;omega
  refine⟨hd0,.panicking [{ v:=.iface 214 (.int .i64 e),recovered:=true}],?_,_,by simp[results,hres];rfl,⟨_,rfl⟩,rfl,own1,hh▸hst1.hp,hst1.fr⟩;cases c₀;simp_all
 cases hx
attribute [go_sem] mA
abbrev SV.u (n:Nat):SV:=.v (.int .u64 (n:Int))
def BK (ps:List (Nat×(List SV->Option Con)))(os:List (Nat×(List SV->List Ob->Option HCon)))(Y:List SV->Res->Option YCon):Cons:=⟨mkP ps,mkO os,Y⟩
@[go_sem] theorem ahX {ps:List (Nat×(List SV->Option Con))}{os:List (Nat×(List SV->List Ob->Option HCon))}{Y:List SV->Res->Option YCon}:(BK ps os Y).p=mkP ps:=(rfl)
@[go_sem] theorem ahY {ps:List (Nat×(List SV->Option Con))}{os:List (Nat×(List SV->List Ob->Option HCon))}{Y:List SV->Res->Option YCon}:(BK ps os Y).o=mkO os:=(rfl)
@[go_sem] theorem ahZ {ps:List (Nat×(List SV->Option Con))}{os:List (Nat×(List SV->List Ob->Option HCon))}{Y:List SV->Res->Option YCon}:(BK ps os Y).y=Y:=(rfl)
theorem zK {P:Program}{ps:List (Nat×(List SV->Option Con))}{os:List (Nat×(List SV->List Ob->Option HCon))}{Y:List SV->Res->Option YCon}(h1:∀ x∈ps,FnOk P x.1 x.2)(h2:∀ x∈os,FnOkO P x.1 x.2)(h3:YOk P Y):ConsOk P (BK ps os Y):=⟨Nd ps h1,Nf os h2,h3⟩
def C90:List SV->List Ob->Option HCon:=fun l h=>noH h ((pU fun n=>pU fun d=>pE { α:=Unit,pre:=True,post:=fun _=>True,res:=fun _=>.ret (.fn 271 [] [.ptr 0 0,.ptr 1 0]) [.cells [.v (.int .u64 n)],.cells [.v (.int .u64 d)]]}) l)
theorem aao:FnOkO Tryz.prog 268 C90:=by
 have hG:ConsOk Tryz.prog (mkG [] []):=av (by simp) (by simp);refine FC mixed am hG (fn:=Tryz.f268) (c:=aa Tryz.f268) kr kr kr kr fun l o con h hp=>?_;unfold C90 at h;obtain⟨rfl,h⟩:=Wl h;obtain⟨n,l0,rfl,h0⟩:=CI h;obtain⟨d,l1,rfl,h1⟩:=CI h0;obtain⟨rfl,rfl⟩:=CJ h1;refine⟨nbl rfl,L0,by unfold aa Tryz.f268;simp only[ap,and_self],?_⟩;unfold aa Tryz.f268;simp only[go_sem,true_imp_iff,decide_eq_true_eq,Nat.reduceBEq,Nat.reduceLeDiff,Nat.reduceAdd,Nat.reduceSub,Nat.reduceMul,true_and,and_true,implies_true];refine⟨(),_,_,[0,1],rfl,?_⟩;simp only[go_sem,Nat.reduceBEq,Nat.reduceLeDiff,Nat.reduceAdd,true_and,and_true];exact⟨rfl,rfl⟩
def CL:Nat->Nat->Nat->List Nat
 |0,n,d=>if n=0 then []else [n,d]|f+1,n,d=>if n=0 then []else n::(if n % max d 1=0 then [d]else CL f d (n % max d 1))
def tl (f n d:Nat):List (List SV):=(CL f n d).map fun x=>[SV.u x]
theorem Tx (f d:Nat):tl f 0 d=[]:=by cases f <;>rfl
theorem Tz {f n d:Nat}(hn:n≠0)(hf:d<=f):∃ T,tl f n d=[SV.u n]::T/\(n % max d 1=0->T=[[SV.u d]])/\(n % max d 1≠0->∃ f',T=tl f' d (n % max d 1)/\n % max d 1<=f'/\n % max d 1<d):=by
 cases f with
 |zero=>
  have hd:d=0:=by omega
  subst hd;refine⟨[[SV.u 0]],by simp[tl,CL,hn],fun _=>rfl,fun h=>?_⟩;exfalso;apply h;simp[alf]
 |succ f=>
  by_cases h0:n % max d 1=0
  exact⟨[[SV.u d]],by simp[tl,CL,hn,h0],fun _=>rfl,fun h=>absurd h0 h⟩;refine⟨tl f d (n % max d 1),by simp[tl,CL,hn,h0],fun h=>absurd h h0,fun _=>⟨f,rfl,?_⟩⟩;have hlt:n % max d 1<max d 1:=akc _ (by omega);have hd:1<=d:=by
   rcases Nat.eq_zero_or_pos d with h|h;subst h;exfalso;apply h0;simp[alf];exact h
  omega
theorem TA (n d:Nat):((n:Int).tmod (if(d:Int) <1 then 1 else(d:Int)))=((n % max d 1:Nat):Int):=by
 have e:(if(d:Int) <1 then(1:Int)else(d:Int))=((max d 1:Nat):Int):=by split <;>omega
 rw[e,ajZ (by omega)];rfl
open Classical in
theorem aap (n0 d0:Nat):FG Tryz.prog 271 (fun y=>[y,.ptr 1 0,.ptr 2 0]) [.cells [SV.u n0],.cells [SV.u d0]] (tl d0 n0 d0):=by
 refine SQ (fun r hr hy=>?_) (fun args w=>by kernel_rfl);have hG:ConsOk Tryz.prog (BK [] [] (itY (tl d0 n0 d0) r)):=zK (by simp) (by simp) hy;refine⟨fun l h=>if l=[.os 0,.ptr 1 0,.ptr 2 0]/\h=[.ab (r 1),.cells [SV.u n0],.cells [SV.u d0]]then some { α:=Nat,pre:=True,post:=fun j=>j=0\/j=(tl d0 n0 d0).length+1,res:=fun j=>.ret (.tup []) [.ab (r j),.dead,.dead]}else none,
  ?_,_,if_pos ⟨rfl,rfl⟩,trivial,fun j hj=>⟨_,j,_,rfl,hj⟩⟩
 refine FC mixed am hG (fn:=Tryz.f271) (c:=aa Tryz.f271) kr kr kr kr fun l o con h hp=>?_;split at h
 rename_i hlo;obtain⟨rfl,rfl⟩:=hlo;cases h;refine⟨nbl rfl,fun id st=>bif Nat.beq id 0 then some { α:=Nat×Bool,pre:=lk 0 st.t=.os 0/\lk 1 st.t=.ptr 1 0/\lk 2 st.t=.ptr 2 0/\st.h=[.ab (r 1),.cells [SV.u n0],.cells [SV.u d0]],post:=fun j=>j.1=0\/j.1=(tl d0 n0 d0).length+1,ex:=fun j=>bif j.2 then .ret else .normal,out:=fun j=>⟨[],[.ab (r j.1),.dead,.dead]⟩:LCon}else none,?_,?_⟩;unfold aa Tryz.f271;simp only[ap,true_and,and_true];refine BH mixed am hG kr fun st lc hC hp=>?_;simp only[go_sem,Nat.reduceBEq,aip]at hC;subst hC;obtain⟨t,h⟩:=st;dsimp only at hp;obtain⟨h0,h1,h2,rfl⟩:=hp;refine⟨Nat×Nat×Nat×Nat,fun x=>⟨[(0,.os 0),(1,.ptr 1 0),(2,.ptr 2 0)],[.ab (r (x.1+1)),.cells [SV.u x.2.2.1],.cells [SV.u x.2.2.2]]⟩,fun x=>x.2.2.2<=x.2.1/\(tl d0 n0 d0).drop x.1=tl x.2.1 x.2.2.1 x.2.2.2/\x.1<=(tl d0 n0 d0).length,fun x=>x.2.2.2,(0,d0,n0,d0),[0,1,2],⟨aio _,rfl,aiX _⟩,aio _,?_,?_⟩;simp only[go_sem,h0,h1,h2,Nat.reduceBEq,Nat.reduceLeDiff,Nat.reduceAdd,true_and,and_true];decide;rintro⟨k,f,n,d⟩ ⟨hf,hdrop,hk⟩;simp only at hf hdrop hk;refine⟨L0,_,by simp only[ap,and_self],fun _ _ q=>q,?_⟩;simp only[go_sem,Jw hr,true_imp_iff,decide_eq_true_eq,TA,ait,false_imp_iff,Nat.reduceBEq,Nat.reduceLeDiff,Nat.reduceAdd,Nat.reduceSub,Nat.reduceMul,true_and,and_true,implies_true];have hget:∀ (l:List (List SV)) (j:Nat),l=(tl d0 n0 d0).drop k->(tl d0 n0 d0)[k+j]? =l[j]?:=fun l j e=>by rw[e,akb]
 have hlen:(tl f n d).length=(tl d0 n0 d0).length - k:=by rw[<-hdrop,List.length_drop]
 refine⟨fun hn=>?_,fun hn=>?_⟩;have hn':n≠0:=by simpa using hn
 obtain⟨T,e1,e2,e3⟩:=Tz hn' hf;have hT:(tl d0 n0 d0).drop (k+1)=T:=by rw[<-List.drop_drop,hdrop,e1];rfl
 have h0':=hget _ 0 hdrop.symm;rw[e1]at h0';have hk1:k+1<=(tl d0 n0 d0).length:=by
  have:=(aiq.1 h0').1;omega
 refine⟨h0',⟨fun _=>⟨by split <;>omega,rfl,fun h2=>?_,fun h2=>?_⟩,fun h2=>?_⟩,?_⟩;have h3:n % max d 1=0:=by
  have:=eq_of_beq h2;generalize n % max d 1=q at this |-;omega
 have hT2:=e2 h3;have hl2:(tl d0 n0 d0).length=k+2:=by
  have:=congrArg List.length hT;rw[hT2,List.length_drop]at this;simp at this;omega
 refine⟨?_,⟨(k+1+2,true),[0,1,2],.inr (by rw[hl2]),rfl,⟨rfl,rfl,rfl⟩,by simp[GS,I3,EV,unp,ar,dg,xz,xZ]⟩,⟨(0,true),[0,1,2],.inl rfl,rfl,⟨rfl,rfl,rfl⟩,by simp[GS,I3,EV,unp,ar,dg,xz,xZ]⟩⟩;have:(tl d0 n0 d0)[k+1]? =T[0]?:=by rw[<-hT,akb]
 rw[this,hT2];rfl;have h3:n % max d 1≠0:=fun e=>by rw[e]at h2;simp at h2
 obtain⟨f',m1,m2,m3⟩:=e3 h3;exact⟨(k+1,f',d,n % max d 1),[0,1,2],⟨m2,by rw[hT,m1],hk1⟩,m3,⟨rfl,rfl,rfl⟩,by simp[GS,I3,EV,unp,ar,dg,xz,xZ,nth,oV,ren,wkL,N_]⟩;exact absurd hn (by rw[h2];simp);exact⟨(0,false),[0,1,2],.inl rfl,rfl,⟨rfl,rfl,rfl⟩,by simp[GS,I3,EV,unp,ar,dg,xz,xZ]⟩;have hn':n=0:=by simpa using hn
 subst hn';rw[Tx]at hlen;simp at hlen;exact⟨by simpa using hn,(k+1,false),[0,1,2],.inr (by show k+1=_;omega),rfl,⟨rfl,rfl,rfl⟩,by simp[GS,I3,EV,unp,ar,dg,xz,xZ]⟩;unfold aa Tryz.f271;simp only[go_sem,true_imp_iff,decide_eq_true_eq,Nat.reduceBEq,Nat.reduceLeDiff,Nat.reduceAdd,Nat.reduceSub,Nat.reduceMul,true_and,and_true,implies_true];rintro⟨j,b⟩ hj;cases b;simp only[go_sem];exact⟨j,_,_,[0,1,2],hj,rfl,aio 3,by simp only[go_sem,Nat.reduceBEq,Nat.reduceLeDiff,Nat.reduceAdd,true_and,and_true];decide⟩;simp only[go_sem];exact⟨j,_,_,[0,1,2],hj,rfl,aio 3,by simp only[go_sem,Nat.reduceBEq,Nat.reduceLeDiff,Nat.reduceAdd,true_and,and_true];decide⟩;cases h
def QO (n d:Nat):Nat:=if d=0 then n else(CL d n d).getLastD d
def C83:List SV->Option Con:=pU fun n=>pU fun d=>pE (.det (0<=n/\0<=d) (SV.u (QO n.toNat d.toNat)))
theorem aaq:FnOk Tryz.prog 262 C83:=by
 have hG:ConsOk Tryz.prog (mkG [] [(268,C90)]):=av (by simp) (by
  intro x hx;simp only[aiu,ai9,or_false]at hx;rcases hx with rfl;exact aao)
 refine Jt false mixed am hG (fn:=Tryz.f262) (c:=aa Tryz.f262) kr kr kr kr fun l con h hp=>?_;unfold C83 at h;obtain⟨n',l0,rfl,h0⟩:=CI h;obtain⟨d',l1,rfl,h1⟩:=CI h0;obtain⟨rfl,rfl⟩:=CJ h1;clear h h0 h1;obtain⟨hn,hd⟩:=hp;obtain⟨n,rfl⟩:=akA hn;obtain⟨d,rfl⟩:=akA hd;refine⟨nbl rfl,fun id st=>bif Nat.beq id 0 then some { α:=Unit,pre:=st.h=[.cells [SV.u d],.cells [SV.u n],.cells [SV.u d]]/\lk 12 st.t=.fn 271 [] [.ptr 1 0,.ptr 2 0]/\lk 4 st.t=.ptr 0 0,post:=fun _=>True,ex:=fun _=>.normal,out:=fun _=>⟨[(4,.ptr 0 0)],[.cells [SV.u ((CL d n d).getLastD d)],.dead,.dead]⟩:LCon}else none,?_,?_⟩;unfold aa Tryz.f262;simp only[ap,true_and,and_true];refine Ld mixed am hG (by decide) (by decide) kr kr fun st lc hC hp=>?_;simp only[go_sem,Nat.reduceBEq,aip]at hC;subst hC;obtain⟨t,h⟩:=st;dsimp only at hp;obtain⟨rfl,h12,h4⟩:=hp;refine⟨271,[.ptr 1 0,.ptr 2 0],tl d n d,Nat,[(4,.ptr 0 0)],fun v=>[.cells [SV.u v],.dead,.dead],fun k v=>v=((CL d n d).take k).getLastD d,fun _ _=>False,d,[0,1,2],h12,rfl,aio _,?_,aap n d,?_,?_,fun _ h=>h.elim,fun _ _ h=>h.elim⟩;show Sub [0,1,2] 3 ⟨t,[.cells [SV.u d],.dead,.dead]⟩ ⟨[(4,.ptr 0 0)],[.cells [SV.u d],.dead,.dead]⟩;simp only[go_sem,h4,Nat.reduceBEq,Nat.reduceLeDiff,Nat.reduceAdd,true_and,and_true];decide;intro k y args hk hI;unfold tl at hk;rw[ai7,ajl]at hk;obtain⟨x,hx,rfl⟩:=hk;refine⟨rfl,L0,_,fun l=>by simp only[ap],fun l=>by simp only[ap],fun _ _ q=>q,?_⟩;show exec ts _ L0 _ ⟨[(13,SV.u x),(4,SV.ptr 0 0)],[.cells [SV.u y],.dead,.dead]⟩ _;simp only[go_sem,true_imp_iff,Nat.reduceBEq,Nat.reduceLeDiff,Nat.reduceAdd,true_and,and_true];refine⟨x,[0,1,2],?_,aio 3,?_⟩;have hlt:=(aiq.1 hx).1;have hx2:=(aiq.1 hx).2;show x=((CL d n d).take (k+1)).getLastD d;rw[ajm hlt,hx2];simp[List.getLastD_concat];simp only[go_sem,Nat.reduceBEq,Nat.reduceLeDiff,Nat.reduceAdd,true_and,and_true];decide;intro y hI;refine⟨(),[0,1,2],trivial,rfl,aio _,?_⟩;have hy:y=(CL d n d).getLastD d:=by rw[hI,List.take_of_length_le (by simp[tl])]
 subst hy;show Sub [0,1,2] 3 ⟨[(4,.ptr 0 0)],[.cells [SV.u _],.dead,.dead]⟩ ⟨[(4,.ptr 0 0)],[.cells [SV.u _],.dead,.dead]⟩;simp only[go_sem,Nat.reduceBEq,Nat.reduceLeDiff,Nat.reduceAdd,true_and,and_true];decide;unfold aa Tryz.f262;simp only[go_sem,C90,true_imp_iff,decide_eq_true_eq,ait,false_imp_iff,Nat.reduceBEq,Nat.reduceLeDiff,Nat.reduceAdd,Nat.reduceSub,Nat.reduceMul,true_and,and_true,implies_true];refine⟨fun h=>?_,fun h _ _=>?_⟩;have h':d=0:=by simpa using h
 simp[QO,h'];have h':d≠0:=by simpa using h
 simp[QO,h']
attribute [go_sem] C83
end Go.Sx
end
section
namespace Go.Sx
open Go.RowKit
inductive NilS:St->St->Prop where
 |refl (st:St):NilS st st
 |cell {st:St} {t:List (Nat×SV)} {h:List Ob} {i j:Nat} {l:List SV} (o:Ob):NilS st ⟨t,h⟩->ar h i=.cells l->l[j]? =some (.v (.slice none 0 0))->((∃ k,o=.row k [])\/∃ k,o=.grid k [])->NilS st ⟨t,bM h i (.cells (l.set j (.os h.length)))++[o]⟩
 |slot {st:St} {t:List (Nat×SV)} {h:List Ob} {i:Nat} (o:Ob):NilS st ⟨t,h⟩->lk i t=.v (.slice none 0 0)->((∃ k,o=.row k [])\/∃ k,o=.grid k [])->NilS st ⟨(i,.os h.length)::t,h++[o]⟩
 |slotE {st:St} {t:List (Nat×SV)} {h:List Ob} {i:Nat} (k:Tag):NilS st ⟨t,h⟩->lk i t=.e0->NilS st ⟨(i,.os h.length)::t,h++[.row k []]⟩
section
variable {P:Program}{F:Nat->Prop}{w0:Bs}{N:Nat}
theorem HY (h:List Ob)(o:Ob):ar (h++[o]) h.length=o:=by simp_all [ut,ar]
theorem O1 {own:Own}{h:List Ob}{a:Act}{w:World}{t:List (Nat×SV)}(hr:StRel F w0 N own ⟨t,h⟩ a w)(o:Ob)(ho:(∃ k,o=.row k [])\/∃ k,o=.grid k []):
  ∃ own',StRel F w0 N own' ⟨t,h++[o]⟩ a w/\(∀ id hd,own id=some hd->own' id=some hd)/\own' h.length=some { v:=.slice none 0 0}:=by
 let own':Own:=fun id=>if id=h.length then some { v:=.slice none 0 0}else own id
 have hsub:∀ id hd,own id=some hd->own' id=some hd:=fun id hd e=>by
  have:id≠h.length:=by have:=hr.hp.dom id hd e;grind
  grind
 have hinv:∀ id hd b,own' id=some hd->b∈hd.bs->own id=some hd:=fun id hd b e hb=>by
  grind
 have hc:Carries F own w F own' w:=⟨fun id hd e=>⟨hd,hsub id hd e,.refl _⟩,fun b _ hn=>⟨by
  rintro (hf| ⟨id,hd,e,hb⟩);exact hn (.inl hf);exact hn (.inr ⟨id,hd,hinv id hd b e hb,hb⟩),rfl⟩⟩
 refine⟨own',⟨hr.size,hr.defers,⟨fun id hd e=>?_,hr.hp.foreign,fun id hd b e hb=>hr.hp.apart id hd b (hinv id hd b e hb) hb,fun i j hi hj b e1 e2 b1 b2=>hr.hp.inj i j hi hj b (hinv i hi b e1 b1) (hinv j hj b e2 b2) b1 b2,fun id hd b e hb=>hr.hp.lt id hd b (hinv id hd b e hb) hb,fun id hd=>?_⟩,
  ⟨fun id hd e=>?_,fun id hd b e hb=>hr.fr.base id hd b (hinv id hd b e hb) hb,hr.fr.os,hr.fr.tape,hr.fr.output,hr.fr.size,hr.fr.block⟩,fun t=>(hr.slots t).carry hc⟩,hsub,by simp[own']⟩
 simp only[aiK,ais,aiI];by_cases hi:id=h.length
 omega;simp only[own',if_neg hi]at e;have:=hr.hp.dom id hd e;grind;simp only at hd |-;by_cases hi:id<h.length
 rw[ut,if_pos hi]at hd |-;obtain⟨hd',e1,e2⟩:=hr.hp.obs id hd;exact⟨hd',hsub id hd' e1,e2.carry hc (aio _) fun _ _=>rfl⟩;by_cases hi2:id=h.length
 subst hi2;rw[HY];refine⟨_,by simp[own'];rfl,?_⟩;rcases ho with⟨k,rfl⟩ | ⟨k,rfl⟩;exact .inl ⟨none,rfl,rfl,rfl⟩;exact .inl ⟨rfl,rfl,rfl,rfl⟩;rw[qE (by simp;omega)]at hd;cases hd;obtain⟨hd',e1,e2⟩:=hr.fr.ids id hd e;grind
theorem TB {own:Own}{h:List Ob}{a:Act}{w:World}{t:List (Nat×SV)}(hr:StRel F w0 N own ⟨t,h⟩ a w)(k:Tag)(ad:Option Addr):
  ∃ own',StRel F w0 N own' ⟨t,h++[.row k []]⟩ a w/\(∀ id hd,own id=some hd->own' id=some hd)/\own' h.length=some { v:=.slice ad 0 0}:=by
 let own':Own:=fun id=>if id=h.length then some { v:=.slice ad 0 0}else own id
 have hsub:∀ id hd,own id=some hd->own' id=some hd:=fun id hd e=>by
  have:id≠h.length:=by have:=hr.hp.dom id hd e;grind
  grind
 have hinv:∀ id hd b,own' id=some hd->b∈hd.bs->own id=some hd:=fun id hd b e hb=>by
  grind
 have hc:Carries F own w F own' w:=⟨fun id hd e=>⟨hd,hsub id hd e,.refl _⟩,fun b _ hn=>⟨by
  rintro (hf| ⟨id,hd,e,hb⟩);exact hn (.inl hf);exact hn (.inr ⟨id,hd,hinv id hd b e hb,hb⟩),rfl⟩⟩
 refine⟨own',⟨hr.size,hr.defers,⟨fun id hd e=>?_,hr.hp.foreign,fun id hd b e hb=>hr.hp.apart id hd b (hinv id hd b e hb) hb,fun i j hi hj b e1 e2 b1 b2=>hr.hp.inj i j hi hj b (hinv i hi b e1 b1) (hinv j hj b e2 b2) b1 b2,fun id hd b e hb=>hr.hp.lt id hd b (hinv id hd b e hb) hb,fun id hd=>?_⟩,
  ⟨fun id hd e=>?_,fun id hd b e hb=>hr.fr.base id hd b (hinv id hd b e hb) hb,hr.fr.os,hr.fr.tape,hr.fr.output,hr.fr.size,hr.fr.block⟩,fun t=>(hr.slots t).carry hc⟩,hsub,by simp[own']⟩
 simp only[aiK,ais,aiI];by_cases hi:id=h.length
 omega;simp only[own',if_neg hi]at e;have:=hr.hp.dom id hd e;grind;simp only at hd |-;by_cases hi:id<h.length
 rw[ut,if_pos hi]at hd |-;obtain⟨hd',e1,e2⟩:=hr.hp.obs id hd;exact⟨hd',hsub id hd' e1,e2.carry hc (aio _) fun _ _=>rfl⟩;by_cases hi2:id=h.length
 subst hi2;rw[HY];refine⟨_,by simp[own'];rfl,?_⟩;exact .inl ⟨ad,rfl,rfl,rfl⟩;rw[qE (by simp;omega)]at hd;cases hd;obtain⟨hd',e1,e2⟩:=hr.fr.ids id hd e;grind
theorem NilS.rel {st st':St}(hn:NilS st st'){own:Own}{a:Act}{w:World}(hr:StRel F w0 N own st a w):∃ own',StRel F w0 N own' st' a w:=by
 induction hn with
 |refl=>grind
 | @slot t h i o _ hl ho ih=>
  obtain⟨own1,h1⟩:=ih;obtain⟨own2,h2,h3,h4⟩:=O1 h1 o ho;refine⟨own2,h2.size,h2.defers,h2.hp,h2.fr,fun u=>?_⟩;rw[pV];split
  rename_i e;subst e;have:=h1.slots i;rw[hl]at this;rw[bR this];exact .os (hd:= { v:=.slice none 0 0}) h4 rfl;exact h2.slots u
 | @slotE t h i k _ hl ih=>
  obtain⟨own1,h1⟩:=ih;have hs:=h1.slots i;rw[hl]at hs;generalize hv:a.tmps.getD i undef=v at hs;cases hs with
  | @e0 ad=>
   obtain⟨own2,h2,h3,h4⟩:=TB h1 k ad;refine⟨own2,h2.size,h2.defers,h2.hp,h2.fr,fun u=>?_⟩;rw[pV];split
   rename_i e;subst e;rw[hv];exact .os (hd:= { v:=.slice ad 0 0}) h4 rfl;exact h2.slots u
 | @cell t h i j l o _ hc hl ho ih=>
  obtain⟨own1,h1⟩:=ih;obtain⟨own2,h2,h3,h4⟩:=O1 h1 o ho;have hlt:i<h.length:=by
   grind [qE]
  have hlen:(bM h i (.cells (l.set j (.os h.length)))).length=h.length:=by rw[ce,if_pos hlt]
  refine⟨own2,h2.size,h2.defers,⟨fun id hd e=>?_,h2.hp.foreign,h2.hp.apart,h2.hp.inj,h2.hp.lt,fun id hd=>?_⟩,h2.fr,h2.slots⟩;have:=h2.hp.dom id hd e;grind;simp only at hd |-;have hob:=h2.hp.obs id;simp only at hob;by_cases hi:id<h.length
  rw[ut,if_pos (by rw[hlen];exact hi)]at hd |-;rw[ut,if_pos hi]at hob;rw[dv]at hd |-;by_cases hii:i=id
  subst hii;rw[if_pos rfl]at hd |-;rw[hc]at hob;obtain⟨hd',e1,b,cs,ty,m1,m2,m3,m4,m5⟩:=hob rfl;refine⟨hd',e1,b,cs,ty,m1,m2,m3,by grind,fun j' s hs=>?_⟩;rw[ajW]at hs;by_cases hj:j=j'
  subst hj;rw[if_pos rfl]at hs;split at hs
  cases hs;have:=m5 j _ hl;rw[bR this];exact .os (hd:= { v:=.slice none 0 0}) h4 rfl;cases hs;grind
  grind
  simp_all [ut,if_neg]
end
section
variable {P:Program}{F:Nat->Prop}{w0:Bs}{ro:Option Nat}{nd:Nat}{ts:Tis}{G:Cons}{L:wF}{N:Nat}
theorem wV {ts:Tis}{G:Cons}{ro:Option Nat}{N:Nat}(hm:P.follows .mixedOrders=true)(hts:ts.ok P)(hG:ConsOk P G){id:Nat}{c:Code}(hc:cD N c=true){C:St->Option LCon}
  (h:∀ st lc,C st=some lc->lc.pre->∃ (σ:Type) (D:σ->St) (I:σ->Prop) (m:σ->Nat) (x0:σ) (stN:St) (js:List Nat),I x0/\NilS st stN/\st.h.length<=(D x0).h.length/\Sub js st.h.length stN (D x0)/\
   ∀ x,I x->∃ L Qx,ap P ro N L c/\(∀ e st',Qx e st'->xB D I m st.h.length x id (fun e st'=>∃ r js,lc.post r/\lc.ex r=e/\st.h.length<=(lc.out r).h.length/\Sub js st.h.length st' (lc.out r)) e st')/\exec ts G L c (D x) Qx):mP P ro N id (.loop c) C:=by
 intro nd F w0 st lc hC hpre own a w hr;obtain⟨σ,D,I,m,x0,stN,js,h1,hN,h2,h3,h4⟩:=h st lc hC hpre;obtain⟨ownN,hrN⟩:=hN.rel hr;refine wpIn_mono (HR hm hts hG hc D I m st.h.length hr.base_lt _ h4 x0 h1 _ a w (hrN.sub h3 hr.base_lt h2)) ?_;intro e a' w' hq;have key:∀ ex F1 own' st',StRel F1 w0 N own' st' a' w'->(∃ r js,lc.post r/\lc.ex r=ex/\st.h.length<=(lc.out r).h.length/\Sub js st.h.length st' (lc.out r))->∃ own2 st2,StRel F1 w0 N own2 st2 a' w'/\∃ r,lc.post r/\ex=lc.ex r/\st2=lc.out r:=by
  rintro ex F1 own' st' hst ⟨r,js,q1,q2,q3,q4⟩;exact⟨_,_,hst.sub q4 hr.base_lt q3,r,q1,q2.symm,rfl⟩
 cases e with
 |normal=>obtain⟨F1,own',st',h0,k1,k2⟩:=hq;obtain⟨own2,st2,q1,q2⟩:=key _ F1 own' st' k1 k2;exact⟨F1,own2,st2,h0,q1,q2⟩
 |exit j=>obtain⟨F1,own',st',h0,k1,k2⟩:=hq;obtain⟨own2,st2,q1,q2⟩:=key _ F1 own' st' k1 k2;exact⟨F1,own2,st2,h0,q1,q2⟩
 |ret=>obtain⟨F1,own',st',h0,k1,k2⟩:=hq;obtain⟨own2,st2,q1,q2⟩:=key _ F1 own' st' k1 k2;exact⟨F1,own2,st2,h0,q1,q2⟩
 |panic ch=>
  obtain⟨x,F1,own',st',h0,k1,k2,k3⟩:=hq;obtain⟨own2,st2,q1,q2⟩:=key _ F1 own' st' k1 k2;exact⟨x,F1,own2,st2,h0,q1,q2,k3⟩
 |_=>exact hq.elim
end
section
variable {P:Program}{ρ σ:Type}
def ka (st2:St)(n0:Nat)(st:St):Prop:= ∃ js,n0<=st2.h.length/\Sub js n0 st st2
theorem Jy {st2 st:St}{n0:Nat}(js:List Nat)(h1:n0<=st2.h.length)(h2:Sub js n0 st st2):ka st2 n0 st:=⟨js,h1,h2⟩
def wW (D:Nat->σ->St)(n0 k:Nat)(st:St):ρ⊕σ->Prop
 | .inl _=>False| .inr s'=>ka (D (k+1) s') n0 st
def pt (exE:ρ->Ex)(outE:ρ->St)(n0:Nat)(e:Ex)(st:St):ρ⊕σ->Prop
 | .inl x=>exE x=e/\ka (outE x) n0 st| .inr _=>False
def cE (step:Nat->σ->ρ⊕σ)(n:Nat)(exE:ρ->Ex)(outE:ρ->St)(outN:σ->St)(D:Nat->σ->St)(n0 id k:Nat)(s:σ):Ex->St->Prop
 | .normal,st=>k<n/\wW D n0 k st (step k s)| .exit j,st=>bif Nat.beq j id then(n<=k->ka (outN s) n0 st)/\(k<n->pt exE outE n0 .normal st (step k s))else k<n/\pt exE outE n0 (.exit j) st (step k s)| .ret,st=>k<n/\pt exE outE n0 .ret st (step k s)| .pan x,st=>k<n/\pt exE outE n0 (.pan x) st (step k s)
variable {step:Nat->σ->ρ⊕σ}{n n0 id k j:Nat}{exE:ρ->Ex}{outE:ρ->St}{outN:σ->St}{D:Nat->σ->St}{s s':σ}{st:St}{x:Value}{e:Ex}{y:ρ}
@[go_sem] theorem acE:wW (ρ:=ρ) D n0 k st (.inr s')=ka (D (k+1) s') n0 st:=(rfl)
@[go_sem] theorem aet:pt (σ:=σ) exE outE n0 e st (.inl y)=(exE y=e/\ka (outE y) n0 st):=(rfl)
@[go_sem] theorem acF:cE step n exE outE outN D n0 id k s .normal st=(k<n/\wW D n0 k st (step k s)):=(rfl)
@[go_sem] theorem agN:cE step n exE outE outN D n0 id k s (.exit j) st=bif Nat.beq j id then(n<=k->ka (outN s) n0 st)/\(k<n->pt exE outE n0 .normal st (step k s))else k<n/\pt exE outE n0 (.exit j) st (step k s):=(rfl)
@[go_sem] theorem ah0:cE step n exE outE outN D n0 id k s .ret st=(k<n/\pt exE outE n0 .ret st (step k s)):=(rfl)
@[go_sem] theorem ah1:cE step n exE outE outN D n0 id k s (.pan x) st=(k<n/\pt exE outE n0 (.pan x) st (step k s)):=(rfl)
@[congr] theorem YB {r r':ρ⊕σ}(h:r=r'):wW D n0 k st r=wW D n0 k st r':=by rw[h]
@[congr] theorem aeu {st st':St}{e e':Ex}(h:st=st')(he:e=e'):cE step n exE outE outN D n0 id k s e st=cE step n exE outE outN D n0 id k s e' st':=by rw[h,he]
theorem QP {ts:Tis}{G:Cons}{ro:Option Nat}{N:Nat}(hm:P.follows .mixedOrders=true)(hts:ts.ok P)(hG:ConsOk P G){id:Nat}{c:Code}(hc:cD N c=true){C:St->Option LCon}
  (h:∀ st lc,C st=some lc->lc.pre->∃ (ρ σ:Type) (pre:Prop) (step:Nat->σ->ρ⊕σ) (p:Nat->σ->Prop) (n:Nat) (s0:σ) (exE:ρ->Ex) (outE:ρ->St) (outN:σ->St) (D:Nat->σ->St) (stN:St) (js:List Nat),
   lc=LC pre (aq step n 0 s0) exE outE outN/\okI step p n 0 s0/\NilS st stN/\st.h.length<=(D 0 s0).h.length/\Sub js st.h.length stN (D 0 s0)/\
   ∀ k s,k<=n->(k<n->p k s)->∃ L,ap P ro N L c/\exec ts G L c (D k s) (cE step n exE outE outN D st.h.length id k s)):mP P ro N id (.loop c) C:=by
 refine wV hm hts hG hc fun st lc hC hp=>?_;obtain⟨ρ,σ,pre,step,p,n,s0,exE,outE,outN,D,stN,js,rfl,h1,hN,h2,h3,h4⟩:=h st lc hC hp;refine⟨Nat×σ,fun x=>D x.1 x.2,fun x=>x.1<=n/\okI step p (n - x.1) x.1 x.2/\aq step (n - x.1) x.1 x.2=aq step n 0 s0,fun x=>n - x.1,(0,s0),stN,js,⟨aiX _,by omega,by simp⟩,hN,h2,h3,?_⟩;rintro⟨k,s⟩ ⟨hk,hJ,hrun⟩;simp only at hk hJ hrun;obtain⟨L,hl,hex⟩:=h4 k s hk (fun hlt=>by
  rw[show n - k=(n - k - 1)+1 by omega]at hJ;exact hJ.1)
 refine⟨L,_,hl,?_,hex⟩;have hfin:∀ e st',k<n->pt exE outE st.h.length e st' (step k s)->∃ r js,(LC pre (aq step n 0 s0) exE outE outN).post r/\(LC pre (aq step n 0 s0) exE outE outN).ex r=e/\st.h.length<=((LC pre (aq step n 0 s0) exE outE outN).out r).h.length/\Sub js st.h.length st' ((LC pre (aq step n 0 s0) exE outE outN).out r):=by
  intro e st' hlt q;cases hs:step k s with
  |inr s'=>rw[hs]at q;exact q.elim
  |inl x=>
   rw[hs]at q;obtain⟨q2,js,q3,q4⟩:=q;rw[show n - k=(n - k - 1)+1 by omega]at hrun;simp only[aq,hs]at hrun;exact⟨.inl x,js,hrun,q2,q3,q4⟩
 intro e st' hq;cases e with
 |normal=>
  obtain⟨q1,q2⟩:=hq;cases hs:step k s with
  |inl x=>rw[hs]at q2;exact q2.elim
  |inr s'=>
   rw[hs]at q2;obtain⟨js,q3,q4⟩:=q2;rw[show n - k=(n - (k+1))+1 by omega]at hrun hJ;simp only[aq,hs]at hrun;exact⟨(k+1,s'),js,⟨q1,hJ.2 s' hs,hrun⟩,by grind,q3,q4⟩
 |exit j=>
  have hq':(bif Nat.beq j id then(n<=k->ka (outN s) st.h.length st')/\(k<n->pt exE outE st.h.length .normal st' (step k s))else k<n/\pt exE outE st.h.length (.exit j) st' (step k s)):=hq;show bif Nat.beq j id then _ else _;cases hb:Nat.beq j id with
  |true=>
   rw[hb]at hq';simp only[cond_true]at hq' |-;by_cases hlt:k<n
   grind
   obtain⟨js,q3,q4⟩:=hq'.1 (by omega);have hkn:k=n:=by omega
   subst hkn;simp only[aj2,aq]at hrun;exact⟨.inr s,js,hrun,rfl,q3,q4⟩
  |false=>grind
 |ret=>exact hfin _ _ hq.1 hq.2|pan x=>exact hfin _ _ hq.1 hq.2
end
def jF (p:Prop)(S:SV)(H:List Ob):HCon:= { α:=Unit,pre:=p,post:=fun _=>True,res:=fun _=>.ret S H}
def Nk (n0:Nat)(S:SV)(H:List Ob)(h:List Ob):Option SV->Prop
 |some s=>ka ⟨[(0,S)],H⟩ n0 ⟨[(0,s)],h⟩|none=>False
def TC (n0:Nat)(rs:List ResultVar)(ts:Tis)(S:SV)(H:List Ob):Ex->St->Prop
 | .exit _,_=>False| .normal,st=>Nk n0 S H st.h (mz (k9 ts st rs))| .ret,st=>Nk n0 S H st.h (mz (k9 ts st rs))| .pan _,_=>False
section
variable {P:Program}{ts:Tis}{G:Cons}{n0:Nat}{S s:SV}{H h:List Ob}{rs:List ResultVar}{st:St}{x:Value}{j:Nat}
@[go_sem] theorem acG:Nk n0 S H h (some s)=ka ⟨[(0,S)],H⟩ n0 ⟨[(0,s)],h⟩:=(rfl)
@[go_sem] theorem Xf:TC n0 rs ts S H .normal st=Nk n0 S H st.h (mz (k9 ts st rs)):=(rfl)
@[go_sem] theorem acH:TC n0 rs ts S H .ret st=Nk n0 S H st.h (mz (k9 ts st rs)):=(rfl)
@[go_sem high] theorem aar {p:Prop}{ids:List Nat}{d:Option Nat}{K:St->Prop}{Z:Value->St->Prop}:Br ids d st K Z (some (jF p S H))=(p/\Mu ids d st K Z (.ret S H)):=by
 show(p/\∀ r:Unit,True->Mu ids d st K Z (.ret S H))=_;simp
def hCR (t:Tag)(k:List t.T->Option HCon):List Ob->Option HCon
 | [.cells [.os 1],.row k' l] =>if h:k'=t then k (h▸l)else none|_=>none
theorem agO {t:Tag}{k:List t.T->Option HCon}{h:List Ob}{c:HCon}(hh:hCR t k h=some c):∃ l,h=[.cells [.os 1],.row t l]/\k l=some c:=by
 unfold hCR at hh;grind
def pXR {α:Type 1}(t:Tag)(k:List t.T->List SV->Option α):List SV->Option α
 | .ep [.rs k' l] 0::r=>HU t k r k' l|_=>none
@[go_sem] theorem ah2 {α:Type 1}{t:Tag}{k:List t.T->List SV->Option α}{l:List t.T}{r:List SV}:pXR t k (.ep [.rs t l] 0::r)=k l r:=by simp[pXR,HU]
theorem Xg {α:Type 1}{t:Tag}{k:List t.T->List SV->Option α}{l:List SV}{c:α}(h:pXR t k l=some c):∃ x r,l=.ep [.rs t x] 0::r/\k x r=some c:=by
 unfold pXR at h;grind [HU]
theorem qI (hm:P.follows .mixedOrders=true) (hts:ts.ok P) (hG:ConsOk P G) {f:FuncId} {fn:Func} {c:Code} (hf:P.funcs[f]? =some fn) (hb:fn.body=some c) (hname:(fn.name== "runtime.NumGoroutine")=false)
  (hc:cD fn.ntmps c=true) {C:List SV->List Ob->Option HCon}
  (h:∀ l o con,C l o=some con->∃ p S H,con=jF p S H/\(p->l.length<=fn.ntmps/\∃ L,ap P none fn.ntmps L c/\exec ts G L c ⟨nN 0 l,o⟩ (TC o.length fn.results.toList ts S H))):FnOkO P f C:=by
 refine FB hm hts hG hf hb hname hc fun l o con hC hp=>?_;obtain⟨p,S,H,rfl,h2⟩:=h l o con hC;obtain⟨h3,L,h4,h5⟩:=h2 hp;refine⟨h3,L,_,h4,fun e st hq=>?_,h5⟩;cases e with
 |normal=>
  change Nk _ _ _ _ _ at hq;show Bt _ _ _ _;cases hs:mz (k9 ts st fn.results.toList)with
  |none=>rw[hs]at hq;exact hq.elim
  |some s=>rw[hs]at hq;obtain⟨js,q1,q2⟩:=hq;exact⟨(),S,H,js,trivial,rfl,q1,q2⟩
 |ret=>
  change Nk _ _ _ _ _ at hq;show Bt _ _ _ _;cases hs:mz (k9 ts st fn.results.toList)with
  |none=>rw[hs]at hq;exact hq.elim
  |some s=>rw[hs]at hq;obtain⟨js,q1,q2⟩:=hq;exact⟨(),S,H,js,trivial,rfl,q1,q2⟩
 |exit j=>exact hq.elim|pan x=>exact hq.elim
end
end Go.Sx
end
section
namespace Go.Sx
attribute [go_sem] true_imp_iff false_imp_iff Bool.false_eq_true Int.toNat_natCast Int.toNat_zero true_and and_true and_self implies_true forall_const
theorem cl {p:Prop}(h:p:=by(first|done|(repeat' (first|with_reducible refine And.intro ?_ ?_|((with_reducible show _≠_);first|assumption|omega|(simp_all [cy,fK];done) |grind) |with_reducible intro _)) <;>(first|done|with_reducible exact Empty.elim ‹Empty› |with_reducible assumption|rfl|omega|assumption|(simp only[*,cond_true,cond_false,aiP,aiY,go_sem,Nat.reduceBEq,Nat.reduceLeDiff,Nat.reduceAdd,Nat.reduceSub,Nat.reduceMul,Int.reduceLE,Int.reduceLT,Int.reduceToNat,Int.reduceNeg,reduceCtorEq];done) |(simp only[*,cond_true,cond_false,aiP,aiY,go_sem,Nat.reduceBEq,Nat.reduceLeDiff,Nat.reduceAdd,Nat.reduceSub,Nat.reduceMul,Int.reduceLE,Int.reduceLT,Int.reduceToNat,Int.reduceNeg,reduceCtorEq];(repeat' (first|with_reducible refine And.intro ?_ ?_|((with_reducible show _≠_);first|assumption|omega|(simp_all [cy,fK];done) |grind) |with_reducible intro _)) <;>(first|done|assumption|rfl|omega|(simp_all [cy,fK];done))) |(simp_all [okI,cy,fK];done) |grind))):p:=h
theorem cl2 {p:Prop}(h:p:=by(first|done|(repeat' (first|with_reducible refine And.intro ?_ ?_|((with_reducible show _≠_);first|assumption|omega|(simp_all [cy,fK];done) |grind) |with_reducible intro _)) <;>(first|done|with_reducible exact Empty.elim ‹Empty› |with_reducible assumption|rfl|omega|assumption|(simp only[*,go_sem,Nat.reduceBEq,Nat.reduceLeDiff,Nat.reduceAdd,Nat.reduceSub,Nat.reduceMul,Int.reduceLE,Int.reduceLT,Int.reduceToNat,Int.reduceNeg,reduceCtorEq];done) |(simp_all [cy,fK];done)))):p:=h
inductive JL:List Nat->Prop
 |mk (l:List Nat):JL l
theorem jl (l:List Nat):JL l:=.mk l
theorem fk {st2 st:St}{n0:Nat}{js:List Nat}(_:JL js)(h1:n0<=st2.h.length:=by(first|(show _<=_;decide) |(simp only[*,go_sem,Nat.reduceBEq,Nat.reduceLeDiff,Nat.reduceAdd,Nat.reduceSub,Nat.reduceMul,Int.reduceLE,Int.reduceLT,Int.reduceToNat,Int.reduceNeg,reduceCtorEq];done) |(simp only[*,go_sem,Nat.reduceBEq,Nat.reduceLeDiff,Nat.reduceAdd,Nat.reduceSub,Nat.reduceMul,Int.reduceLE,Int.reduceLT,Int.reduceToNat,Int.reduceNeg,reduceCtorEq];(repeat' (first|with_reducible refine And.intro ?_ ?_|((with_reducible show _≠_);first|assumption|omega|(simp_all [cy,fK];done) |grind) |with_reducible intro _)) <;>(first|rfl|decide|assumption|omega|(simp_all [cy,fK];done)))))(h2:Sub js n0 st st2:=by(first|(show _<=_;decide) |(simp only[*,go_sem,Nat.reduceBEq,Nat.reduceLeDiff,Nat.reduceAdd,Nat.reduceSub,Nat.reduceMul,Int.reduceLE,Int.reduceLT,Int.reduceToNat,Int.reduceNeg,reduceCtorEq];done) |(simp only[*,go_sem,Nat.reduceBEq,Nat.reduceLeDiff,Nat.reduceAdd,Nat.reduceSub,Nat.reduceMul,Int.reduceLE,Int.reduceLT,Int.reduceToNat,Int.reduceNeg,reduceCtorEq];(repeat' (first|with_reducible refine And.intro ?_ ?_|((with_reducible show _≠_);first|assumption|omega|(simp_all [cy,fK];done) |grind) |with_reducible intro _)) <;>(first|rfl|decide|assumption|omega|(simp_all [cy,fK];done))))):ka st2 n0 st:=Jy js h1 h2
theorem fk2 {st2 st:St}{n0:Nat}{js:List Nat}(_:JL js)(h1:n0<=st2.h.length:=by(first|(show _<=_;decide) |(simp only[go_sem,Nat.reduceBEq,Nat.reduceLeDiff,Nat.reduceAdd,Nat.reduceSub,Nat.reduceMul,Int.reduceLE,Int.reduceLT,Int.reduceToNat,Int.reduceNeg,reduceCtorEq];(repeat' (first|with_reducible refine And.intro ?_ ?_|((with_reducible show _≠_);first|assumption|omega|(simp_all [cy,fK];done) |grind) |with_reducible intro _)) <;>(first|rfl|decide|assumption|omega|(simp_all [cy,fK];done)))))(h2:Sub js n0 st st2:=by(first|(show _<=_;decide) |(simp only[go_sem,Nat.reduceBEq,Nat.reduceLeDiff,Nat.reduceAdd,Nat.reduceSub,Nat.reduceMul,Int.reduceLE,Int.reduceLT,Int.reduceToNat,Int.reduceNeg,reduceCtorEq];(repeat' (first|with_reducible refine And.intro ?_ ?_|((with_reducible show _≠_);first|assumption|omega|(simp_all [cy,fK];done) |grind) |with_reducible intro _)) <;>(first|rfl|decide|assumption|omega|(simp_all [cy,fK];done))))):ka st2 n0 st:=Jy js h1 h2
theorem cg0 {α:Type _}{p:α->Prop}:∀ x∈([]:List α),p x:=fun _ h=>by cases h
theorem cgc {α:Type _}{p:α->Prop}{a:α}{l:List α}(h:p a)(t:∀ x∈l,p x):∀ x∈a::l,p x:=fun x hx=>by
 rcases aiu.1 hx with rfl|hx;exact h;exact t x hx
attribute [go_sem] if_true
end Go.Sx
end
section
namespace Go.Sx
open Go.RowKit
open IntKind (i64)
section
variable {P:Program}
end
def okL {ρ σ τ:Type}(step:τ->σ->ρ⊕σ)(p:τ->σ->Prop):List τ->σ->Prop
 | [],_=>True|x::l,s=>p x s/\∀ s',step x s=.inr s'->okL step p l s'
theorem Eg {ρ σ τ:Type}{step:τ->σ->ρ⊕σ}{p:τ->σ->Prop}:∀ (l:List τ) (s:σ),(∀ x∈l,∀ s,p x s)->okL step p l s
 | [],_,_=>trivial
 |x::l,s,h=>⟨h x (by simp) s,fun s' _=>Eg l s' fun y hy=>h y (by simp[hy])⟩
section
variable {ρ σ τ:Type}
def rgN (T:List (Nat×SV))(H:σ->List Ob)(n0:Nat)(st:St):ρ⊕σ->Prop
 | .inl _=>False| .inr s'=>ka ⟨T,H s'⟩ n0 ⟨T,st.h⟩
def rgX (exE:ρ->Ex)(T:List (Nat×SV))(Hy:ρ->List Ob)(n0:Nat)(e:Ex)(st:St):ρ⊕σ->Prop
 | .inl y=>exE y=e/\ka ⟨T,Hy y⟩ n0 ⟨T,st.h⟩| .inr _=>False
def rgQ (step:τ->σ->ρ⊕σ)(exE:ρ->Ex)(T:List (Nat×SV))(H:σ->List Ob)(Hy:ρ->List Ob)(n0 id:Nat)(x:τ)(s:σ):Ex->St->Prop
 | .normal,st=>rgN T H n0 st (step x s)| .exit j,st=>rgX exE T Hy n0 (bif Nat.beq j id then .normal else .exit j) st (step x s)| .ret,st=>rgX exE T Hy n0 .ret st (step x s)| .pan _,_=>False
variable {step:τ->σ->ρ⊕σ}{exE:ρ->Ex}{T:List (Nat×SV)}{H:σ->List Ob}{Hy:ρ->List Ob}{n0 id j:Nat}{x:τ}{s s':σ}{y:ρ}{st:St}{e:Ex}
@[go_sem] theorem agP:rgN (ρ:=ρ) T H n0 st (.inr s')=ka ⟨T,H s'⟩ n0 ⟨T,st.h⟩:=(rfl)
@[go_sem] theorem agQ:rgX (σ:=σ) exE T Hy n0 e st (.inl y)=(exE y=e/\ka ⟨T,Hy y⟩ n0 ⟨T,st.h⟩):=(rfl)
@[go_sem] theorem aas:rgQ step exE T H Hy n0 id x s .normal st=rgN T H n0 st (step x s):=(rfl)
@[go_sem] theorem agR:rgQ step exE T H Hy n0 id x s .ret st=rgX exE T Hy n0 .ret st (step x s):=(rfl)
@[go_sem] theorem aev:rgQ step exE T H Hy n0 id x s (.exit j) st=rgX exE T Hy n0 (bif Nat.beq j id then .normal else .exit j) st (step x s):=(rfl)
@[congr] theorem acI {r r':ρ⊕σ}(h:r=r'):rgN T H n0 st r=rgN T H n0 st r':=by rw[h]
@[congr] theorem acJ {r r':ρ⊕σ}{e e':Ex}(h:r=r')(he:e=e'):rgX exE T Hy n0 e st r=rgX exE T Hy n0 e' st r':=by rw[h,he]
end
section
variable {P:Program}{ts:Tis}{G:Cons}{N:Nat}
theorem ud (hm:P.follows .mixedOrders=true)(hts:ts.ok P)(hG:ConsOk P G){id:Nat}{g:Operand}{ps:Array Tmp}{assign body:Code}{C:St->Option LCon}
  (hpn:ps.toList.Nodup) (hpN:∀ p∈ps.toList,p<N) (hca:cD N assign=true) (hcb:cD N body=true)
  (h:∀ st lc,C st=some lc->lc.pre->∃ (f:FuncId) (caps:List SV) (τ ρ σ:Type) (l:List τ) (mk:τ->List SV) (step:τ->σ->ρ⊕σ) (p:τ->σ->Prop) (pre:Prop) (s0:σ) (exE:ρ->Ex) (outE:ρ->St) (outN:σ->St) (T:List (Nat×SV)) (H:σ->List Ob) (Hy:ρ->List Ob) (js:List Nat),
   raw st.t g=.fn f [] caps/\lc=LC pre (dR step l s0) exE outE outN/\okL step p l s0/\st.h.length<=(H s0).length/\Sub js st.h.length ⟨st.t,wU (mQ st caps) st.h⟩ ⟨T,H s0⟩/\
   FG P f (fun y=>y::caps.map (ren (Nh (mQ st caps)) 3)) (Lc (mQ st caps) st.h) (l.map mk)/\
   (∀ x s,p x s->(mk x).length=ps.size/\∃ L,(∀ l,ap P (some l) N L assign)/\(∀ l,ap P (some l) N L body)/\exec ts G L assign ⟨psT ps.toList (mk x)++T,H s⟩ (fun e st1=>e=.normal/\exec ts G L body st1 (rgQ step exE T H Hy st.h.length id x s)))/\
   (∀ s,ka (outN s) st.h.length ⟨T,H s⟩)/\∀ y,ka (outE y) st.h.length ⟨T,Hy y⟩):mP P none N id (.rangeFunc g ps assign body) C:=by
 refine Ld hm hts hG hpn hpN hca hcb fun st lc hC hp=>?_;obtain⟨f,caps,τ,ρ,σ,l,mk,step,p,pre,s0,exE,outE,outN,T,H,Hy,js,h1,rfl,h2,h3,h4,h5,h6,h7,h8⟩:=h st lc hC hp;refine⟨f,caps,l.map mk,σ⊕ρ,T,fun z=>match z with| .inl s=>H s| .inr y=>Hy y,fun k z=>match z with| .inl s=>dR step (l.drop k) s=dR step l s0/\okL step p (l.drop k) s| .inr _=>False,
  fun e z=>match z with| .inl _=>False| .inr y=>dR step l s0=.inl y/\(match e with| .ret=>exE y=.ret| .exit j=>exE y=(bif Nat.beq j id then .normal else .exit j) |_=>False),.inl s0,js,h1,⟨rfl,h2⟩,h3,h4,h5,?_,?_,?_,?_⟩
 rintro k z args hk hI;cases z with
 |inr y=>exact hI.elim
 |inl s=>
  obtain⟨hrun,hok⟩:=hI;rw[ai7,ajl]at hk;obtain⟨x,hx,rfl⟩:=hk;have hlt:=(aiq.1 hx).1;have hd:l.drop k=x::l.drop (k+1):=by
   grind [List.drop_eq_getElem_cons]
  rw[hd]at hrun hok;obtain⟨hl,L,hla,hlb,hex⟩:=h6 x s hok.1;refine⟨hl,L,_,hla,hlb,?_,hex⟩;intro e st' hq;have fin:∀ e',rgX exE T Hy st.h.length e' st' (step x s)->∃ y js,exE y=e'/\dR step l s0=.inl y/\st.h.length<=(Hy y).length/\Sub js st.h.length ⟨T,st'.h⟩ ⟨T,Hy y⟩:=by
   intro e' q;cases hs:step x s with
   |inr s'=>rw[hs]at q;exact q.elim
   |inl y=>
    rw[hs]at q;obtain⟨q1,js,q2,q3⟩:=q;grind [dR]
  cases e with
  |normal=>
   change rgN T H st.h.length st' (step x s)at hq;cases hs:step x s with
   |inl y=>rw[hs]at hq;exact hq.elim
   |inr s'=>
    rw[hs]at hq;obtain⟨js,q1,q2⟩:=hq;simp only[dR,hs]at hrun;exact⟨.inl s',js,⟨hrun,hok.2 s' hs⟩,q1,q2⟩
  |exit j=>
   obtain⟨y,js,q1,q2,q3,q4⟩:=fin _ hq;exact⟨.inr y,js,⟨q2,q1⟩,q3,q4⟩
  |ret=>
   obtain⟨y,js,q1,q2,q3,q4⟩:=fin _ hq;exact⟨.inr y,js,⟨q2,q1⟩,q3,q4⟩
  |pan x=>exact hq.elim
 intro z hI;cases z with
 |inr y=>exact hI.elim
 |inl s=>
  obtain⟨js,q1,q2⟩:=h7 s;have:=hI.1;rw[ajn,List.drop_length]at this;exact⟨.inr s,js,this,rfl,q1,q2⟩
 intro z hS;cases z with
 |inl s=>exact hS.elim
 |inr y=>
  obtain⟨js,q1,q2⟩:=h8 y;exact⟨.inl y,js,hS.1.symm,hS.2,q1,q2⟩
 intro j z hS;cases z with
 |inl s=>exact hS.elim
 |inr y=>
  obtain⟨js,q1,q2⟩:=h8 y;refine⟨.inl y,js,hS.1.symm,?_,q1,q2⟩;have:=hS.2;show exE y=_;rw[this];by_cases hj:j=id
  rw[if_pos hj];have hb:Nat.beq j id=true:=by rw[hj];exact ak9 id
  rw[hb];rfl;rw[if_neg hj];cases hb:Nat.beq j id with
  |true=>exact absurd (ain hb) hj|false=>rfl
end
section
variable {P:Program}{ρ σ τ:Type}
def AT:Ob->Option Nat
 | .mi _ _ _ c=>c|_=>none
def nxC (step:τ->σ->ρ⊕σ)(l:List τ)(d:τ)(D:List Nat->Option Nat->σ->St)(n0:Nat)(left:List Nat)(s:σ)(st:St):Option Nat->Prop
 |some j=>j∈left/\wW (fun _ s'=>D (left.erase j) (some j) s') n0 0 st (step (l.getD j d) s)
 |none=>False
def exC (step:τ->σ->ρ⊕σ)(l:List τ)(d:τ)(exE:ρ->Ex)(outE:ρ->St)(n0:Nat)(left:List Nat)(s:σ)(e:Ex)(st:St):Option Nat->Prop
 |some j=>j∈left/\pt exE outE n0 e st (step (l.getD j d) s)|none=>False
def cM (step:τ->σ->ρ⊕σ)(l:List τ)(d:τ)(exE:ρ->Ex)(outE:ρ->St)(outN:σ->St)(D:List Nat->Option Nat->σ->St)(n0 id it:Nat)(left:List Nat)(s:σ):Ex->St->Prop
 | .normal,st=>nxC step l d D n0 left s st (AT (ar st.h it))| .exit j,st=>bif Nat.beq j id then(left=[]->ka (outN s) n0 st)/\(left≠[]->exC step l d exE outE n0 left s .normal st (AT (ar st.h it)))else exC step l d exE outE n0 left s (.exit j) st (AT (ar st.h it))| .ret,st=>exC step l d exE outE n0 left s .ret st (AT (ar st.h it))| .pan x,st=>exC step l d exE outE n0 left s (.pan x) st (AT (ar st.h it))
variable {step:τ->σ->ρ⊕σ}{l:List τ}{d:τ}{n0 id it j:Nat}{exE:ρ->Ex}{outE:ρ->St}{outN:σ->St}{D:List Nat->Option Nat->σ->St}{left:List Nat}{s s':σ}{st:St}{x:Value}{e:Ex}{y:ρ}{t:List (Nat×SV)}{h:List Ob}
@[go_sem] theorem agS {m:Option Nat}{n:Nat}{left:List Nat}{c:Option Nat}:AT (.mi m n left c)=c:=(rfl)
@[go_sem] theorem aew:nxC step l d D n0 left s st (some j)=(j∈left/\wW (fun _ s'=>D (left.erase j) (some j) s') n0 0 st (step (l.getD j d) s)):=(rfl)
@[go_sem] theorem aex:exC step l d exE outE n0 left s e st (some j)=(j∈left/\pt exE outE n0 e st (step (l.getD j d) s)):=(rfl)
@[go_sem] theorem acK:cM step l d exE outE outN D n0 id it left s .normal ⟨t,h⟩=nxC step l d D n0 left s ⟨t,h⟩ (AT (ar h it)):=(rfl)
@[go_sem] theorem agT:cM step l d exE outE outN D n0 id it left s (.exit j) ⟨t,h⟩=bif Nat.beq j id then(left=[]->ka (outN s) n0 ⟨t,h⟩)/\(left≠[]->exC step l d exE outE n0 left s .normal ⟨t,h⟩ (AT (ar h it)))else exC step l d exE outE n0 left s (.exit j) ⟨t,h⟩ (AT (ar h it)):=(rfl)
@[go_sem] theorem ah3:cM step l d exE outE outN D n0 id it left s .ret ⟨t,h⟩=exC step l d exE outE n0 left s .ret ⟨t,h⟩ (AT (ar h it)):=(rfl)
@[go_sem] theorem ah4:cM step l d exE outE outN D n0 id it left s (.pan x) ⟨t,h⟩=exC step l d exE outE n0 left s (.pan x) ⟨t,h⟩ (AT (ar h it)):=(rfl)
@[congr] theorem aey {st st':St}{e e':Ex}(h:st=st')(he:e=e'):cM step l d exE outE outN D n0 id it left s e st=cM step l d exE outE outN D n0 id it left s e' st':=by rw[h,he]
attribute [go_sem] R4
@[go_sem] theorem aez {t:List (Nat×SV)}{h:List Ob}{d:Nat}{s:SV}:St.put ⟨t,h⟩ (some d) s=⟨(d,s)::t,h⟩:=(rfl)
@[go_sem] theorem aeA {t:List (Nat×SV)}{h:List Ob}{s:SV}:St.put ⟨t,h⟩ none s=⟨t,h⟩:=(rfl)
theorem FL (l:List τ)(d:τ):(List.range l.length).map (fun j=>l.getD j d)=l:=by
 apply List.ext_getElem <;>grind
end
inductive NLoc where
 |slot (i:Nat) (o:Ob)
 |cell (i j:Nat) (o:Ob)
def TD (j n:Nat):Ob->Ob
 | .cells l=>.cells (l.set j (.os n))|o=>o
def Xh (j:Nat):Ob->Prop
 | .cells l=>nth l j=some (.v (.slice none 0 0))|_=>False
def FM:Ob->Prop
 | .row _ l=>l=[]| .grid _ l=>l=[]|_=>False
def QQ:SV->Ob->Prop
 | .v (.slice none 0 0),_=>True| .e0,.row _ _=>True|_,_=>False
def mkN:List NLoc->St->St
 | [],st=>st| .slot i o::r,⟨t,h⟩ =>mkN r ⟨(i,.os h.length)::t,h++[o]⟩| .cell i j o::r,⟨t,h⟩ =>mkN r ⟨t,bM h i (TD j h.length (ar h i))++[o]⟩
def okN:List NLoc->St->Prop
 | [],_=>True| .slot i o::r,⟨t,h⟩ =>QQ (lk i t) o/\FM o/\okN r ⟨(i,.os h.length)::t,h++[o]⟩| .cell i j o::r,⟨t,h⟩ =>Xh j (ar h i)/\FM o/\okN r ⟨t,bM h i (TD j h.length (ar h i))++[o]⟩
section
variable {i j m n:Nat}{o:Ob}{r:List NLoc}{t t2:List (Nat×SV)}{h h2:List Ob}{l:List SV}{ns:List NLoc}{js:List Nat}{st:St}
@[go_sem] theorem agU:mkN [] st=st:=(rfl)
@[go_sem] theorem aeB:mkN (.slot i o::r) ⟨t,h⟩=mkN r ⟨(i,.os h.length)::t,h++[o]⟩:=(rfl)
@[go_sem] theorem aeC:mkN (.cell i j o::r) ⟨t,h⟩=mkN r ⟨t,bM h i (TD j h.length (ar h i))++[o]⟩:=(rfl)
@[go_sem] theorem agV:okN [] st=True:=(rfl)
@[go_sem] theorem aeD:okN (.slot i o::r) ⟨t,h⟩=(QQ (lk i t) o/\FM o/\okN r ⟨(i,.os h.length)::t,h++[o]⟩):=(rfl)
@[go_sem] theorem aeE:okN (.cell i j o::r) ⟨t,h⟩=(Xh j (ar h i)/\FM o/\okN r ⟨t,bM h i (TD j h.length (ar h i))++[o]⟩):=(rfl)
@[go_sem] theorem aeF:QQ (.v (.slice none 0 0)) o=True:=by rfl
@[go_sem] theorem agW {k:Tag}{m:List k.T}:QQ .e0 (.row k m)=True:=(rfl)
@[go_sem] theorem aat:TD j n (.cells l)=.cells (l.set j (.os n)):=(rfl)
@[go_sem] theorem aau:Xh j (.cells l)=(nth l j=some (.v (.slice none 0 0))):=(rfl)
theorem O2 (h:FM o):(∃ k,o=.row k [])\/∃ k,o=.grid k []:=by
 cases o <;>simp only[FM]at h <;>simp_all
theorem TE {s:SV}{o:Ob}(h:QQ s o):s=.v (.slice none 0 0)\/(s=.e0/\∃ k l,o=.row k l):=by
 unfold QQ at h;grind
theorem yN:∀ (ns:List NLoc) (st0 st:St),NilS st0 st->okN ns st->NilS st0 (mkN ns st)
 | [],_,_,hn,_=>hn
 | .slot i o::r,st0,⟨t,h⟩,hn,hk=>by
  rcases TE hk.1 with e| ⟨e,k,l,ho⟩;exact yN r st0 _ (.slot o hn e (O2 hk.2.1)) hk.2.2;have h2:=hk.2.1;have h3:=hk.2.2;rw[ho]at h2 h3;simp only[FM]at h2;subst h2;subst ho;exact yN r st0 _ (.slotE k hn e) h3
 | .cell i j o::r,st0,⟨t,h⟩,hn,hk=>by
  refine yN r st0 _ ?_ hk.2.2;have h1:=hk.1;cases ho:ar h i with
  |cells l=>
   rw[ho]at h1;simp only[Xh,ip]at h1;exact .cell o hn ho h1 (O2 hk.2.1)
  |_=>rw[ho]at h1;exact h1.elim
def uA (m:Nat)(ns:List NLoc)(js:List Nat)(st d:St):Prop:=st.h.length=m/\okN ns st/\m<=d.h.length/\Sub js m (mkN ns st) d
@[go_sem] theorem acL:uA m ns js ⟨t,h⟩ ⟨t2,h2⟩=(h.length=m/\okN ns ⟨t,h⟩/\m<=h2.length/\Sub js m (mkN ns ⟨t,h⟩) ⟨t2,h2⟩):=(rfl)
end
theorem ag {P:Program}{ro:Option Nat}{N:Nat}(c:Code):ap P ro N L0 c:=by
 induction c with
 |seq a b ha hb=>exact⟨ha,hb⟩|cond _ a b ha hb=>exact⟨ha,hb⟩
 |block id c hc=>
  cases c with
  |loop c=>exact fun _ _ _ _ _ h=>by cases h
  |rangeFunc f ps a b=>exact fun _ _ _ _ _ h=>by cases h
  |_=>exact hc
 |_=>trivial
section
variable {ρ σ τ:Type}
def pT:Nat->σ->Prop:=fun _ _=>True
@[go_sem] theorem ah5 {step:Nat->σ->ρ⊕σ}{n i:Nat}{s:σ}:okI step pT n i s=True:=eq_true (kU _ _ _ fun _ _ _ _=>trivial)
def LCR (m:Nat)(ns:List NLoc)(js:List Nat)(D:Nat->σ->St)(step:Nat->σ->ρ⊕σ)(p:Nat->σ->Prop)(n:Nat)(s0:σ)(B:Prop)(exE:ρ->Ex)(outE:ρ->St)(st:St):LCon:=
 LC (uA m ns js st (D 0 s0)/\B/\okI step p n 0 s0) (aq step n 0 s0) exE outE (D n)
def LCV (m:Nat)(ns:List NLoc)(js:List Nat)(D:Nat->σ->St)(step:Nat->σ->ρ⊕σ)(p:Nat->σ->Prop)(n:Nat)(s0:σ)(exE:ρ->Ex)(outE:ρ->St)(st:St):LCon:=
 LC (uA m ns js st (D 0 s0)/\okI step p n 0 s0/\∀ s,aq step n 0 s0≠ .inr s) (aq step n 0 s0) exE outE (D n)
variable {m:Nat}{ns:List NLoc}{js:List Nat}{step:Nat->σ->ρ⊕σ}{p:Nat->σ->Prop}{n:Nat}{s0:σ}{B:Prop}{exE:ρ->Ex}{outE:ρ->St}{outN:σ->St}{st:St}{Q:Ex->St->Prop}
@[go_sem] theorem acM {D:Nat->σ->St}:tI Q (some (LCR m ns js D step p n s0 B exE outE st))=((uA m ns js st (D 0 s0)/\B/\okI step p n 0 s0)/\(∀ x,aq step n 0 s0=.inl x->Q (exE x) (outE x))/\∀ s,aq step n 0 s0=.inr s->Q .normal (D n s)):=K_
@[go_sem] theorem acN {D:Nat->σ->St}:tI Q (some (LCV m ns js D step p n s0 exE outE st))=((uA m ns js st (D 0 s0)/\okI step p n 0 s0/\∀ s,aq step n 0 s0≠ .inr s)/\∀ x,aq step n 0 s0=.inl x->Q (exE x) (outE x)):=by
 refine K_.trans ?_;grind
def cR (step:Nat->σ->ρ⊕σ)(exE:ρ->Ex)(outE:ρ->St)(D:Nat->σ->St)(m id k:Nat)(s:σ):Ex->St->Prop
 | .normal,st=>wW D m k st (step k s)| .exit j,st=>pt exE outE m (bif Nat.beq j id then .normal else .exit j) st (step k s)| .ret,st=>pt exE outE m .ret st (step k s)| .pan x,st=>pt exE outE m (.pan x) st (step k s)
def cZ (d:St)(m id:Nat):Ex->St->Prop
 | .exit j,st=>bif Nat.beq j id then ka d m st else False|_,_=>False
variable {D:Nat->σ->St}{id k j:Nat}{s:σ}{x:Value}{d:St}{e e':Ex}
@[go_sem] theorem acO:cR step exE outE D m id k s .normal st=wW D m k st (step k s):=(rfl)
@[go_sem] theorem agX:cR step exE outE D m id k s (.exit j) st=pt exE outE m (bif Nat.beq j id then .normal else .exit j) st (step k s):=(rfl)
@[go_sem] theorem ah6:cR step exE outE D m id k s .ret st=pt exE outE m .ret st (step k s):=(rfl)
@[go_sem] theorem ah7:cR step exE outE D m id k s (.pan x) st=pt exE outE m (.pan x) st (step k s):=(rfl)
@[go_sem] theorem agY:cZ d m id (.exit j) st=bif Nat.beq j id then ka d m st else False:=(rfl)
@[congr] theorem aeG {st':St}(h:st=st')(he:e=e'):cR step exE outE D m id k s e st=cR step exE outE D m id k s e' st':=by rw[h,he]
@[congr] theorem aeH {st':St}(h:st=st')(he:e=e'):cZ d m id e st=cZ d m id e' st':=by rw[h,he]
@[congr] theorem YC {r r':ρ⊕σ}(h:r=r')(he:e=e'):pt exE outE m e st r=pt exE outE m e' st r':=by rw[h,he]
end
section
variable {P:Program}{ρ σ τ:Type}{ts:Tis}{G:Cons}{ro:Option Nat}{N:Nat}{id:Nat}{c:Code}{C:St->Option LCon}{m:Nat}{ns:List NLoc}{js:List Nat}{step:Nat->σ->ρ⊕σ}{p:Nat->σ->Prop}{n:Nat}{s0:σ}{exE:ρ->Ex}{outE:ρ->St}{D:Nat->σ->St}
theorem TF {n0:Nat}(hn0:n0=m){s:σ}{k:Nat}(hlt:k<n){I:Nat×σ->Prop}{μ:Nat×σ->Nat}{outN:σ->St}{pre:Prop}{run:ρ⊕σ}
  (hI:∀ s',step k s=.inr s'->I (k+1,s')/\μ (k+1,s') <μ (k,s)) (hx:∀ x,step k s=.inl x->run=.inl x):
  ∀ e st',cR step exE outE D m id k s e st'->xB (fun x:Nat×σ=>D x.1 x.2) I μ n0 (k,s) id (fun e st'=>∃ r js,(LC pre run exE outE outN).post r/\(LC pre run exE outE outN).ex r=e/\n0<=((LC pre run exE outE outN).out r).h.length/\Sub js n0 st' ((LC pre run exE outE outN).out r)) e st':=by
 subst hn0;have hfin:∀ e st',pt exE outE n0 e st' (step k s)->∃ r js,(LC pre run exE outE outN).post r/\(LC pre run exE outE outN).ex r=e/\n0<=((LC pre run exE outE outN).out r).h.length/\Sub js n0 st' ((LC pre run exE outE outN).out r):=by
  intro e st' q;cases hs:step k s with
  |inr s'=>rw[hs]at q;exact q.elim
  |inl x=>
   rw[hs]at q;obtain⟨q2,js,q3,q4⟩:=q;exact⟨.inl x,js,(hx x hs).symm,q2,q3,q4⟩
 intro e st' hq;cases e with
 |normal=>
  change wW D n0 k st' (step k s)at hq;cases hs:step k s with
  |inl x=>rw[hs]at hq;exact hq.elim
  |inr s'=>
   rw[hs]at hq;obtain⟨js,q3,q4⟩:=hq;obtain⟨i1,i2⟩:=hI s' hs;exact⟨(k+1,s'),js,i1,i2,q3,q4⟩
 |exit j=>
  change pt exE outE n0 (bif Nat.beq j id then .normal else .exit j) st' (step k s)at hq;show bif Nat.beq j id then _ else _;grind
 |ret=>exact hfin _ _ hq|pan x=>exact hfin _ _ hq
theorem CN {B:Prop}(hm:P.follows .mixedOrders=true)(hts:ts.ok P)(hG:ConsOk P G)(hc:cD N c=true)(hC:∀ st,C st=some (LCR m ns js D step p n s0 B exE outE st))
  (h:B->∀ k s,k<n->p k s->∃ L Q,ap P ro N L c/\(∀ e st',Q e st'->cR step exE outE D m id k s e st')/\exec ts G L c (D k s) Q)
  (h2:B->∀ s,∃ Q,(∀ e st',Q e st'->cZ (D n s) m id e st')/\exec ts G L0 c (D n s) Q):mP P ro N id (.loop c) C:=by
 refine wV hm hts hG hc fun st lc hC' hp=>?_;rw[hC st]at hC';cases hC';obtain⟨⟨hlen,hok,hle,hsub⟩,hB,h1⟩:=hp;refine⟨Nat×σ,fun x=>D x.1 x.2,fun x=>x.1<=n/\okI step p (n - x.1) x.1 x.2/\aq step (n - x.1) x.1 x.2=aq step n 0 s0,fun x=>n - x.1,(0,s0),mkN ns st,js,⟨aiX _,by omega,by simp⟩,yN ns st st (.refl _) hok,by grind,by grind,?_⟩;rintro⟨k,s⟩ ⟨hk,hJ,hrun⟩;simp only at hk hJ hrun;rcases ajk k n with hlt|hge;rw[show n - k=(n - k - 1)+1 by omega]at hrun hJ;obtain⟨L,Q,hl,hQ,hex⟩:=h hB k s hlt hJ.1;have hI:∀ s',step k s=.inr s'->okI step p (n - (k+1)) (k+1) s'/\aq step (n - (k+1)) (k+1) s'=aq step n 0 s0:=fun s' hs=>by
  have:=hJ.2 s' hs;grind [aq]
 have hx:∀ x,step k s=.inl x->aq step n 0 s0=.inl x:=fun x hs=>by
  grind [aq]
 exact⟨L,Q,hl,fun e st' q=>TF hlen hlt (fun s' hs=>⟨⟨hlt,hI s' hs⟩,by omega⟩) hx e st' (hQ e st' q),hex⟩;have hkn:k=n:=by omega
 subst hkn;obtain⟨Q,hQ,hex⟩:=h2 hB s;refine⟨L0,Q,ag c,fun e st' q=>?_,hex⟩;have hq:=hQ e st' q;simp only[aj2,aq]at hrun;cases e with
 |exit j=>
  change bif Nat.beq j id then ka (D k s) m st' else False at hq;show bif Nat.beq j id then _ else _;cases hb:Nat.beq j id with
  |true=>
   rw[hb]at hq;obtain⟨js,q3,q4⟩:=hq;exact⟨.inr s,js,hrun,rfl,by rw[hlen];exact q3,by rw[hlen];exact q4⟩
  |false=>grind
 |_=>exact hq.elim
theorem a8 {B:Prop}(hm:P.follows .mixedOrders=true)(hts:ts.ok P)(hG:ConsOk P G)(hc:cD N c=true)(hC:∀ st,C st=some (LCR m ns js D step p n s0 B exE outE st))(M:Int)(hn:n=M.toNat)(hB:B->M<9223372036854775808)
  (h:B->∀ k s,k<n->p k s->i64.wrap ((k:Int)+1)=((k+1:Nat):Int)->decide ((k:Int) <M)=true->∃ L,ap P ro N L c/\exec ts G L c (D k s) (cR step exE outE D m id k s))
  (h2:B->∀ s,decide ((n:Int) <M)=false->exec ts G L0 c (D n s) (cZ (D n s) m id)):mP P ro N id (.loop c) C:=by
 refine CN hm hts hG hc hC (fun b k s hlt hp=>?_) fun b s=>⟨_,fun _ _ q=>q,h2 b s ?_⟩;obtain⟨L,h1,h3⟩:=h b k s hlt hp (Oz (hn▸hlt) (hB b)) (decide_eq_true (by omega));grind
 grind
theorem TG (E:Prop)(hm:P.follows .mixedOrders=true)(hts:ts.ok P)(hG:ConsOk P G)(hc:cD N c=true)(hC:∀ st,C st=some (LCR m ns js D step p n s0 True exE outE st))(M:Int)(hn:n=M.toNat)(hE:E->M<9223372036854775808)
  (h:E->∀ k s,k<n->p k s->i64.wrap ((k:Int)+1)=((k+1:Nat):Int)->decide ((k:Int) <M)=true->∃ L,ap P ro N L c/\exec ts G L c (D k s) (cR step exE outE D m id k s))
  (h2:E->∀ s,decide ((n:Int) <M)=false->exec ts G L0 c (D n s) (cZ (D n s) m id)) (h3:¬E->∀ k s,exec ts G L0 c (D k s) fun _ _=>False):mP P ro N id (.loop c) C:=by
 by_cases hb:E
 refine CN hm hts hG hc hC (fun b k s hlt hp=>?_) fun b s=>⟨_,fun _ _ q=>q,h2 hb s ?_⟩;obtain⟨L,h1,h4⟩:=h hb k s hlt hp (Oz (hn▸hlt) (hE hb)) (decide_eq_true (by omega));grind
 grind
 exact CN hm hts hG hc hC (fun _ k s _ _=>⟨L0,_,ag c,fun _ _ q=>q.elim,h3 hb k s⟩) fun _ s=>⟨_,fun _ _ q=>q.elim,h3 hb n s⟩
theorem uB (hm:P.follows .mixedOrders=true)(hts:ts.ok P)(hG:ConsOk P G)(hc:cD N c=true)(hC:∀ st,C st=some (LCV m ns js D step p n s0 exE outE st))
  (h:∀ k s,p k s->∃ L,ap P ro N L c/\exec ts G L c (D k s) (cR step exE outE D m id k s)):mP P ro N id (.loop c) C:=by
 refine wV hm hts hG hc fun st lc hC' hp=>?_;rw[hC st]at hC';cases hC';obtain⟨⟨hlen,hok,hle,hsub⟩,h1,hno⟩:=hp;refine⟨Nat×σ,fun x=>D x.1 x.2,fun x=>x.1<=n/\okI step p (n - x.1) x.1 x.2/\aq step (n - x.1) x.1 x.2=aq step n 0 s0,fun x=>n - x.1,(0,s0),mkN ns st,js,⟨aiX _,by omega,by simp⟩,yN ns st st (.refl _) hok,by grind,by grind,?_⟩;rintro⟨k,s⟩ ⟨hk,hJ,hrun⟩;simp only at hk hJ hrun;have hlt:k<n:=by
  rcases ajk k n with h|h;exact h;have hkn:k=n:=by omega
  subst hkn;simp only[aj2,aq]at hrun;grind
 rw[show n - k=(n - k - 1)+1 by omega]at hrun hJ;obtain⟨L,hl,hex⟩:=h k s hJ.1;have hI:∀ s',step k s=.inr s'->okI step p (n - (k+1)) (k+1) s'/\aq step (n - (k+1)) (k+1) s'=aq step n 0 s0:=fun s' hs=>by
  have:=hJ.2 s' hs;grind [aq]
 have hx:∀ x,step k s=.inl x->aq step n 0 s0=.inl x:=fun x hs=>by
  grind [aq]
 exact⟨L,_,hl,fun e st' q=>TF hlen hlt (fun s' hs=>⟨⟨hlt,hI s' hs⟩,by omega⟩) hx e st' q,hex⟩
theorem iB {α:Type}{l:List α}(h:l.length<=aI):(l.length:Int) <9223372036854775808:=by grind [aI]
end
section
universe u
variable {α:Type u}{G:List SV->α->Prop}{r:List SV}
theorem bY {k:Int->List SV->Option α}(h:∀ n l c,k n l=some c->G (.v (.int .i64 n)::l) c):∀ l c,pI k l=some c->G l c:=fun l c hc=>by
 obtain⟨n,r,rfl,h1⟩:=aab hc;grind
theorem Nl {k:Int->List SV->Option α}(h:∀ n l c,k n l=some c->G (.v (.int .u64 n)::l) c):∀ l c,pU k l=some c->G l c:=fun l c hc=>by
 obtain⟨n,r,rfl,h1⟩:=CI hc;grind
theorem TH {k:Bool->List SV->Option α}(h:∀ n l c,k n l=some c->G (.v (.bool n)::l) c):∀ l c,pB k l=some c->G l c:=fun l c hc=>by
 obtain⟨n,r,rfl,h1⟩:=aac hc;grind
theorem bB {t:Tag}{k:List t.T->List SV->Option α}(h:∀ n l c,k n l=some c->G (.rs t n::l) c):∀ l c,pR t k l=some c->G l c:=fun l c hc=>by
 obtain⟨n,r,rfl,h1⟩:=aad hc;grind
theorem a7 {t:Tag}{k:t.T->List SV->Option α}(h:∀ n l c,k n l=some c->G (.agg (cellsOf t n)::l) c):∀ l c,pD t k l=some c->G l c:=fun l c hc=>by
 obtain⟨n,r,rfl,h1⟩:=Ju hc;grind
theorem aP {t:Tag}{k:t.T->List SV->Option α}(h:∀ n l c,k n l=some c->G (.ep (cellsOf t n) 0::l) c):∀ l c,pX t k l=some c->G l c:=fun l c hc=>by
 obtain⟨n,r,rfl,h1⟩:=SP hc;grind
theorem aj {c0:α}(h:G [] c0):∀ l c,pE c0 l=some c->G l c:=fun l c hc=>by
 obtain⟨rfl,rfl⟩:=CJ hc;exact h
end
end Go.Sx
end
