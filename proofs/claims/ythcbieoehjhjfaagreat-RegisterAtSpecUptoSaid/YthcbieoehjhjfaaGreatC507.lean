/- Part of the proof that the law RegisterAtSpec returns true and leaves its arguments as they were, for all arguments of bulk at most 1048576 (the Upto form). -/
import Derived.Test.YthcbieoehjhjfaaGreatC506
import Derived.RecoverIn
import Derived.Laws.Pointers
import Derived.Test.YthcbieoehjhjfaaGreatProg
set_option linter.all false
set_option maxHeartbeats 4000000
section
namespace Go.Sx
open Go.RowKit
def okI {ρ σ:Type}(step:Nat→σ→ρ⊕σ)(p:Nat→σ→Prop):Nat→Nat→σ→Prop
 |0,_,_=>True
 |n+1,i,s=>p i s∧∀ s',step i s=.inr s'→okI step p n (i+1) s'
theorem iL {ρ σ:Type}{step:Nat→σ→ρ⊕σ}{p:Nat→σ→Prop}:∀ (n i:Nat) (s:σ),(∀ j s,i≤j→j<i+n→p j s)→okI step p n i s
 |0,_,_,_=>trivial
 |n+1,i,s,h=>⟨h i s (Nat.le_refl _) (by omega),fun s' _=>iL n (i+1) s' fun j s h1 h2=>h j s (by omega) (by omega)⟩
theorem kf {ρ σ:Type}{step:Nat→σ→ρ⊕σ}{p:Nat→σ→Prop}(J:Nat→σ→Prop):∀ (n i:Nat) (s:σ),J i s→(∀ j s,i≤j→j<i+n→J j s→p j s∧∀ s',step j s=.inr s'→J (j+1) s')→okI step p n i s
 |0,_,_,_,_=>trivial
 |n+1,i,s,h0,h=>⟨(h i s (Nat.le_refl _) (by omega) h0).1,fun s' hs=>kf J n (i+1) s' ((h i s (Nat.le_refl _) (by omega) h0).2 s' hs) fun j s h1 h2=>h j s (by omega) (by omega)⟩
theorem wY {ρ σ:Type}{step:Nat→σ→ρ⊕σ}(J:Nat→σ→Prop):∀ (n i:Nat) (s:σ),J i s→(∀ j s,i≤j→j<i+n→J j s→∀ s',step j s=.inr s'→J (j+1) s')→∀ r,ak step n i s=.inr r→J (i+n) r
 |0,i,s,h0,_,r,hr=>by simp only[ak,Sum.inr.injEq]at hr;subst hr;exact h0
 |n+1,i,s,h0,h,r,hr=>by
  simp only[ak]at hr
  cases hs:step i s with
  |inl x=>rw[hs]at hr;cases hr
  |inr s'=>
   rw[hs]at hr
   have:=wY J n (i+1) s' (h i s (Nat.le_refl _) (by omega) h0 s' hs) (fun j s h1 h2=>h j s (by omega) (by omega)) r hr
   rw[show i+(n+1)=i+1+n by omega];exact this
section
variable {P:Program}{ρ σ:Type}
def BG (D:Nat→σ→St)(js:List Nat)(n0 k:Nat)(st:St):ρ⊕σ→Prop
 | .inl _=>False
 | .inr s'=>n0≤(D (k+1) s').h.length∧Sub js n0 st (D (k+1) s')
def exQ (exE:ρ→Ex)(outE:ρ→St)(js:List Nat)(n0:Nat)(e:Ex)(st:St):ρ⊕σ→Prop
 | .inl x=>exE x=e∧n0≤(outE x).h.length∧Sub js n0 st (outE x)
 | .inr _=>False
def cQ (step:Nat→σ→ρ⊕σ)(n:Nat)(exE:ρ→Ex)(outE:ρ→St)(outN:σ→St)(D:Nat→σ→St)(js:List Nat)(n0 id k:Nat)(s:σ):Ex→St→Prop
 | .normal,st=>k<n∧BG D js n0 k st (step k s)
 | .exit j,st=>bif Nat.beq j id then(n≤k→n0≤(outN s).h.length∧Sub js n0 st (outN s))∧(k<n→exQ exE outE js n0 .normal st (step k s))else k<n∧exQ exE outE js n0 (.exit j) st (step k s)
 | .ret,st=>k<n∧exQ exE outE js n0 .ret st (step k s)
 | .pan x,st=>k<n∧exQ exE outE js n0 (.pan x) st (step k s)
variable {step:Nat→σ→ρ⊕σ}{n n0 id k j:Nat}{exE:ρ→Ex}{outE:ρ→St}{outN:σ→St}{D:Nat→σ→St}{js:List Nat}{s s':σ}{st:St}{x:Value}{e:Ex}{y:ρ}
@[go_sem] theorem Qi:BG (ρ:=ρ) D js n0 k st (.inr s')=(n0≤(D (k+1) s').h.length∧Sub js n0 st (D (k+1) s')):=(rfl)
@[go_sem] theorem TQ:exQ (σ:=σ) exE outE js n0 e st (.inl y)=(exE y=e∧n0≤(outE y).h.length∧Sub js n0 st (outE y)):=(rfl)
@[go_sem] theorem Qj:cQ step n exE outE outN D js n0 id k s .normal st=(k<n∧BG D js n0 k st (step k s)):=(rfl)
@[go_sem] theorem TR:cQ step n exE outE outN D js n0 id k s (.exit j) st=bif Nat.beq j id then(n≤k→n0≤(outN s).h.length∧Sub js n0 st (outN s))∧(k<n→exQ exE outE js n0 .normal st (step k s))else k<n∧exQ exE outE js n0 (.exit j) st (step k s):=(rfl)
@[go_sem] theorem Ux:cQ step n exE outE outN D js n0 id k s .ret st=(k<n∧exQ exE outE js n0 .ret st (step k s)):=(rfl)
@[go_sem] theorem Uy:cQ step n exE outE outN D js n0 id k s (.pan x) st=(k<n∧exQ exE outE js n0 (.pan x) st (step k s)):=(rfl)
@[congr] theorem Mk {r r':ρ⊕σ}(h:r=r'):BG D js n0 k st r=BG D js n0 k st r':=by rw[h]
@[congr] theorem Qk {r r':ρ⊕σ}(h:r=r'):exQ exE outE js n0 e st r=exQ exE outE js n0 e st r':=by rw[h]
@[congr] theorem RY {st st':St}{e e':Ex}(h:st=st')(he:e=e'):cQ step n exE outE outN D js n0 id k s e st=cQ step n exE outE outN D js n0 id k s e' st':=by rw[h,he]
theorem F4 {ts:Tis}{G:Cons}{ro:Option Nat}{N:Nat}(hm:P.follows .mixedOrders=true)(hts:ts.ok P)(hG:ConsOk P G){id:Nat}{c:Code}(hc:ct N c=true){C:St→Option LCon}
  (h:∀ st lc,C st=some lc→lc.pre→∃ (ρ σ:Type) (pre:Prop) (step:Nat→σ→ρ⊕σ) (p:Nat→σ→Prop) (n:Nat) (s0:σ) (exE:ρ→Ex) (outE:ρ→St) (outN:σ→St) (D:Nat→σ→St) (js:List Nat),
   lc=LC pre (ak step n 0 s0) exE outE outN∧okI step p n 0 s0∧st.h.length≤(D 0 s0).h.length∧Sub js st.h.length st (D 0 s0)∧
   ∀ k s,k≤n→(k<n→p k s)→∃ L,al P ro N L c∧exec ts G L c (D k s) (cQ step n exE outE outN D js st.h.length id k s)):iX P ro N id (.loop c) C:=by
 refine BA hm hts hG hc fun st lc hC hp=>?_
 obtain⟨ρ,σ,pre,step,p,n,s0,exE,outE,outN,D,js,rfl,h1,h2,h3,h4⟩:=h st lc hC hp
 refine⟨Nat×σ,fun x=>D x.1 x.2,fun x=>x.1≤n∧okI step p (n - x.1) x.1 x.2∧ak step (n - x.1) x.1 x.2=ak step n 0 s0,fun x=>n - x.1,(0,s0),js,⟨Nat.zero_le _,by simpa using h1,by simp⟩,h2,h3,?_⟩
 rintro⟨k,s⟩ ⟨hk,hJ,hrun⟩
 simp only at hk hJ hrun
 obtain⟨L,hl,hex⟩:=h4 k s hk (fun hlt=>by
  rw[show n - k=(n - k - 1)+1 by omega]at hJ
  exact hJ.1)
 refine⟨L,_,hl,?_,hex⟩
 have hfin:∀ e st',k<n→exQ exE outE js st.h.length e st' (step k s)→∃ r js,(LC pre (ak step n 0 s0) exE outE outN).post r∧(LC pre (ak step n 0 s0) exE outE outN).ex r=e∧st.h.length≤((LC pre (ak step n 0 s0) exE outE outN).out r).h.length∧Sub js st.h.length st' ((LC pre (ak step n 0 s0) exE outE outN).out r):=by
  intro e st' hlt q
  cases hs:step k s with
  |inr s'=>rw[hs]at q;exact q.elim
  |inl x=>
   rw[hs]at q
   obtain⟨q2,q3,q4⟩:=q
   rw[show n - k=(n - k - 1)+1 by omega]at hrun
   simp only[ak,hs]at hrun
   exact⟨.inl x,js,hrun,q2,q3,q4⟩
 intro e st' hq
 cases e with
 |normal=>
  obtain⟨q1,q2⟩:=hq
  cases hs:step k s with
  |inl x=>rw[hs]at q2;exact q2.elim
  |inr s'=>
   rw[hs]at q2
   rw[show n - k=(n - (k+1))+1 by omega]at hrun hJ
   simp only[ak,hs]at hrun
   exact⟨(k+1,s'),js,⟨q1,hJ.2 s' hs,hrun⟩,by simp only;omega,q2.1,q2.2⟩
 |exit j=>
  have hq':(bif Nat.beq j id then(n≤k→st.h.length≤(outN s).h.length∧Sub js st.h.length st' (outN s))∧(k<n→exQ exE outE js st.h.length .normal st' (step k s))else k<n∧exQ exE outE js st.h.length (.exit j) st' (step k s)):=hq
  show bif Nat.beq j id then _ else _
  cases hb:Nat.beq j id with
  |true=>
   rw[hb]at hq'
   simp only[cond_true]at hq' ⊢
   by_cases hlt:k<n
   ·exact hfin _ _ hlt (hq'.2 hlt)
   ·obtain⟨q3,q4⟩:=hq'.1 (by omega)
    have hkn:k=n:=by omega
    subst hkn
    simp only[Nat.sub_self,ak]at hrun
    exact⟨.inr s,js,hrun,rfl,q3,q4⟩
  |false=>rw[hb]at hq';exact hfin _ _ hq'.1 hq'.2
 |ret=>exact hfin _ _ hq.1 hq.2
 |pan x=>exact hfin _ _ hq.1 hq.2
end
def aX {ρ σ:Type}[Inhabited σ]:ρ⊕σ→σ| .inr s=>s| .inl _=>default
def bu {ρ σ:Type}[Inhabited ρ]:ρ⊕σ→ρ| .inl s=>s| .inr _=>default
@[go_sem] theorem HN {ρ σ:Type}[Inhabited σ]{s:σ}:aX (ρ:=ρ) (.inr s)=s:=(rfl)
@[go_sem] theorem HO {ρ σ:Type}[Inhabited ρ]{s:ρ}:bu (σ:=σ) (.inl s)=s:=(rfl)
theorem HP {k:Nat}{n:Int}(h:k<n.toNat)(hn:n<9223372036854775808):IntKind.i64.wrap ((k:Int)+1)=((k+1:Nat):Int):=by
 rw[aT (by omega) (by omega)];omega
end Go.Sx
end
section
namespace Go.Sx
open Go.RowKit
def ra (pks:List Pk):SV→SV
 | .tup l=>.tup (cT pks l)
 |s=>match pks with| [p] =>tS p s|_=>s
section
variable {F:Nat→Prop}{own:Own}{w:World}
theorem BH {pks:List Pk}{s:SV}{v:Value}(h:Rel F own w s v):Rel F own w (ra pks s) v:=by
 unfold ra
 split
 ·cases h with
  |tup h0 h1=>
   refine .tup (by rw[wV];exact h0) fun j s hj=>?_
   obtain⟨s0,e1,e2| ⟨p,e2⟩⟩:=wW _ _ _ _ hj
   ·subst e2;exact h1 j _ e1
   ·subst e2;exact wU (h1 j _ e1)
 ·split
  ·exact wU h
  ·exact h
@[go_sem] theorem RZ {pks:List Pk}{l:List SV}:ra pks (.tup l)=.tup (cT pks l):=(rfl)
@[go_sem] theorem R4 {p:Pk}{l:List SV}:ra [p] (.agg l)=tS p (.agg l):=(rfl)
@[go_sem] theorem Uz {p:Pk}{x:Value}:ra [p] (.v x)=tS p (.v x):=(rfl)
@[go_sem] theorem TS {p:Pk}{k:Tag}{l:List k.T}:ra [p] (.rs k l)=tS p (.rs k l):=(rfl)
@[go_sem] theorem TT {p:Pk}{k k2:Tag}{l:List (k.T×k2.T)}:ra [p] (.rm k k2 l)=tS p (.rm k k2 l):=(rfl)
@[go_sem] theorem TU {p:Pk}:ra [p] .e0=tS p .e0:=(rfl)
end
section
variable {P:Program}{ts:Tis}{G:Cons}
theorem aU (pks:List Pk) (hm:P.follows .mixedOrders=true) (hts:ts.ok P) (hG:ConsOk P G) {f:FuncId} {fn:Func} {c:Code} (hf:P.funcs[f]? =some fn) (hb:fn.body=some c) (hname:(fn.name== "runtime.NumGoroutine")=false)
  (hc:ct fn.ntmps c=true) {C:List SV→Option Con}
  (h:∀ l con,C l=some con→aG con→l.length≤fn.ntmps∧∃ L,al P none fn.ntmps L c∧exec ts G L c ⟨j8 0 l,[]⟩ (AZ false fn.results.toList ts (fun s=>cX con (ra pks s)) (jI con))):FnOk P f C:=by
 refine⟨fun l con _ args w=>?_,fun l con hcon hpre F w vs hF hvs=>?_⟩
 ·have hn:¬fn.name= "runtime.NumGoroutine":=by simpa using hname
  simp[callFunc,hf,hn,hb]
 ·obtain⟨hlen,L,hl,hx⟩:=h l con hcon hpre
  refine nq (n:=0) (callsIn_of_wp_marks hf hb trivial ?_)
  have hr:StRel F { w:=w,own:=cw} fn.ntmps cw ⟨j8 0 l,[]⟩ { tmps:=vs++Array.replicate (fn.ntmps - vs.size) undef,defers:=[]} w:=
   ⟨by have:=hvs.1;simp;omega,Dfr.nil,s5 hF,Fr.refl _,fun t=>l7 hvs _ t⟩
  refine wpIn_mono (mN hm hts hG c hc hl F _ _ hx cw _ w hr) ?_
  intro e a' w' hq
  have key:∀ F1 own st,(∀ b,F b→F1 b)→StRel F1 { w:=w,own:=cw} fn.ntmps own st a' w'→dv (fun s=>cX con (ra pks s)) (r6 false fn.results.toList ts st)→LeavesInM (rd none) 0 P fn a'.tmps
    (fun e w'=>(∃ s u own',cX con s∧e=.returned u∧Handed F w own' w' s u∧Below w.heap.size w w')∨(∃ x,jI con x∧e=.panicked [{ v:=x,recovered:=false}]∧Below w.heap.size w w')) a'.defers .returning w':=by
   intro F1 own st hF1 hst hdone
   refine jg hst (by simp) fun w2 hst2=>?_
   have hst3:=hst2.less hF1 rfl
   simp only[r6,cond_false,sI]at hdone
   cases hs:kK (jG ts st fn.results.toList)with
   |none=>rw[hs]at hdone;exact hdone.elim
   |some s=>
    obtain⟨u,e1,e2⟩:=s4 (P:=P) hts hst3 hs
    refine⟨u,e1,.inl ?_⟩
    rw[hs]at hdone
    exact⟨_,u,cw,hdone,rfl,qj hst3.hp.foreign (BH (qO hst3.hp 4 s u e2)),l6 hst3.fr⟩
  cases e with
  |normal=>obtain⟨F1,own,st,h0,h1,h2⟩:=hq;exact key F1 own st h0 h1 h2
  |ret=>obtain⟨F1,own,st,h0,h1,h2⟩:=hq;exact key F1 own st h0 h1 h2
  |exit id=>obtain⟨F1,own,st,h0,h1,h2⟩:=hq;exact h2.elim
  |panic ch=>
   obtain⟨x,F1,own,st,h0,h1,h2,rfl⟩:=hq
   exact jg h1 (by simp) fun w2 hst2=>.inr ⟨x,h2,rfl,l6 hst2.fr⟩
  |_=>exact hq.elim
end
end Go.Sx
end
section
namespace Go.Sx
open Go.RowKit
theorem sh {o:Ob}(ho:Ei o=false):∀ (h:List Ob) (i:Nat),iW h=false→iW (bF h i o)=false
 | [],0,_=>by simp[bF,iW,ho]
 | [],n+1,_=>by simp[bF,iW,Ei,sh ho [] n rfl]
 |a::r,0,h=>by simp only[iW,Bool.or_eq_false_iff]at h;simp[bF,iW,ho,h.2]
 |a::r,n+1,h=>by simp only[iW,Bool.or_eq_false_iff]at h;simp[bF,iW,h.1,sh ho r n h.2]
def Ml (P:Program)(g:FuncId)(C:Value→Option SV):Prop:=
 (∀ (args:Array Value) (w:World),(callFunc g args).run P w=.ok (.enter g args) w)∧
 (∀ (p:Addr) (w:World),CallsDIn (rd none) 0 P g #[.pointer (some p)] .returning w (fun e u' w'=>(∃ v,e=.returned v)∧u'=.returning∧w'=w))∧
 ∀ (x:Value) (s:SV),C x=some s→∀ (F:Nat→Prop) (own:Own) (w:World) (h:List Ob) (id:Nat) (hd:Hd) (b:Nat) (y:SV),iW h=false→Hp F own w h→ag h id=.cells [y]→own id=some hd→hd.p=some b→
  CallsDIn (rd none) 0 P g #[.pointer (some ⟨b,0,none⟩)] (.panicking [{ v:=x,recovered:=false}]) w (fun e u' w'=>(∃ v,e=.returned v)∧u'=.panicking [{ v:=x,recovered:=true}]∧∃ own',Hp F own' w' (bF h id (.cells [s]))∧Fr { w:=w,own:=own} own' w')
section
variable {P:Program}{ts:Tis}{G:Cons}
theorem Ae {n:Nat}{g:FuncId}{i1 t3 q:Nat}{o1 o2:Oper}{tys:Array TypeId}{Q:Exit→Act→World→Prop}{a:Act}{w:World}{b:Nat}
  (ho1:o1.dst=some t3∧o1.op=.makeFunc (.func g) #[] #[.tmp q]∧o1.guard=none) (ho2:o2.dst=none∧o2.op=.defer ⟨.value (.tmp t3),#[],tys⟩∧o2.guard=none)
  (hq:a.tmps.getD q undef=.pointer (some ⟨b,0,none⟩)) (ht3:t3<a.tmps.size)
  (h:Q .normal { tmps:=a.tmps.setIfInBounds t3 (.func (.func g) #[] #[.pointer (some ⟨b,0,none⟩)]),defers:= { target:=.fn (.func g) #[.pointer (some ⟨b,0,none⟩)],args:= #[]}::a.defers} w):
  (Code.region i1 #[o1,o2] false).wpIn (rd none) n P Q a w:=by
 obtain⟨d1,p1,t1,s1,f1,g1⟩:=o1
 obtain⟨d2,p2,t2,s2,f2,g2⟩:=o2
 obtain⟨rfl,rfl,rfl⟩:=ho1
 obtain⟨rfl,rfl,rfl⟩:=ho2
 refine wpIn_region ?_
 have hget:(a.tmps.setIfInBounds t3 (.func (.func g) #[] #[.pointer (some ⟨b,0,none⟩)])).getD t3 undef=.func (.func g) #[] #[.pointer (some ⟨b,0,none⟩)]:=by
  simp[Array.getD_eq_getD_getElem?,ht3]
 have hr1:List.range (#[(⟨some t3,.makeFunc (.func g) #[] #[.tmp q],t1,s1,f1,none⟩:Oper),(⟨none,.defer ⟨.value (.tmp t3),#[],tys⟩,t2,s2,f2,none⟩:Oper)]:Array Oper).size=[0,1]:=rfl
 rw[hr1]
 simp only[wpOpsIn,Oper.wpIn,Region.wanted]
 have e1:(#[(⟨some t3,.makeFunc (.func g) #[] #[.tmp q],t1,s1,f1,none⟩:Oper),(⟨none,.defer ⟨.value (.tmp t3),#[],tys⟩,t2,s2,f2,none⟩:Oper)]:Array Oper)[0]? =some ⟨some t3,.makeFunc (.func g) #[] #[.tmp q],t1,s1,f1,none⟩:=rfl
 have e2:(#[(⟨some t3,.makeFunc (.func g) #[] #[.tmp q],t1,s1,f1,none⟩:Oper),(⟨none,.defer ⟨.value (.tmp t3),#[],tys⟩,t2,s2,f2,none⟩:Oper)]:Array Oper)[1]? =some ⟨none,.defer ⟨.value (.tmp t3),#[],tys⟩,t2,s2,f2,none⟩:=rfl
 rw[e1,e2]
 simp only[if_true]
 refine⟨fun _ _=>trivial,?_⟩
 have r1:((⟨some t3,.makeFunc (.func g) #[] #[.tmp q],t1,s1,f1,none⟩:Oper).semAt (rd none).round a.eval).run P w=.ok (.value (.func (.func g) #[] #[.pointer (some ⟨b,0,none⟩)])) w:=by
  simp[Oper.semAt,execOp,go_sem,Act.eval,hq]
  try rfl
 rw[r1]
 simp only[Oper.uponIn_value]
 refine⟨fun _ _=>trivial,?_⟩
 have r2:((⟨none,.defer ⟨.value (.tmp t3),#[],tys⟩,t2,s2,f2,none⟩:Oper).semAt (rd none).round (a.put (some t3) (.func (.func g) #[] #[.pointer (some ⟨b,0,none⟩)])).eval).run P w=.ok (.defer { target:=.fn (.func g) #[.pointer (some ⟨b,0,none⟩)],args:= #[]}) w:=by
  simp[Oper.semAt,execOp,go_sem,Act.eval,Act.put,hget]
  try rfl
 rw[r2]
 simp only[Oper.uponIn_defer]
 exact h
theorem DE {F:Nat→Prop}{w0:Bs}{ro:Option Nat}{nd N:Nat}(hm:P.follows .mixedOrders=true)(hts:ts.ok P)(hG:ConsOk P G){id:Nat}{ops:Array Oper}(hc:ct N (.region id ops false)=true){st:St}{Q:St→Prop}{L:pm}(hx:exec ts G L (.region id ops false) st (fun e st=>e=.normal∧Q st))
  {own:Own} {a:Act} {w:World} (hr:StRel F w0 N own st a w):(Code.region id ops false).wpIn (rd ro) nd P (fun e a w=>e=.normal∧∃ own st,StRel F w0 N own st a w∧Q st) a w:=by
 have hx':wi (uK ts G ops false st) (fun e st=>e=.normal∧Q st) (L (id+2000000) st):=hx
 have key:∀ Q:Ex→St→Prop,(∀ x st,¬Q (.pan x) st)→uK ts G ops false st Q→(Code.region id ops false).wpIn (rd ro) nd P (fun e a w=>e=.normal∧∃ own st,StRel F w0 N own st a w∧Q .normal st) a w:=by
  intro Q hpan hx'
  simp only[ct,Bool.and_eq_true]at hc
  obtain⟨h1,h2⟩:=hc
  have hrok:=He h1
  obtain⟨l⟩:=ops
  have hx':fw ts G l l st (fun st'=>Q .normal (p9 l st')) (fun x st'=>Q (.pan x) st'):=hx'
  refine wpIn_region_list ?_
  exact Dc (K:=fun st'=>Q .normal (p9 l st')) (Z:=fun x st'=>Q (.pan x) st') hts hG hrok (fun x own st a w h1 h2=>(hpan x _ h2).elim) l 0 own st a w rfl (hr.start l fun k hk=>by omega) hx' fun own st a w hi hk=>⟨rfl,own,_,StRel.finish hi,hk⟩
 cases hlc:L (id+2000000) st with
 |none=>
  rw[hlc]at hx'
  refine wpIn_mono (key (fun e st=>e=.normal∧Q st) (fun x st h=>(by cases h.1)) hx') fun e a w ⟨h1,own,st,h2,h3⟩ =>⟨h1,own,st,h2,h3.2⟩
 |some lc=>
  rw[hlc]at hx'
  refine wpIn_mono (key (QS lc fun e st=>e=.normal∧Q st) (fun x st h=>(by have h:Ex.pan x=.normal∧Q st:=h;cases h.1)) hx'.1) fun e a w ⟨h1,own,st,h2,r,h3,h4,h5⟩ =>⟨h1,own,_,h2.subJ h4 h5,(hx'.2 r h3).2⟩
def F5:Ob→Prop
 | .cells [_] =>True
 |_=>False
theorem HQ {o:Ob}(h:F5 o):∃ y,o=.cells [y]:=by
 unfold F5 at h;split at h
 ·exact⟨_,rfl⟩
 ·exact h.elim
def Kl (rs:List ResultVar)(ts:Tis)(post:SV→Prop)(id:Nat)(st:St):Option SV→Prop
 |some s=>F5 (ag st.h id)∧iW st.h=false∧dv post (sI rs ts ⟨st.t,bF st.h id (.cells [s])⟩)
 |none=>False
def Km (C:Value→Option SV)(rs:List ResultVar)(ts:Tis)(post:SV→Prop)(id:Nat):Ex→St→Prop
 | .exit _,_=>False
 | .normal,st=>dv post (sI rs ts st)
 | .ret,st=>dv post (sI rs ts st)
 | .pan x,st=>Kl rs ts post id st (C x)
@[go_sem] theorem NV {y:SV}:F5 (.cells [y])=True:=(rfl)
@[go_sem] theorem Ql {rs:List ResultVar}{ts:Tis}{post:SV→Prop}{id:Nat}{st:St}{s:SV}:Kl rs ts post id st (some s)=(F5 (ag st.h id)∧iW st.h=false∧dv post (sI rs ts ⟨st.t,bF st.h id (.cells [s])⟩)):=(rfl)
section
variable {C:Value→Option SV}{rs:List ResultVar}{ts:Tis}{post:SV→Prop}{id:Nat}{st:St}{x:Value}
@[go_sem] theorem Mm:Km C rs ts post id .normal st=dv post (sI rs ts st):=(rfl)
@[go_sem] theorem R5:Km C rs ts post id .ret st=dv post (sI rs ts st):=(rfl)
@[go_sem] theorem R6:Km C rs ts post id (.pan x) st=Kl rs ts post id st (C x):=(rfl)
end
def F6:Code→Code| .seq a _=>a|c=>c
def DF:Code→Code| .seq _ b=>b|c=>c
def regI:Code→Nat| .region i _ _=>i|_=>0
def R7 (i:Nat):Code→Oper| .region _ ops _=>ops.getD i default|_=>default
theorem NW {g:FuncId}{RC:Value→Option SV}(hrec:Ml P g RC)(pks:List Pk)(hm:P.follows .mixedOrders=true)(hts:ts.ok P)(hG:ConsOk P G){f:FuncId}{fn:Func}{c0 c1:Code}{i1 t3 q:Nat}{o1 o2:Oper}{tys:Array TypeId}
  (hf:P.funcs[f]? =some fn) (hb:fn.body=some (.seq c0 (.seq (.region i1 #[o1,o2] false) c1))) (hname:(fn.name== "runtime.NumGoroutine")=false)
  (ho1:o1.dst=some t3∧o1.op=.makeFunc (.func g) #[] #[.tmp q]∧o1.guard=none) (ho2:o2.dst=none∧o2.op=.defer ⟨.value (.tmp t3),#[],tys⟩∧o2.guard=none) (ht3:t3<fn.ntmps)
  (hc0:ct fn.ntmps c0=true) (hc1:ct fn.ntmps c1=true) {C:List SV→Option Con}
  (h:∀ l con,C l=some con→aG con→l.length≤fn.ntmps∧∃ L L' id,al P none fn.ntmps L c0∧al P none fn.ntmps L' c1∧exec ts G L c0 ⟨j8 0 l,[]⟩ (fun e st=>e=.normal∧lk q st.t=.ptr id 0∧F5 (ag st.h id)∧
   exec ts G L' c1 ⟨(t3,.any)::st.t,st.h⟩ (Km RC fn.results.toList ts (fun s=>cX con (ra pks s)) id))):FnOk P f C:=by
 refine⟨fun l con _ args w=>?_,fun l con hcon hpre F w vs hF hvs=>?_⟩
 ·have hn:¬fn.name= "runtime.NumGoroutine":=by simpa using hname
  simp[callFunc,hf,hn,hb]
 ·obtain⟨hlen,L,L',id,hl,hl',hx⟩:=h l con hcon hpre
  refine nq (n:=0) (callsIn_of_wp_marks hf hb trivial ?_)
  have hr:StRel F { w:=w,own:=cw} fn.ntmps cw ⟨j8 0 l,[]⟩ { tmps:=vs++Array.replicate (fn.ntmps - vs.size) undef,defers:=[]} w:=
   ⟨by have:=hvs.1;simp;omega,Dfr.nil,s5 hF,Fr.refl _,fun t=>l7 hvs _ t⟩
  refine wpIn_seq (wpIn_mono (mN hm hts hG c0 hc0 hl F _ _ hx cw _ w hr) ?_)
  intro e a1 w1 hq
  cases e with
  |normal=>
   obtain⟨F1,own1,st1,hF1,hst1,_,hlk,_,hx1⟩:=hq
   have hsq:=hst1.slots q
   rw[hlk]at hsq
   generalize hv:a1.tmps.getD q undef=pv at hsq
   cases hsq with
   | @ptr _ _ b hd ho hp=>
   show(Code.seq (.region i1 #[o1,o2] false) c1).wpIn (rd none) 0 P _ a1 w1
   have hsz:=hst1.size
   refine wpIn_seq (Ae ho1 ho2 hv (by rw[hsz];exact ht3) ?_)
   show c1.wpIn (rd none) 0 P _ _ w1
   obtain⟨ms,Ds,k0,k1,k2,k3⟩:=hst1.defers
   have k0':a1.defers=ms:=by rw[k0];exact List.append_nil _
   let d:Deferred:= { target:=.fn (.func g) #[.pointer (some ⟨b,0,none⟩)],args:= #[]}
   let B:Bs:= { w:=w1,own:=own1,ds:=d::a1.defers}
   have hr2:StRel F1 B fn.ntmps own1 ⟨(t3,.any)::st1.t,st1.h⟩ { tmps:=a1.tmps.setIfInBounds t3 (.func (.func g) #[] #[.pointer (some ⟨b,0,none⟩)]),defers:=d::a1.defers} w1:=by
    refine⟨by simpa using hsz,Dfr.nil,hst1.hp,Fr.refl B,fun t=>?_⟩
    rw[kS]
    by_cases ht:t3=t
    ·rw[if_pos ht];exact .any _
    ·rw[if_neg ht]
     have:=hst1.slots t
     simp only[Array.getD_eq_getD_getElem?,Array.getElem?_setIfInBounds,if_neg ht]
     simpa[Array.getD_eq_getD_getElem?]using this
   have hbd:∀ D∈Ds,¬ ∃ id hd,own1 id=some hd∧D∈hd.bs:=fun D hD ⟨i,hd,e,hm⟩ =>hst1.hp.apart i hd D e hm (k3 D hD).2.1
   have fin:∀ F2 own2 st2 (a2:Act) w2,(∀ b,F1 b→F2 b)→StRel F2 B fn.ntmps own2 st2 a2 w2→dv (fun s=>cX con (ra pks s)) (sI fn.results.toList ts st2)→
     LeavesInM (rd none) 0 P fn a2.tmps (fun e w'=>(∃ s u own',cX con s∧e=.returned u∧Handed F w own' w' s u∧Below w.heap.size w w')∨(∃ x,jI con x∧e=.panicked [{ v:=x,recovered:=false}]∧Below w.heap.size w w')) a1.defers .returning w2:=by
    intro F2 own2 st2 a2 w2 hF2 hst2 hdone
    have hB:StRel F2 { w:=w,own:=cw} fn.ntmps own2 st2 { a2 with defers:=[]} w2:=⟨hst2.size,Dfr.nil,hst2.hp,hst1.fr.trans ⟨hst2.fr.ids,hst2.fr.base,hst2.fr.os,hst2.fr.tape,hst2.fr.output,hst2.fr.size,hst2.fr.block⟩,hst2.slots⟩
    have hkeep:∀ D∈Ds,w2.heap[D]? =some (.deferred (some [])):=fun D hD=>by
     rw[hst2.fr.block D ⟨lz (k3 D hD).2.2,hbd D hD⟩];exact(k3 D hD).2.2
    rw[k0',←List.append_nil ms]
    refine uh (by simp) Ds ms w2 k1 k2 hkeep fun w4 hs=>?_
    have hst4:=(hB.shut (Ds:=Ds) (fun D hD=>⟨(k3 D hD).1,hF2 D (k3 D hD).2.1,hkeep D hD⟩) hs).less (fun c hc=>hF2 c (hF1 c hc)) rfl
    simp only[sI]at hdone
    cases hres:kK (jG ts st2 fn.results.toList)with
    |none=>rw[hres]at hdone;exact hdone.elim
    |some s=>
     obtain⟨u,e1,e2⟩:=s4 (P:=P) hts hst4 hres
     rw[hres]at hdone
     exact⟨u,e1,.inl ⟨_,u,cw,hdone,rfl,qj hst4.hp.foreign (BH (qO hst4.hp 4 s u e2)),l6 hst4.fr⟩⟩
   have hinv:∀ w2:World,(invoke (.fn (.func g) #[.pointer (some ⟨b,0,none⟩)]) #[]).run P w2=.ok (.enter g #[.pointer (some ⟨b,0,none⟩)]) w2:=fun w2=>by simp[invoke,go_sem,hrec.1]
   refine wpIn_mono (mN hm hts hG c1 hc1 hl' F1 _ _ hx1 own1 _ w1 hr2) ?_
   have idle:∀ (a':Act) (w':World) F2 own2 st2,(∀ b,F1 b→F2 b)→StRel F2 B fn.ntmps own2 st2 a' w'→dv (fun s=>cX con (ra pks s)) (sI fn.results.toList ts st2)→
     LeavesInM (rd none) 0 P fn a'.tmps (fun e w'=>(∃ s u own',cX con s∧e=.returned u∧Handed F w own' w' s u∧Below w.heap.size w w')∨(∃ x,jI con x∧e=.panicked [{ v:=x,recovered:=false}]∧Below w.heap.size w w')) a'.defers .returning w':=by
    intro a' w' F2 own2 st2 hF2 hst2 hdone
    refine jg hst2 (by simp) fun w2 hst3=>?_
    refine⟨by simp,.inr ⟨fun h=>(by cases h),.func g,#[.pointer (some ⟨b,0,none⟩)],g,#[.pointer (some ⟨b,0,none⟩)],rfl,hinv w2,fun _ _=>trivial,?_⟩⟩
    refine(hrec.2.1 ⟨b,0,none⟩ w2).mono ?_
    rintro e u' w3 ⟨⟨v,rfl⟩,rfl,rfl⟩
    exact fin F2 own2 st2 { a' with defers:=B.ds} _ hF2 hst3 hdone
   intro e a' w' hq
   cases e with
   |normal=>obtain⟨F2,own2,st2,h0,h1,h2⟩:=hq;exact idle a' w' F2 own2 st2 h0 h1 h2
   |ret=>obtain⟨F2,own2,st2,h0,h1,h2⟩:=hq;exact idle a' w' F2 own2 st2 h0 h1 h2
   |exit jd=>obtain⟨F2,own2,st2,h0,h1,h2⟩:=hq;exact h2.elim
   |panic ch=>
    obtain⟨x,F2,own2,st2,h0,h1,hm,rfl⟩:=hq
    change Kl fn.results.toList ts _ id st2 (RC x)at hm
    cases m1:RC x with
    |none=>rw[m1]at hm;exact hm.elim
    |some s=>
    rw[m1]at hm
    obtain⟨hm2,m4,m3⟩:=hm
    obtain⟨y,m2⟩:=HQ hm2
    refine jg h1 (by simp) fun w2 hst3=>?_
    refine⟨by simp,.inr ⟨fun h=>(by cases h),.func g,#[.pointer (some ⟨b,0,none⟩)],g,#[.pointer (some ⟨b,0,none⟩)],rfl,hinv w2,fun _ _=>trivial,?_⟩⟩
    obtain⟨hd2,e2,l2⟩:=hst3.fr.ids id hd ho
    refine(hrec.2.2 x s m1 F2 own2 w2 st2.h id hd2 b y m4 hst3.hp m2 e2 (l2.1.trans hp)).mono ?_
    rintro e u' w3 ⟨⟨v,rfl⟩,rfl,own3,q1,q2⟩
    exact fin F2 own3 ⟨st2.t,_⟩ { a' with defers:=B.ds} w3 h0 (hst3.moved q1 q2) m3
   |_=>exact hq.elim
  |ret=>obtain⟨F1,own,st,h0,h1,h2,_⟩:=hq;cases h2
  |exit jd=>obtain⟨F1,own,st,h0,h1,h2,_⟩:=hq;cases h2
  |panic ch=>obtain⟨x,F1,own,st,h0,h1,⟨h2,_⟩,_⟩:=hq;cases h2
  |_=>exact hq.elim
end
end Go.Sx
end
section
namespace Go.Sx
open Go.Proofs
def ti3:TI:=⟨1,8,false,[(.v (.int .i64 0))],[],0,0,false,false,(some .int),(some .i64),false,[],none,none,1⟩
def ti4:TI:=⟨1,1,false,[(.v (.bool false))],[],0,0,false,false,(some .bool),none,false,[],none,none,3⟩
def ti9:TI:=⟨1,16,false,[(.v (.string (ByteArray.mk #[])))],[],0,0,false,false,(some .str),none,false,[],none,none,2⟩
def Kn:TI:=⟨2,16,true,[(.v (.int .i64 0)),(.v (.int .i64 0))],[(0,(1,false)),(1,(1,false))],0,0,false,false,(some .tank),none,false,[1,1],none,none,0⟩
def Ko:TI:=⟨1,24,false,[(.v (.slice none 0 0))],[],113,0,true,false,none,none,false,[],none,none,0⟩
def Kp:TI:=⟨1,24,false,[(.v (.slice none 0 0))],[],115,0,true,false,none,none,false,[],none,none,0⟩
def Kq:TI:=⟨1,24,false,[(.v (.slice none 0 0))],[],140,0,true,false,none,none,false,[],none,none,0⟩
def Kr:TI:=⟨1,24,false,[(.v (.slice none 0 0))],[],58,0,true,false,none,none,false,[],none,none,0⟩
def Ks:TI:=⟨1,24,false,[(.v (.slice none 0 0))],[],144,0,true,false,none,none,false,[],none,none,0⟩
def Kt:TI:=⟨1,24,false,[(.v (.slice none 0 0))],[],214,0,true,false,none,none,false,[],none,none,0⟩
def Ku:TI:=⟨10,184,true,[(.v (.string (ByteArray.mk #[]))),(.v (.int .i64 0)),(.v (.int .i64 0)),(.v (.int .i64 0)),(.v (.slice none 0 0)),(.v (.slice none 0 0)),(.v (.slice none 0 0)),(.v (.slice none 0 0)),(.v (.slice none 0 0)),(.v (.slice none 0 0))],[(0,(1,false)),(1,(1,false)),(2,(2,true)),(4,(1,false)),(5,(1,false)),(6,(1,false)),(7,(1,false)),(8,(1,false)),(9,(1,false))],0,0,false,false,(some .district),none,false,[],none,none,0⟩
def Kv:TI:=⟨1,24,false,[(.v (.slice none 0 0))],[],35,0,true,false,none,none,false,[],none,none,0⟩
def Kw:TI:=⟨1,24,false,[(.v (.slice none 0 0))],[],71,0,true,false,none,none,false,[],none,none,0⟩
def Kx:TI:=⟨9,88,true,[(.v (.int .i64 0)),(.v (.int .i64 0)),(.v (.int .i64 0)),(.v (.int .i64 0)),(.v (.int .i64 0)),(.v (.slice none 0 0)),(.v (.int .i64 0)),(.v (.int .i64 0)),(.v (.int .i64 0))],[(0,(1,false)),(1,(1,false)),(2,(1,false)),(3,(1,false)),(4,(1,false)),(5,(1,false)),(6,(1,false)),(7,(1,false)),(8,(1,false))],0,0,false,false,(some .deed),none,false,[],none,none,0⟩
def Ky:TI:=⟨1,24,false,[(.v (.slice none 0 0))],[],67,0,true,false,none,none,false,[],none,none,0⟩
def Kz:TI:=⟨1,24,false,[(.v (.slice none 0 0))],[],3,0,true,false,none,none,false,[],none,none,0⟩
def KA:TI:=⟨10,88,true,[(.v (.string (ByteArray.mk #[]))),(.v (.int .i64 0)),(.v (.int .i64 0)),(.v (.int .i64 0)),(.v (.int .i64 0)),(.v (.int .i64 0)),(.v (.int .i64 0)),(.v (.int .i64 0)),(.v (.int .i64 0)),(.v (.int .i64 0))],[(0,(1,false)),(1,(1,false)),(2,(1,false)),(3,(1,false)),(4,(1,false)),(5,(1,false)),(6,(1,false)),(7,(1,false)),(8,(1,false)),(9,(1,false))],0,0,false,false,(some .right),none,false,[2,1,1,1,1,1,1,1,1,1],none,none,0⟩
def KB:TI:=⟨1,8,false,[(.v (.map none))],[],4,0,false,false,none,none,false,[],(some .int),(some .bool),0⟩
def KC:TI:=⟨4,32,true,[(.v (.int .i64 0)),(.v (.int .i64 0)),(.v (.int .i64 0)),(.v (.int .i64 0))],[(0,(1,false)),(1,(1,false)),(2,(1,false)),(3,(1,false))],0,0,false,false,(some .holding),none,false,[1,1,1,1],none,none,0⟩
def KD:TI:=⟨2,16,true,[(.v (.int .i64 0)),(.v (.int .i64 0))],[(0,(1,false)),(1,(1,false))],0,0,false,false,(some .ratio),none,false,[1,1],none,none,0⟩
def KE:TI:=⟨3,24,true,[(.v (.int .i64 0)),(.v (.int .i64 0)),(.v (.int .i64 0))],[(0,(1,false)),(1,(2,true))],0,0,false,false,(some .part),none,false,[1,1,1],none,none,0⟩
def KF:TI:=⟨1,8,false,[(.v (.map none))],[],35,0,false,false,none,none,false,[],(some .int),(some .deed),0⟩
def KG:TI:=⟨1,8,false,[(.v (.map none))],[],3,0,false,false,none,none,false,[],(some .registerTitle),(some .int),0⟩
def KH:TI:=⟨2,16,true,[(.v (.int .i64 0)),(.v (.int .i64 0))],[(0,(1,false)),(1,(1,false))],0,0,false,false,(some .registerTitle),none,false,[1,1],none,none,0⟩
def EG:TI:=⟨4,32,true,[(.v (.int .i64 0)),(.v (.int .i64 0)),(.v (.int .i64 0)),(.v (.int .i64 0))],[],69,2,false,true,(some .ratio2),none,false,[],none,none,0⟩
def EH:TI:=⟨2,16,true,[(.v (.int .i64 0)),(.v (.int .i64 0))],[(0,(1,false)),(1,(1,false))],0,0,false,false,(some .range),none,false,[1,1],none,none,0⟩
def EI:TI:=⟨12,104,true,[(.v (.string (ByteArray.mk #[]))),(.v (.int .i64 0)),(.v (.int .i64 0)),(.v (.int .i64 0)),(.v (.int .i64 0)),(.v (.int .i64 0)),(.v (.int .i64 0)),(.v (.int .i64 0)),(.v (.int .i64 0)),(.v (.int .i64 0)),(.v (.int .i64 0)),(.v (.int .i64 0))],[(0,(1,false)),(1,(1,false)),(2,(1,false)),(3,(1,false)),(4,(1,false)),(5,(1,false)),(6,(2,true)),(8,(4,true))],0,0,false,false,(some .reach),none,false,[],none,none,0⟩
def EJ:TI:=⟨4,40,true,[(.v (.string (ByteArray.mk #[]))),(.v (.int .i64 0)),(.v (.int .i64 0)),(.v (.int .i64 0))],[(0,(1,false)),(1,(1,false)),(2,(1,false)),(3,(1,false))],0,0,false,false,(some .farm),none,false,[2,1,1,1],none,none,0⟩
def EK:TI:=⟨1,8,false,[(.v (.int .u64 0))],[],0,0,false,false,none,(some .u64),false,[],none,none,1⟩
def EL:TI:=⟨1,8,false,[(.v (.map none))],[],127,0,false,false,none,none,false,[],(some .int),(some .fnc),0⟩
def EM:TI:=⟨2,24,true,[(.v (.string (ByteArray.mk #[]))),(.v (.int .i64 0))],[(0,(1,false)),(1,(1,false))],0,0,false,false,(some .crop),none,false,[2,1],none,none,0⟩
def EN:TI:=⟨4,40,true,[(.v (.string (ByteArray.mk #[]))),(.v (.int .i64 0)),(.v (.int .i64 0)),(.v (.int .i64 0))],[(0,(1,false)),(1,(1,false)),(2,(1,false)),(3,(1,false))],0,0,false,false,(some .duty),none,false,[2,1,1,1],none,none,0⟩
def EO:TI:=⟨1,8,false,[(.v .nilFunc)],[],0,0,false,false,none,none,false,[],none,none,0⟩
def EP:TI:=⟨1,8,true,[(.v .nilFunc)],[(0,(1,false))],0,0,false,false,none,none,false,[],none,none,0⟩
def ts:Tis:=fun t=>(bif Nat.ble t 58 then(bif Nat.ble t 28 then(bif Nat.ble t 23 then(bif Nat.ble t 4 then(bif Nat.ble t 3 then(bif Nat.beq t 3 then some ti3 else none)else(bif Nat.beq t 4 then some ti4 else none))else(bif Nat.ble t 9 then(bif Nat.beq t 9 then some ti9 else none)else(bif Nat.beq t 23 then some Kn else none)))else(bif Nat.ble t 25 then(bif Nat.ble t 24 then(bif Nat.beq t 24 then some Ko else none)else(bif Nat.beq t 25 then some Kp else none))else(bif Nat.ble t 26 then(bif Nat.beq t 26 then some Kq else none)else(bif Nat.ble t 27 then(bif Nat.beq t 27 then some Kr else none)else(bif Nat.beq t 28 then some Ks else none)))))else(bif Nat.ble t 33 then(bif Nat.ble t 31 then(bif Nat.ble t 29 then(bif Nat.beq t 29 then some Kt else none)else(bif Nat.beq t 31 then some Ku else none))else(bif Nat.ble t 32 then(bif Nat.beq t 32 then some Kv else none)else(bif Nat.beq t 33 then some Kw else none)))else(bif Nat.ble t 38 then(bif Nat.ble t 35 then(bif Nat.beq t 35 then some Kx else none)else(bif Nat.beq t 38 then some ti3 else none))else(bif Nat.ble t 44 then(bif Nat.beq t 44 then some Ky else none)else(bif Nat.ble t 47 then(bif Nat.beq t 47 then some Kz else none)else(bif Nat.beq t 58 then some KA else none))))))else(bif Nat.ble t 111 then(bif Nat.ble t 71 then(bif Nat.ble t 67 then(bif Nat.ble t 62 then(bif Nat.beq t 62 then some KB else none)else(bif Nat.beq t 67 then some KC else none))else(bif Nat.ble t 69 then(bif Nat.beq t 69 then some KD else none)else(bif Nat.beq t 71 then some KE else none)))else(bif Nat.ble t 90 then(bif Nat.ble t 85 then(bif Nat.beq t 85 then some KF else none)else(bif Nat.beq t 90 then some KG else none))else(bif Nat.ble t 97 then(bif Nat.beq t 97 then some KH else none)else(bif Nat.ble t 109 then(bif Nat.beq t 109 then some EG else none)else(bif Nat.beq t 111 then some EH else none)))))else(bif Nat.ble t 125 then(bif Nat.ble t 115 then(bif Nat.ble t 113 then(bif Nat.beq t 113 then some EI else none)else(bif Nat.beq t 115 then some EJ else none))else(bif Nat.ble t 116 then(bif Nat.beq t 116 then some EK else none)else(bif Nat.beq t 125 then some EL else none)))else(bif Nat.ble t 140 then(bif Nat.ble t 135 then(bif Nat.beq t 135 then some ti3 else none)else(bif Nat.beq t 140 then some EM else none))else(bif Nat.ble t 144 then(bif Nat.beq t 144 then some EN else none)else(bif Nat.ble t 170 then(bif Nat.beq t 170 then some EO else none)else(bif Nat.beq t 172 then some EP else none)))))))
theorem NX:cL Tryz.prog 3=some ti3:=by kernel_rfl
theorem NY:cL Tryz.prog 4=some ti4:=by kernel_rfl
theorem NZ:cL Tryz.prog 9=some ti9:=by kernel_rfl
theorem KI:cL Tryz.prog 23=some Kn:=by kernel_rfl
theorem KJ:cL Tryz.prog 24=some Ko:=by kernel_rfl
theorem KK:cL Tryz.prog 25=some Kp:=by kernel_rfl
theorem KL:cL Tryz.prog 26=some Kq:=by kernel_rfl
theorem KM:cL Tryz.prog 27=some Kr:=by kernel_rfl
theorem KN:cL Tryz.prog 28=some Ks:=by kernel_rfl
theorem KO:cL Tryz.prog 29=some Kt:=by kernel_rfl
theorem KP:cL Tryz.prog 31=some Ku:=by kernel_rfl
theorem KQ:cL Tryz.prog 32=some Kv:=by kernel_rfl
theorem KR:cL Tryz.prog 33=some Kw:=by kernel_rfl
theorem KS:cL Tryz.prog 35=some Kx:=by kernel_rfl
theorem KT:cL Tryz.prog 38=some ti3:=by kernel_rfl
theorem KU:cL Tryz.prog 44=some Ky:=by kernel_rfl
theorem KV:cL Tryz.prog 47=some Kz:=by kernel_rfl
theorem KW:cL Tryz.prog 58=some KA:=by kernel_rfl
theorem KX:cL Tryz.prog 62=some KB:=by kernel_rfl
theorem KY:cL Tryz.prog 67=some KC:=by kernel_rfl
theorem KZ:cL Tryz.prog 69=some KD:=by kernel_rfl
theorem K1:cL Tryz.prog 71=some KE:=by kernel_rfl
theorem K2:cL Tryz.prog 85=some KF:=by kernel_rfl
theorem K3:cL Tryz.prog 90=some KG:=by kernel_rfl
theorem K4:cL Tryz.prog 97=some KH:=by kernel_rfl
theorem HR:cL Tryz.prog 109=some EG:=by kernel_rfl
theorem HS:cL Tryz.prog 111=some EH:=by kernel_rfl
theorem HT:cL Tryz.prog 113=some EI:=by kernel_rfl
theorem HU:cL Tryz.prog 115=some EJ:=by kernel_rfl
theorem HV:cL Tryz.prog 116=some EK:=by kernel_rfl
theorem HW:cL Tryz.prog 125=some EL:=by kernel_rfl
theorem HX:cL Tryz.prog 135=some ti3:=by kernel_rfl
theorem HY:cL Tryz.prog 140=some EM:=by kernel_rfl
theorem HZ:cL Tryz.prog 144=some EN:=by kernel_rfl
theorem H0:cL Tryz.prog 170=some EO:=by kernel_rfl
theorem H1:cL Tryz.prog 172=some EP:=by kernel_rfl
theorem am:Tis.ok ts Tryz.prog:=(Tis.ok_node (Tis.ok_node (Tis.ok_node (Tis.ok_node (Tis.ok_node (Tis.ok_leaf NX) (Tis.ok_leaf NY)) (Tis.ok_node (Tis.ok_leaf NZ) (Tis.ok_leaf KI))) (Tis.ok_node (Tis.ok_node (Tis.ok_leaf KJ) (Tis.ok_leaf KK)) (Tis.ok_node (Tis.ok_leaf KL) (Tis.ok_node (Tis.ok_leaf KM) (Tis.ok_leaf KN))))) (Tis.ok_node (Tis.ok_node (Tis.ok_node (Tis.ok_leaf KO) (Tis.ok_leaf KP)) (Tis.ok_node (Tis.ok_leaf KQ) (Tis.ok_leaf KR))) (Tis.ok_node (Tis.ok_node (Tis.ok_leaf KS) (Tis.ok_leaf KT)) (Tis.ok_node (Tis.ok_leaf KU) (Tis.ok_node (Tis.ok_leaf KV) (Tis.ok_leaf KW)))))) (Tis.ok_node (Tis.ok_node (Tis.ok_node (Tis.ok_node (Tis.ok_leaf KX) (Tis.ok_leaf KY)) (Tis.ok_node (Tis.ok_leaf KZ) (Tis.ok_leaf K1))) (Tis.ok_node (Tis.ok_node (Tis.ok_leaf K2) (Tis.ok_leaf K3)) (Tis.ok_node (Tis.ok_leaf K4) (Tis.ok_node (Tis.ok_leaf HR) (Tis.ok_leaf HS))))) (Tis.ok_node (Tis.ok_node (Tis.ok_node (Tis.ok_leaf HT) (Tis.ok_leaf HU)) (Tis.ok_node (Tis.ok_leaf HV) (Tis.ok_leaf HW))) (Tis.ok_node (Tis.ok_node (Tis.ok_leaf HX) (Tis.ok_leaf HY)) (Tis.ok_node (Tis.ok_leaf HZ) (Tis.ok_node (Tis.ok_leaf H0) (Tis.ok_leaf H1)))))))
@[go_sem] theorem ts_3:ts 3=some ti3:=(rfl)
@[go_sem] theorem ts_4:ts 4=some ti4:=(rfl)
@[go_sem] theorem ts_9:ts 9=some ti9:=(rfl)
@[go_sem] theorem ts_23:ts 23=some Kn:=(rfl)
@[go_sem] theorem ts_24:ts 24=some Ko:=(rfl)
@[go_sem] theorem ts_25:ts 25=some Kp:=(rfl)
@[go_sem] theorem ts_26:ts 26=some Kq:=(rfl)
@[go_sem] theorem ts_27:ts 27=some Kr:=(rfl)
@[go_sem] theorem ts_28:ts 28=some Ks:=(rfl)
@[go_sem] theorem ts_29:ts 29=some Kt:=(rfl)
@[go_sem] theorem ts_31:ts 31=some Ku:=(rfl)
@[go_sem] theorem ts_32:ts 32=some Kv:=(rfl)
@[go_sem] theorem ts_33:ts 33=some Kw:=(rfl)
@[go_sem] theorem ts_35:ts 35=some Kx:=(rfl)
@[go_sem] theorem ts_38:ts 38=some ti3:=(rfl)
@[go_sem] theorem ts_44:ts 44=some Ky:=(rfl)
@[go_sem] theorem ts_47:ts 47=some Kz:=(rfl)
@[go_sem] theorem ts_58:ts 58=some KA:=(rfl)
@[go_sem] theorem ts_62:ts 62=some KB:=(rfl)
@[go_sem] theorem ts_67:ts 67=some KC:=(rfl)
@[go_sem] theorem ts_69:ts 69=some KD:=(rfl)
@[go_sem] theorem ts_71:ts 71=some KE:=(rfl)
@[go_sem] theorem ts_85:ts 85=some KF:=(rfl)
@[go_sem] theorem ts_90:ts 90=some KG:=(rfl)
@[go_sem] theorem ts_97:ts 97=some KH:=(rfl)
@[go_sem] theorem UA:ts 109=some EG:=(rfl)
@[go_sem] theorem UB:ts 111=some EH:=(rfl)
@[go_sem] theorem UC:ts 113=some EI:=(rfl)
@[go_sem] theorem UD:ts 115=some EJ:=(rfl)
@[go_sem] theorem UE:ts 116=some EK:=(rfl)
@[go_sem] theorem UF:ts 125=some EL:=(rfl)
@[go_sem] theorem UG:ts 135=some ti3:=(rfl)
@[go_sem] theorem UH:ts 140=some EM:=(rfl)
@[go_sem] theorem UJ:ts 144=some EN:=(rfl)
@[go_sem] theorem UK:ts 170=some EO:=(rfl)
@[go_sem] theorem UL:ts 172=some EP:=(rfl)
attribute [go_sem] ti3 ti4 ti9 Kn Ko Kp Kq Kr Ks Kt Ku Kv Kw Kx Ky Kz KA KB KC KD KE KF KG KH EG EH EI EJ EK EL EM EN EO EP
end Go.Sx
end
section
namespace Go.Sx
open Go.Proofs
theorem mixed:Tryz.prog.follows .mixedOrders=true:=by kernel_rfl
end Go.Sx
end
section
namespace Go.Sx
open Go.Proofs
set_option maxRecDepth 100000
def gL:List SV→Option Con
 | [.v (.iface t (.int .i64 e))] =>bif Nat.beq t 135 then some (.det True (.i e))else none
 |_=>none
theorem ui:FnOk Tryz.prog 57 gL:=by
 have hG:ConsOk Tryz.prog (mkG [] []):=ay (by simp) (by simp)
 refine aU [.o] mixed am hG (fn:=Tryz.f57) (c:=ae Tryz.f57) (by kernel_rfl) (by kernel_rfl) (by kernel_rfl) (by kernel_rfl) fun l con h hp=>?_
 unfold gL at h
 split at h
 ·rename_i t e
  cases ht:Nat.beq t 135 with
  |false=>rw[ht]at h;cases h
  |true=>
   rw[ht]at h
   cases h
   have ht':=Nat.eq_of_beq_eq_true ht
   subst ht'
   refine⟨Nat.le_of_ble_eq_true rfl,L0,by unfold ae Tryz.f57;simp only[al,and_self],?_⟩
   unfold ae Tryz.f57
   simp only[go_sem,true_imp_iff,false_imp_iff,Nat.reduceBEq,Nat.reduceLeDiff,Nat.reduceAdd,Nat.reduceSub,Nat.reduceMul,true_and,and_true,implies_true,reduceCtorEq]
 ·cases h
def N0:Value→Option SV
 | .iface t (.int .i64 e) =>bif Nat.beq t 135 then some (.i e)else none
 |_=>none
theorem H2:Ml Tryz.prog 56 N0:=by
 obtain⟨fn,hfn,hbody,hn,hres⟩:∃ fn,Tryz.prog.funcs[56]? =some fn∧fn.body=some (ae Tryz.f56)∧fn.ntmps=7∧fn.results= #[]:=⟨Tryz.f56,by kernel_rfl,by kernel_rfl,by kernel_rfl,by kernel_rfl⟩
 have hG:ConsOk Tryz.prog (mkG [(57,gL)] []):=ay (by
  intro x hx
  simp only[List.mem_cons,List.not_mem_nil,or_false]at hx
  rcases hx with rfl
  exact ui) (by simp)
 refine⟨fun args w=>by kernel_rfl,fun p w=>?_,?_⟩
 ·refine callsDIn_of_wpSIn hfn hbody trivial fun c₀ cs hu=>?_
  unfold ae Tryz.f56
  refine wpSIn_seq (wpSIn_region ?_)
  simp[wpOpsSIn,go_sem,recoverD,hu,hn,Exit.thenS,Oper.about,Region.wanted]
  refine wpSIn_seq (wpSIn_region ?_)
  simp[wpOpsSIn,go_sem,recoverD,hu,Exit.thenS,Oper.about,Region.wanted]
  refine wpSIn_cond (t:=false) (by simp[Act.eval]) ?_
  simp only[Bool.false_eq_true,if_false]
  refine wpSIn_of_wpIn rfl (wpIn_skip ?_)
  cases c₀
  simp_all [bodyPostS,results]
 ·intro x s hx F own w h id hd b y hfw hp hob ho hpb
  unfold N0 at hx
  split at hx
  ·rename_i t e
   cases ht:Nat.beq t 135 with
   |false=>rw[ht]at hx;cases hx
   |true=>
    rw[ht]at hx
    cases hx
    have ht':=Nat.eq_of_beq_eq_true ht
    subst ht'
    refine callsDIn_of_wpSIn hfn hbody trivial fun c₀ cs hu=>?_
    unfold ae Tryz.f56
    refine wpSIn_seq (wpSIn_region ?_)
    simp[wpOpsSIn,go_sem,recoverD,hu,hn,Exit.thenS,Oper.about,Region.wanted]
    refine wpSIn_seq (wpSIn_region ?_)
    simp[wpOpsSIn,go_sem,recoverD,hu,Exit.thenS,Oper.about,Region.wanted]
    refine wpSIn_cond (t:=true) (by simp[Act.eval]) ?_
    simp only[if_true]
    refine wpSIn_of_wpIn rfl ?_
    have hr:StRel F { w:=w,own:=own} 7 own ⟨[(0,.ptr id 0),(1,.v (.iface 135 (.int .i64 e)))],h⟩ { tmps:= #[.pointer (some ⟨b,0,none⟩),.iface 135 (.int .i64 e),.iface 135 (.int .i64 e),.iface 135 (.int .i64 e),.bool true,undef,undef],defers:=[]} w:=by
     refine⟨rfl,Dfr.nil,hp,Fr.refl { w:=w,own:=own},fun t=>?_⟩
     rw[kS]
     by_cases h0:0=t
     ·subst h0;rw[if_pos rfl];exact .ptr ho hpb
     ·rw[if_neg h0,kS]
      by_cases h1:1=t
      ·subst h1;rw[if_pos rfl];exact .v _
      ·rw[if_neg h1];exact .any _
    refine wpIn_mono (DE (ts:=ts) (L:=L0) (Q:=fun st=>st.h=bF h id (.cells [.i e])) mixed am hG (by kernel_rfl) ?_ hr) ?_
    ·simp only[go_sem,hob,sh (h:=h) (i:=id) (o:=.cells [.v (.int .i64 e)]) rfl hfw,gL,Nat.reduceBEq,Nat.reduceLeDiff,Nat.reduceAdd,true_and,and_true,true_imp_iff]
    ·rintro ex a' w' ⟨rfl,own1,st1,hst1,hh⟩
     have hd0:a'.defers=[]:=by
      obtain⟨ms,Ds,q0,q1,q2,q3⟩:=hst1.defers
      cases Ds with
      |nil=>rw[q0];simp at q1;simp[q1]
      |cons D r=>
       obtain⟨m1,m2,_⟩:=q3 D (by simp)
       have:=hp.foreign D m2
       simp only at m1
       omega
     refine⟨hd0,.panicking [{ v:=.iface 135 (.int .i64 e),recovered:=true}],?_,_,by simp[results,hres];rfl,⟨_,rfl⟩,rfl,own1,hh▸hst1.hp,hst1.fr⟩
     cases c₀
     simp_all
  ·cases hx
attribute [go_sem] gL
end Go.Sx
end
section
namespace Go.Sx
open Go.Proofs
set_option maxRecDepth 100000
set_option linter.unusedSimpArgs false
abbrev SV.u (n:Nat):SV:=.v (.int .u64 (n:Int))
def DG (ps:List (Nat×(List SV→Option Con)))(os:List (Nat×(List SV→List Ob→Option HCon)))(Y:List SV→Res→Option YCon):Cons:=⟨mkP ps,mkO os,Y⟩
@[go_sem] theorem UN {ps:List (Nat×(List SV→Option Con))}{os:List (Nat×(List SV→List Ob→Option HCon))}{Y:List SV→Res→Option YCon}:(DG ps os Y).p=mkP ps:=(rfl)
@[go_sem] theorem UO {ps:List (Nat×(List SV→Option Con))}{os:List (Nat×(List SV→List Ob→Option HCon))}{Y:List SV→Res→Option YCon}:(DG ps os Y).o=mkO os:=(rfl)
@[go_sem] theorem UP {ps:List (Nat×(List SV→Option Con))}{os:List (Nat×(List SV→List Ob→Option HCon))}{Y:List SV→Res→Option YCon}:(DG ps os Y).y=Y:=(rfl)
theorem EQ {P:Program}{ps:List (Nat×(List SV→Option Con))}{os:List (Nat×(List SV→List Ob→Option HCon))}{Y:List SV→Res→Option YCon}(h1:∀ x∈ps,FnOk P x.1 x.2)(h2:∀ x∈os,FnOkO P x.1 x.2)(h3:YOk P Y):ConsOk P (DG ps os Y):=⟨Dy ps h1,Dz os h2,h3⟩
def C90:List SV→List Ob→Option HCon:=fun l h=>noH h ((pU fun n=>pU fun d=>pE { α:=Unit,pre:=True,post:=fun _=>True,res:=fun _=>.ret (.fn 142 [] [.ptr 0 0,.ptr 1 0]) [.cells [.v (.int .u64 n)],.cells [.v (.int .u64 d)]]}) l)
theorem N1:FnOkO Tryz.prog 116 C90:=by
 have hG:ConsOk Tryz.prog (mkG [] []):=ay (by simp) (by simp)
 refine Bz mixed am hG (fn:=Tryz.f116) (c:=ae Tryz.f116) (by kernel_rfl) (by kernel_rfl) (by kernel_rfl) (by kernel_rfl) fun l o con h hp=>?_
 unfold C90 at h
 obtain⟨rfl,h⟩:=Kh h
 obtain⟨n,l0,rfl,h0⟩:=Ab h
 obtain⟨d,l1,rfl,h1⟩:=Ab h0
 obtain⟨rfl,rfl⟩:=DA h1
 refine⟨Nat.le_of_ble_eq_true rfl,L0,by unfold ae Tryz.f116;simp only[al,and_self],?_⟩
 unfold ae Tryz.f116
 simp only[go_sem,true_imp_iff,decide_eq_true_eq,Nat.reduceBEq,Nat.reduceLeDiff,Nat.reduceAdd,Nat.reduceSub,Nat.reduceMul,true_and,and_true,implies_true]
 refine⟨(),_,_,[0,1],rfl,?_⟩
 simp only[go_sem,Nat.reduceBEq,Nat.reduceLeDiff,Nat.reduceAdd,true_and,and_true]
 exact⟨rfl,rfl⟩
def uj:Nat→Nat→Nat→List Nat
 |0,n,d=>if n=0 then []else [n,d]
 |f+1,n,d=>if n=0 then []else n::(if n % max d 1=0 then [d]else uj f d (n % max d 1))
def mB (f n d:Nat):List (List SV):=(uj f n d).map fun x=>[SV.u x]
theorem H3 (f d:Nat):mB f 0 d=[]:=by cases f <;>rfl
theorem H4 {f n d:Nat}(hn:n≠0)(hf:d≤f):∃ T,mB f n d=[SV.u n]::T∧(n % max d 1=0→T=[[SV.u d]])∧(n % max d 1≠0→∃ f',T=mB f' d (n % max d 1)∧n % max d 1≤f'∧n % max d 1<d):=by
 cases f with
 |zero=>
  have hd:d=0:=by omega
  subst hd
  refine⟨[[SV.u 0]],by simp[mB,uj,hn],fun _=>rfl,fun h=>?_⟩
  exfalso;apply h;simp[Nat.mod_one]
 |succ f=>
  by_cases h0:n % max d 1=0
  ·exact⟨[[SV.u d]],by simp[mB,uj,hn,h0],fun _=>rfl,fun h=>absurd h0 h⟩
  ·refine⟨mB f d (n % max d 1),by simp[mB,uj,hn,h0],fun h=>absurd h h0,fun _=>⟨f,rfl,?_⟩⟩
   have hlt:n % max d 1<max d 1:=Nat.mod_lt _ (by omega)
   have hd:1≤d:=by
    rcases Nat.eq_zero_or_pos d with h|h
    ·subst h;exfalso;apply h0;simp[Nat.mod_one]
    ·exact h
   omega
theorem H5 (n d:Nat):((n:Int).tmod (if(d:Int) <1 then 1 else(d:Int)))=((n % max d 1:Nat):Int):=by
 have e:(if(d:Int) <1 then(1:Int)else(d:Int))=((max d 1:Nat):Int):=by split <;>omega
 rw[e,Int.tmod_eq_emod_of_nonneg (by omega)];rfl
open Classical in
theorem N2 (n0 d0:Nat):DB Tryz.prog 142 (fun y=>[y,.ptr 1 0,.ptr 2 0]) [.cells [SV.u n0],.cells [SV.u d0]] (mB d0 n0 d0):=by
 refine Mi (fun r hr hy=>?_) (fun args w=>by kernel_rfl)
 have hG:ConsOk Tryz.prog (DG [] [] (itY (mB d0 n0 d0) r)):=EQ (by simp) (by simp) hy
 refine⟨fun l h=>if l=[.os 0,.ptr 1 0,.ptr 2 0]∧h=[.ab (r 1),.cells [SV.u n0],.cells [SV.u d0]]then some { α:=Nat,pre:=True,post:=fun j=>j=0∨j=(mB d0 n0 d0).length+1,res:=fun j=>.ret (.tup []) [.ab (r j),.dead,.dead]}else none,
  ?_,_,if_pos ⟨rfl,rfl⟩,trivial,fun j hj=>⟨_,j,_,rfl,hj⟩⟩
 refine Bz mixed am hG (fn:=Tryz.f142) (c:=ae Tryz.f142) (by kernel_rfl) (by kernel_rfl) (by kernel_rfl) (by kernel_rfl) fun l o con h hp=>?_
 split at h
 ·rename_i hlo
  obtain⟨rfl,rfl⟩:=hlo
  cases h
  refine⟨Nat.le_of_ble_eq_true rfl,fun id st=>bif Nat.beq id 0 then some { α:=Nat×Bool,pre:=lk 0 st.t=.os 0∧lk 1 st.t=.ptr 1 0∧lk 2 st.t=.ptr 2 0∧st.h=[.ab (r 1),.cells [SV.u n0],.cells [SV.u d0]],post:=fun j=>j.1=0∨j.1=(mB d0 n0 d0).length+1,ex:=fun j=>bif j.2 then .ret else .normal,out:=fun j=>⟨[],[.ab (r j.1),.dead,.dead]⟩:LCon}else none,?_,?_⟩
  ·unfold ae Tryz.f142
   simp only[al,true_and,and_true]
   refine BA mixed am hG (by kernel_rfl) fun st lc hC hp=>?_
   simp only[go_sem,Nat.reduceBEq,Option.some.injEq]at hC
   subst hC
   obtain⟨t,h⟩:=st
   dsimp only at hp
   obtain⟨h0,h1,h2,rfl⟩:=hp
   refine⟨Nat×Nat×Nat×Nat,fun x=>⟨[(0,.os 0),(1,.ptr 1 0),(2,.ptr 2 0)],[.ab (r (x.1+1)),.cells [SV.u x.2.2.1],.cells [SV.u x.2.2.2]]⟩,fun x=>x.2.2.2≤x.2.1∧(mB d0 n0 d0).drop x.1=mB x.2.1 x.2.2.1 x.2.2.2∧x.1≤(mB d0 n0 d0).length,fun x=>x.2.2.2,(0,d0,n0,d0),[0,1,2],⟨Nat.le_refl _,rfl,Nat.zero_le _⟩,Nat.le_refl _,?_,?_⟩
   ·simp only[go_sem,h0,h1,h2,Nat.reduceBEq,Nat.reduceLeDiff,Nat.reduceAdd,true_and,and_true]
    decide
   ·rintro⟨k,f,n,d⟩ ⟨hf,hdrop,hk⟩
    simp only at hf hdrop hk
    refine⟨L0,_,by simp only[al,and_self],fun _ _ q=>q,?_⟩
    simp only[go_sem,HL hr,true_imp_iff,decide_eq_true_eq,H5,Bool.false_eq_true,false_imp_iff,Nat.reduceBEq,Nat.reduceLeDiff,Nat.reduceAdd,Nat.reduceSub,Nat.reduceMul,true_and,and_true,implies_true]
    have hget:∀ (l:List (List SV)) (j:Nat),l=(mB d0 n0 d0).drop k→(mB d0 n0 d0)[k+j]? =l[j]?:=fun l j e=>by rw[e,List.getElem?_drop]
    have hlen:(mB f n d).length=(mB d0 n0 d0).length - k:=by rw[←hdrop,List.length_drop]
    refine⟨fun hn=>?_,fun hn=>?_⟩
    ·have hn':n≠0:=by simpa using hn
     obtain⟨T,e1,e2,e3⟩:=H4 hn' hf
     have hT:(mB d0 n0 d0).drop (k+1)=T:=by rw[←List.drop_drop,hdrop,e1];rfl
     have h0':=hget _ 0 hdrop.symm
     rw[e1]at h0'
     have hk1:k+1≤(mB d0 n0 d0).length:=by
      have:=(List.getElem?_eq_some_iff.1 h0').1;omega
     refine⟨h0',⟨fun _=>⟨by split <;>omega,rfl,fun h2=>?_,fun h2=>?_⟩,fun h2=>?_⟩,?_⟩
     ·have h3:n % max d 1=0:=by
       have:=eq_of_beq h2
       generalize n % max d 1=q at this ⊢
       omega
      have hT2:=e2 h3
      have hl2:(mB d0 n0 d0).length=k+2:=by
       have:=congrArg List.length hT
       rw[hT2,List.length_drop]at this
       simp at this;omega
      refine⟨?_,⟨(k+1+2,true),[0,1,2],.inr (by rw[hl2]),rfl,⟨rfl,rfl,rfl⟩,by simp[xX,zG,wj,unp,ag,cn,oY,pn]⟩,⟨(0,true),[0,1,2],.inl rfl,rfl,⟨rfl,rfl,rfl⟩,by simp[xX,zG,wj,unp,ag,cn,oY,pn]⟩⟩
      have:(mB d0 n0 d0)[k+1]? =T[0]?:=by rw[←hT,List.getElem?_drop]
      rw[this,hT2];rfl
     ·have h3:n % max d 1≠0:=fun e=>by rw[e]at h2;simp at h2
      obtain⟨f',m1,m2,m3⟩:=e3 h3
      exact⟨(k+1,f',d,n % max d 1),[0,1,2],⟨m2,by rw[hT,m1],hk1⟩,m3,⟨rfl,rfl,rfl⟩,by simp[xX,zG,wj,unp,ag,cn,oY,pn,nth,iT,ren]⟩
     ·exact absurd hn (by rw[h2];simp)
     ·exact⟨(0,false),[0,1,2],.inl rfl,rfl,⟨rfl,rfl,rfl⟩,by simp[xX,zG,wj,unp,ag,cn,oY,pn]⟩
    ·have hn':n=0:=by simpa using hn
     subst hn'
     rw[H3]at hlen
     simp at hlen
     exact⟨by simpa using hn,(k+1,false),[0,1,2],.inr (by show k+1=_;omega),rfl,⟨rfl,rfl,rfl⟩,by simp[xX,zG,wj,unp,ag,cn,oY,pn]⟩
  ·unfold ae Tryz.f142
   simp only[go_sem,true_imp_iff,decide_eq_true_eq,Nat.reduceBEq,Nat.reduceLeDiff,Nat.reduceAdd,Nat.reduceSub,Nat.reduceMul,true_and,and_true,implies_true]
   rintro⟨j,b⟩ hj
   cases b
   ·simp only[go_sem]
    exact⟨j,_,_,[0,1,2],hj,rfl,Nat.le_refl 3,by simp only[go_sem,Nat.reduceBEq,Nat.reduceLeDiff,Nat.reduceAdd,true_and,and_true];decide⟩
   ·simp only[go_sem]
    exact⟨j,_,_,[0,1,2],hj,rfl,Nat.le_refl 3,by simp only[go_sem,Nat.reduceBEq,Nat.reduceLeDiff,Nat.reduceAdd,true_and,and_true];decide⟩
 ·cases h
end Go.Sx
end
section
namespace Go.Sx
open Go.Proofs
set_option maxRecDepth 100000
set_option linter.unusedSimpArgs false
def rb (n d:Nat):Nat:=if d=0 then n else(uj d n d).getLastD d
def C83:List SV→Option Con:=pU fun n=>pU fun d=>pE (.det (0≤n∧0≤d) (SV.u (rb n.toNat d.toNat)))
theorem H6:FnOk Tryz.prog 88 C83:=by
 have hG:ConsOk Tryz.prog (mkG [] [(116,C90)]):=ay (by simp) (by
  intro x hx
  simp only[List.mem_cons,List.not_mem_nil,or_false]at hx
  rcases hx with rfl
  exact N1)
 refine HA false mixed am hG (fn:=Tryz.f88) (c:=ae Tryz.f88) (by kernel_rfl) (by kernel_rfl) (by kernel_rfl) (by kernel_rfl) fun l con h hp=>?_
 unfold C83 at h
 obtain⟨n',l0,rfl,h0⟩:=Ab h
 obtain⟨d',l1,rfl,h1⟩:=Ab h0
 obtain⟨rfl,rfl⟩:=DA h1
 clear h h0 h1
 obtain⟨hn,hd⟩:=hp
 obtain⟨n,rfl⟩:=Int.eq_ofNat_of_zero_le hn
 obtain⟨d,rfl⟩:=Int.eq_ofNat_of_zero_le hd
 refine⟨Nat.le_of_ble_eq_true rfl,fun id st=>bif Nat.beq id 0 then some { α:=Unit,pre:=st.h=[.cells [SV.u d],.cells [SV.u n],.cells [SV.u d]]∧lk 12 st.t=.fn 142 [] [.ptr 1 0,.ptr 2 0]∧lk 4 st.t=.ptr 0 0,post:=fun _=>True,ex:=fun _=>.normal,out:=fun _=>⟨[(4,.ptr 0 0)],[.cells [SV.u ((uj d n d).getLastD d)],.dead,.dead]⟩:LCon}else none,?_,?_⟩
 ·unfold ae Tryz.f88
  simp only[al,true_and,and_true]
  refine BF mixed am hG (by decide) (by decide) (by kernel_rfl) (by kernel_rfl) fun st lc hC hp=>?_
  simp only[go_sem,Nat.reduceBEq,Option.some.injEq]at hC
  subst hC
  obtain⟨t,h⟩:=st
  dsimp only at hp
  obtain⟨rfl,h12,h4⟩:=hp
  refine⟨142,[.ptr 1 0,.ptr 2 0],mB d n d,Nat,[(4,.ptr 0 0)],fun v=>[.cells [SV.u v],.dead,.dead],fun k v=>v=((uj d n d).take k).getLastD d,fun _ _=>False,d,[0,1,2],h12,rfl,Nat.le_refl _,?_,N2 n d,?_,?_,fun _ h=>h.elim,fun _ _ h=>h.elim⟩
  ·show Sub [0,1,2] 3 ⟨t,[.cells [SV.u d],.dead,.dead]⟩ ⟨[(4,.ptr 0 0)],[.cells [SV.u d],.dead,.dead]⟩
   simp only[go_sem,h4,Nat.reduceBEq,Nat.reduceLeDiff,Nat.reduceAdd,true_and,and_true]
   decide
  ·intro k y args hk hI
   unfold mB at hk
   rw[List.getElem?_map,Option.map_eq_some_iff]at hk
   obtain⟨x,hx,rfl⟩:=hk
   refine⟨rfl,L0,_,fun l=>by simp only[al],fun l=>by simp only[al],fun _ _ q=>q,?_⟩
   show exec ts _ L0 _ ⟨[(13,SV.u x),(4,SV.ptr 0 0)],[.cells [SV.u y],.dead,.dead]⟩ _
   simp only[go_sem,true_imp_iff,Nat.reduceBEq,Nat.reduceLeDiff,Nat.reduceAdd,true_and,and_true]
   refine⟨x,[0,1,2],?_,Nat.le_refl 3,?_⟩
   ·have hlt:=(List.getElem?_eq_some_iff.1 hx).1
    have hx2:=(List.getElem?_eq_some_iff.1 hx).2
    show x=((uj d n d).take (k+1)).getLastD d
    rw[List.take_succ_eq_append_getElem hlt,hx2]
    simp[List.getLastD_concat]
   ·simp only[go_sem,Nat.reduceBEq,Nat.reduceLeDiff,Nat.reduceAdd,true_and,and_true]
    decide
  ·intro y hI
   refine⟨(),[0,1,2],trivial,rfl,Nat.le_refl _,?_⟩
   have hy:y=(uj d n d).getLastD d:=by rw[hI,List.take_of_length_le (by simp[mB])]
   subst hy
   show Sub [0,1,2] 3 ⟨[(4,.ptr 0 0)],[.cells [SV.u _],.dead,.dead]⟩ ⟨[(4,.ptr 0 0)],[.cells [SV.u _],.dead,.dead]⟩
   simp only[go_sem,Nat.reduceBEq,Nat.reduceLeDiff,Nat.reduceAdd,true_and,and_true]
   decide
 ·unfold ae Tryz.f88
  simp only[go_sem,C90,true_imp_iff,decide_eq_true_eq,Bool.false_eq_true,false_imp_iff,Nat.reduceBEq,Nat.reduceLeDiff,Nat.reduceAdd,Nat.reduceSub,Nat.reduceMul,true_and,and_true,implies_true]
  refine⟨fun h=>?_,fun h _ _=>?_⟩
  ·have h':d=0:=by simpa using h
   simp[rb,h']
  ·have h':d≠0:=by simpa using h
   simp[rb,h']
attribute [go_sem] C83
end Go.Sx
end
section
namespace Go.Sx
open Go.RowKit
inductive NilS:St→St→Prop where
 |refl (st:St):NilS st st
 |cell {st:St} {t:List (Nat×SV)} {h:List Ob} {i j:Nat} {l:List SV} (o:Ob):NilS st ⟨t,h⟩→ag h i=.cells l→l[j]? =some (.v (.slice none 0 0))→((∃ k,o=.row k [])∨∃ k,o=.grid k [])→NilS st ⟨t,bF h i (.cells (l.set j (.os h.length)))++[o]⟩
 |slot {st:St} {t:List (Nat×SV)} {h:List Ob} {i:Nat} (o:Ob):NilS st ⟨t,h⟩→lk i t=.v (.slice none 0 0)→((∃ k,o=.row k [])∨∃ k,o=.grid k [])→NilS st ⟨(i,.os h.length)::t,h++[o]⟩
 |slotE {st:St} {t:List (Nat×SV)} {h:List Ob} {i:Nat} (k:Tag):NilS st ⟨t,h⟩→lk i t=.e0→NilS st ⟨(i,.os h.length)::t,h++[.row k []]⟩
section
variable {P:Program}{F:Nat→Prop}{w0:Bs}{N:Nat}
theorem y3 (h:List Ob)(o:Ob):ag (h++[o]) h.length=o:=by rw[lU,if_neg (by omega)];simp[ag]
theorem ER {own:Own}{h:List Ob}{a:Act}{w:World}{t:List (Nat×SV)}(hr:StRel F w0 N own ⟨t,h⟩ a w)(o:Ob)(ho:(∃ k,o=.row k [])∨∃ k,o=.grid k []):
  ∃ own',StRel F w0 N own' ⟨t,h++[o]⟩ a w∧(∀ id hd,own id=some hd→own' id=some hd)∧own' h.length=some { v:=.slice none 0 0}:=by
 let own':Own:=fun id=>if id=h.length then some { v:=.slice none 0 0}else own id
 have hsub:∀ id hd,own id=some hd→own' id=some hd:=fun id hd e=>by
  have:id≠h.length:=by have:=hr.hp.dom id hd e;simp only at this;omega
  simp only[own',if_neg this];exact e
 have hinv:∀ id hd b,own' id=some hd→b∈hd.bs→own id=some hd:=fun id hd b e hb=>by
  by_cases hi:id=h.length
  ·simp only[own',if_pos hi,Option.some.injEq]at e;subst e;cases hb
  ·simpa only[own',if_neg hi]using e
 have hc:Carries F own w F own' w:=⟨fun id hd e=>⟨hd,hsub id hd e,.refl _⟩,fun b _ hn=>⟨by
  rintro (hf| ⟨id,hd,e,hb⟩)
  ·exact hn (.inl hf)
  ·exact hn (.inr ⟨id,hd,hinv id hd b e hb,hb⟩),rfl⟩⟩
 refine⟨own',⟨hr.size,hr.defers,⟨fun id hd e=>?_,hr.hp.foreign,fun id hd b e hb=>hr.hp.apart id hd b (hinv id hd b e hb) hb,fun i j hi hj b e1 e2 b1 b2=>hr.hp.inj i j hi hj b (hinv i hi b e1 b1) (hinv j hj b e2 b2) b1 b2,fun id hd b e hb=>hr.hp.lt id hd b (hinv id hd b e hb) hb,fun id hd=>?_⟩,
  ⟨fun id hd e=>?_,fun id hd b e hb=>hr.fr.base id hd b (hinv id hd b e hb) hb,hr.fr.os,hr.fr.tape,hr.fr.output,hr.fr.size,hr.fr.block⟩,fun t=>(hr.slots t).carry hc⟩,hsub,by simp[own']⟩
 ·simp only[List.length_append,List.length_cons,List.length_nil]
  by_cases hi:id=h.length
  ·omega
  ·simp only[own',if_neg hi]at e;have:=hr.hp.dom id hd e;simp only at this;omega
 ·simp only at hd ⊢
  by_cases hi:id<h.length
  ·rw[lU,if_pos hi]at hd ⊢
   obtain⟨hd',e1,e2⟩:=hr.hp.obs id hd
   exact⟨hd',hsub id hd' e1,e2.carry hc (Nat.le_refl _) fun _ _=>rfl⟩
  ·by_cases hi2:id=h.length
   ·subst hi2
    rw[y3]
    refine⟨_,by simp[own'];rfl,?_⟩
    rcases ho with⟨k,rfl⟩ | ⟨k,rfl⟩
    ·exact .inl ⟨none,rfl,rfl,rfl⟩
    ·exact .inl ⟨rfl,rfl,rfl,rfl⟩
   ·rw[j_ (by simp;omega)]at hd;cases hd
 ·obtain⟨hd',e1,e2⟩:=hr.fr.ids id hd e
  exact⟨hd',hsub id hd' e1,e2⟩
theorem H7 {own:Own}{h:List Ob}{a:Act}{w:World}{t:List (Nat×SV)}(hr:StRel F w0 N own ⟨t,h⟩ a w)(k:Tag)(ad:Option Addr):
  ∃ own',StRel F w0 N own' ⟨t,h++[.row k []]⟩ a w∧(∀ id hd,own id=some hd→own' id=some hd)∧own' h.length=some { v:=.slice ad 0 0}:=by
 let own':Own:=fun id=>if id=h.length then some { v:=.slice ad 0 0}else own id
 have hsub:∀ id hd,own id=some hd→own' id=some hd:=fun id hd e=>by
  have:id≠h.length:=by have:=hr.hp.dom id hd e;simp only at this;omega
  simp only[own',if_neg this];exact e
 have hinv:∀ id hd b,own' id=some hd→b∈hd.bs→own id=some hd:=fun id hd b e hb=>by
  by_cases hi:id=h.length
  ·simp only[own',if_pos hi,Option.some.injEq]at e;subst e;cases hb
  ·simpa only[own',if_neg hi]using e
 have hc:Carries F own w F own' w:=⟨fun id hd e=>⟨hd,hsub id hd e,.refl _⟩,fun b _ hn=>⟨by
  rintro (hf| ⟨id,hd,e,hb⟩)
  ·exact hn (.inl hf)
  ·exact hn (.inr ⟨id,hd,hinv id hd b e hb,hb⟩),rfl⟩⟩
 refine⟨own',⟨hr.size,hr.defers,⟨fun id hd e=>?_,hr.hp.foreign,fun id hd b e hb=>hr.hp.apart id hd b (hinv id hd b e hb) hb,fun i j hi hj b e1 e2 b1 b2=>hr.hp.inj i j hi hj b (hinv i hi b e1 b1) (hinv j hj b e2 b2) b1 b2,fun id hd b e hb=>hr.hp.lt id hd b (hinv id hd b e hb) hb,fun id hd=>?_⟩,
  ⟨fun id hd e=>?_,fun id hd b e hb=>hr.fr.base id hd b (hinv id hd b e hb) hb,hr.fr.os,hr.fr.tape,hr.fr.output,hr.fr.size,hr.fr.block⟩,fun t=>(hr.slots t).carry hc⟩,hsub,by simp[own']⟩
 ·simp only[List.length_append,List.length_cons,List.length_nil]
  by_cases hi:id=h.length
  ·omega
  ·simp only[own',if_neg hi]at e;have:=hr.hp.dom id hd e;simp only at this;omega
 ·simp only at hd ⊢
  by_cases hi:id<h.length
  ·rw[lU,if_pos hi]at hd ⊢
   obtain⟨hd',e1,e2⟩:=hr.hp.obs id hd
   exact⟨hd',hsub id hd' e1,e2.carry hc (Nat.le_refl _) fun _ _=>rfl⟩
  ·by_cases hi2:id=h.length
   ·subst hi2
    rw[y3]
    refine⟨_,by simp[own'];rfl,?_⟩
    exact .inl ⟨ad,rfl,rfl,rfl⟩
   ·rw[j_ (by simp;omega)]at hd;cases hd
 ·obtain⟨hd',e1,e2⟩:=hr.fr.ids id hd e
  exact⟨hd',hsub id hd' e1,e2⟩
theorem NilS.rel {st st':St}(hn:NilS st st'){own:Own}{a:Act}{w:World}(hr:StRel F w0 N own st a w):∃ own',StRel F w0 N own' st' a w:=by
 induction hn with
 |refl=>exact⟨own,hr⟩
 | @slot t h i o _ hl ho ih=>
  obtain⟨own1,h1⟩:=ih
  obtain⟨own2,h2,h3,h4⟩:=ER h1 o ho
  refine⟨own2,h2.size,h2.defers,h2.hp,h2.fr,fun u=>?_⟩
  rw[kS]
  split
  ·rename_i e
   subst e
   have:=h1.slots i
   rw[hl]at this
   rw[b9 this]
   exact .os (hd:= { v:=.slice none 0 0}) h4 rfl
  ·exact h2.slots u
 | @slotE t h i k _ hl ih=>
  obtain⟨own1,h1⟩:=ih
  have hs:=h1.slots i
  rw[hl]at hs
  generalize hv:a.tmps.getD i undef=v at hs
  cases hs with
  | @e0 ad=>
   obtain⟨own2,h2,h3,h4⟩:=H7 h1 k ad
   refine⟨own2,h2.size,h2.defers,h2.hp,h2.fr,fun u=>?_⟩
   rw[kS]
   split
   ·rename_i e
    subst e
    rw[hv]
    exact .os (hd:= { v:=.slice ad 0 0}) h4 rfl
   ·exact h2.slots u
 | @cell t h i j l o _ hc hl ho ih=>
  obtain⟨own1,h1⟩:=ih
  obtain⟨own2,h2,h3,h4⟩:=ER h1 o ho
  have hlt:i<h.length:=by
   rcases Nat.lt_or_ge i h.length with h'|h'
   ·exact h'
   ·rw[j_ h']at hc;cases hc
  have hlen:(bF h i (.cells (l.set j (.os h.length)))).length=h.length:=by rw[bT,if_pos hlt]
  refine⟨own2,h2.size,h2.defers,⟨fun id hd e=>?_,h2.hp.foreign,h2.hp.apart,h2.hp.inj,h2.hp.lt,fun id hd=>?_⟩,h2.fr,h2.slots⟩
  ·have:=h2.hp.dom id hd e;simp only[List.length_append]at this ⊢;rw[hlen];exact this
  ·simp only at hd ⊢
   have hob:=h2.hp.obs id
   simp only at hob
   by_cases hi:id<h.length
   ·rw[lU,if_pos (by rw[hlen];exact hi)]at hd ⊢
    rw[lU,if_pos hi]at hob
    rw[cA]at hd ⊢
    by_cases hii:i=id
    ·subst hii
     rw[if_pos rfl]at hd ⊢
     rw[hc]at hob
     obtain⟨hd',e1,b,cs,ty,m1,m2,m3,m4,m5⟩:=hob rfl
     refine⟨hd',e1,b,cs,ty,m1,m2,m3,by simpa using m4,fun j' s hs=>?_⟩
     rw[List.getElem?_set]at hs
     by_cases hj:j=j'
     ·subst hj
      rw[if_pos rfl]at hs
      split at hs
      ·cases hs
       have:=m5 j _ hl
       rw[b9 this]
       exact .os (hd:= { v:=.slice none 0 0}) h4 rfl
      ·cases hs
     ·rw[if_neg hj]at hs
      exact m5 j' s hs
    ·rw[if_neg hii]at hd ⊢
     exact hob hd
   ·rw[lU,if_neg (by rw[hlen];exact hi),hlen]at hd ⊢
    rw[lU,if_neg hi]at hob
    exact hob hd
end
section
variable {P:Program}{F:Nat→Prop}{w0:Bs}{ro:Option Nat}{nd:Nat}{ts:Tis}{G:Cons}{L:pm}{N:Nat}
theorem s7 {ts:Tis}{G:Cons}{ro:Option Nat}{N:Nat}(hm:P.follows .mixedOrders=true)(hts:ts.ok P)(hG:ConsOk P G){id:Nat}{c:Code}(hc:ct N c=true){C:St→Option LCon}
  (h:∀ st lc,C st=some lc→lc.pre→∃ (σ:Type) (D:σ→St) (I:σ→Prop) (m:σ→Nat) (x0:σ) (stN:St) (js:List Nat),I x0∧NilS st stN∧st.h.length≤(D x0).h.length∧Sub js st.h.length stN (D x0)∧
   ∀ x,I x→∃ L Qx,al P ro N L c∧(∀ e st',Qx e st'→o4 D I m st.h.length x id (fun e st'=>∃ r js,lc.post r∧lc.ex r=e∧st.h.length≤(lc.out r).h.length∧Sub js st.h.length st' (lc.out r)) e st')∧exec ts G L c (D x) Qx):iX P ro N id (.loop c) C:=by
 intro nd F w0 st lc hC hpre own a w hr
 obtain⟨σ,D,I,m,x0,stN,js,h1,hN,h2,h3,h4⟩:=h st lc hC hpre
 obtain⟨ownN,hrN⟩:=hN.rel hr
 refine wpIn_mono (yU hm hts hG hc D I m st.h.length hr.base_lt _ h4 x0 h1 _ a w (hrN.sub h3 hr.base_lt h2)) ?_
 intro e a' w' hq
 have key:∀ ex F1 own' st',StRel F1 w0 N own' st' a' w'→(∃ r js,lc.post r∧lc.ex r=ex∧st.h.length≤(lc.out r).h.length∧Sub js st.h.length st' (lc.out r))→∃ own2 st2,StRel F1 w0 N own2 st2 a' w'∧∃ r,lc.post r∧ex=lc.ex r∧st2=lc.out r:=by
  rintro ex F1 own' st' hst ⟨r,js,q1,q2,q3,q4⟩
  exact⟨_,_,hst.sub q4 hr.base_lt q3,r,q1,q2.symm,rfl⟩
 cases e with
 |normal=>obtain⟨F1,own',st',h0,k1,k2⟩:=hq;obtain⟨own2,st2,q1,q2⟩:=key _ F1 own' st' k1 k2;exact⟨F1,own2,st2,h0,q1,q2⟩
 |exit j=>obtain⟨F1,own',st',h0,k1,k2⟩:=hq;obtain⟨own2,st2,q1,q2⟩:=key _ F1 own' st' k1 k2;exact⟨F1,own2,st2,h0,q1,q2⟩
 |ret=>obtain⟨F1,own',st',h0,k1,k2⟩:=hq;obtain⟨own2,st2,q1,q2⟩:=key _ F1 own' st' k1 k2;exact⟨F1,own2,st2,h0,q1,q2⟩
 |panic ch=>
  obtain⟨x,F1,own',st',h0,k1,k2,k3⟩:=hq
  obtain⟨own2,st2,q1,q2⟩:=key _ F1 own' st' k1 k2
  exact⟨x,F1,own2,st2,h0,q1,q2,k3⟩
 |_=>exact hq.elim
end
section
variable {P:Program}{ρ σ:Type}
def fQ (st2:St)(n0:Nat)(st:St):Prop:= ∃ js,n0≤st2.h.length∧Sub js n0 st st2
theorem Af {st2 st:St}{n0:Nat}(js:List Nat)(h1:n0≤st2.h.length)(h2:Sub js n0 st st2):fQ st2 n0 st:=⟨js,h1,h2⟩
def oD (D:Nat→σ→St)(n0 k:Nat)(st:St):ρ⊕σ→Prop
 | .inl _=>False
 | .inr s'=>fQ (D (k+1) s') n0 st
def kg (exE:ρ→Ex)(outE:ρ→St)(n0:Nat)(e:Ex)(st:St):ρ⊕σ→Prop
 | .inl x=>exE x=e∧fQ (outE x) n0 st
 | .inr _=>False
def cE (step:Nat→σ→ρ⊕σ)(n:Nat)(exE:ρ→Ex)(outE:ρ→St)(outN:σ→St)(D:Nat→σ→St)(n0 id k:Nat)(s:σ):Ex→St→Prop
 | .normal,st=>k<n∧oD D n0 k st (step k s)
 | .exit j,st=>bif Nat.beq j id then(n≤k→fQ (outN s) n0 st)∧(k<n→kg exE outE n0 .normal st (step k s))else k<n∧kg exE outE n0 (.exit j) st (step k s)
 | .ret,st=>k<n∧kg exE outE n0 .ret st (step k s)
 | .pan x,st=>k<n∧kg exE outE n0 (.pan x) st (step k s)
variable {step:Nat→σ→ρ⊕σ}{n n0 id k j:Nat}{exE:ρ→Ex}{outE:ρ→St}{outN:σ→St}{D:Nat→σ→St}{s s':σ}{st:St}{x:Value}{e:Ex}{y:ρ}
@[go_sem] theorem Qm:oD (ρ:=ρ) D n0 k st (.inr s')=fQ (D (k+1) s') n0 st:=(rfl)
@[go_sem] theorem R8:kg (σ:=σ) exE outE n0 e st (.inl y)=(exE y=e∧fQ (outE y) n0 st):=(rfl)
@[go_sem] theorem Qn:cE step n exE outE outN D n0 id k s .normal st=(k<n∧oD D n0 k st (step k s)):=(rfl)
@[go_sem] theorem TV:cE step n exE outE outN D n0 id k s (.exit j) st=bif Nat.beq j id then(n≤k→fQ (outN s) n0 st)∧(k<n→kg exE outE n0 .normal st (step k s))else k<n∧kg exE outE n0 (.exit j) st (step k s):=(rfl)
@[go_sem] theorem UQ:cE step n exE outE outN D n0 id k s .ret st=(k<n∧kg exE outE n0 .ret st (step k s)):=(rfl)
@[go_sem] theorem UR:cE step n exE outE outN D n0 id k s (.pan x) st=(k<n∧kg exE outE n0 (.pan x) st (step k s)):=(rfl)
@[congr] theorem Mn {r r':ρ⊕σ}(h:r=r'):oD D n0 k st r=oD D n0 k st r':=by rw[h]
end
def eM (p:Prop)(S:SV)(H:List Ob):HCon:= { α:=Unit,pre:=p,post:=fun _=>True,res:=fun _=>.ret S H}
def DH (n0:Nat)(S:SV)(H:List Ob)(h:List Ob):Option SV→Prop
 |some s=>fQ ⟨[(0,S)],H⟩ n0 ⟨[(0,s)],h⟩
 |none=>False
def H8 (n0:Nat)(rs:List ResultVar)(ts:Tis)(S:SV)(H:List Ob):Ex→St→Prop
 | .exit _,_=>False
 | .normal,st=>DH n0 S H st.h (kK (jG ts st rs))
 | .ret,st=>DH n0 S H st.h (kK (jG ts st rs))
 | .pan _,_=>False
section
variable {P:Program}{ts:Tis}{G:Cons}{n0:Nat}{S s:SV}{H h:List Ob}{rs:List ResultVar}{st:St}{x:Value}{j:Nat}
@[go_sem] theorem Qo:DH n0 S H h (some s)=fQ ⟨[(0,S)],H⟩ n0 ⟨[(0,s)],h⟩:=(rfl)
@[go_sem] theorem K5:H8 n0 rs ts S H .normal st=DH n0 S H st.h (kK (jG ts st rs)):=(rfl)
@[go_sem] theorem Qp:H8 n0 rs ts S H .ret st=DH n0 S H st.h (kK (jG ts st rs)):=(rfl)
@[go_sem high] theorem N3 {p:Prop}{ids:List Nat}{d:Option Nat}{K:St→Prop}{Z:Value→St→Prop}:sH ids d st K Z (some (eM p S H))=(p∧CP ids d st K Z (.ret S H)):=by
 show(p∧∀ r:Unit,True→CP ids d st K Z (.ret S H))=_
 simp
@[go_sem] theorem R9 {nx:Nat}:gm G h nx .bad=none:=(rfl)
def hCR (t:Tag)(k:List t.T→Option HCon):List Ob→Option HCon
 | [.cells [.os 1],.row k' l] =>if h:k'=t then k (h▸l)else none
 |_=>none
open Classical in
noncomputable def pQ {α:Type 1}(X:SV)(k:List SV→Option α):List SV→Option α
 |s::r=>if s=X then k r else none
 | [] =>none
@[go_sem] theorem pQ_mk {α:Type 1}{X:SV}{k:List SV→Option α}{r:List SV}:pQ X k (X::r)=k r:=by simp[pQ]
theorem N4 {α:Type 1}{X:SV}{k:List SV→Option α}{l:List SV}{c:α}(h:pQ X k l=some c):∃ r,l=X::r∧k r=some c:=by
 unfold pQ at h;split at h
 ·split at h
  ·rename_i e;subst e;exact⟨_,rfl,h⟩
  ·cases h
 ·cases h
def pXR {α:Type 1}(t:Tag)(k:List t.T→List SV→Option α):List SV→Option α
 | .ep [.rs k' l] 0::r=>yX t k r k' l
 |_=>none
@[go_sem] theorem US {α:Type 1}{t:Tag}{k:List t.T→List SV→Option α}{l:List t.T}{r:List SV}:pXR t k (.ep [.rs t l] 0::r)=k l r:=by simp[pXR,yX]
theorem K6 {α:Type 1}{t:Tag}{k:List t.T→List SV→Option α}{l:List SV}{c:α}(h:pXR t k l=some c):∃ x r,l=.ep [.rs t x] 0::r∧k x r=some c:=by
 unfold pXR at h;split at h
 ·rename_i k' l' r
  unfold yX at h
  split at h
  ·rename_i e;subst e;exact⟨_,_,rfl,h⟩
  ·cases h
 ·cases h
theorem fR (hm:P.follows .mixedOrders=true) (hts:ts.ok P) (hG:ConsOk P G) {f:FuncId} {fn:Func} {c:Code} (hf:P.funcs[f]? =some fn) (hb:fn.body=some c) (hname:(fn.name== "runtime.NumGoroutine")=false)
  (hc:ct fn.ntmps c=true) {C:List SV→List Ob→Option HCon}
  (h:∀ l o con,C l o=some con→∃ p S H,con=eM p S H∧(p→l.length≤fn.ntmps∧∃ L,al P none fn.ntmps L c∧exec ts G L c ⟨j8 0 l,o⟩ (H8 o.length fn.results.toList ts S H))):FnOkO P f C:=by
 refine wT hm hts hG hf hb hname hc fun l o con hC hp=>?_
 obtain⟨p,S,H,rfl,h2⟩:=h l o con hC
 obtain⟨h3,L,h4,h5⟩:=h2 hp
 refine⟨h3,L,_,h4,fun e st hq=>?_,h5⟩
 cases e with
 |normal=>
  change DH _ _ _ _ _ at hq
  show sJ _ _ _ _
  cases hs:kK (jG ts st fn.results.toList)with
  |none=>rw[hs]at hq;exact hq.elim
  |some s=>rw[hs]at hq;obtain⟨js,q1,q2⟩:=hq;exact⟨(),S,H,js,trivial,rfl,q1,q2⟩
 |ret=>
  change DH _ _ _ _ _ at hq
  show sJ _ _ _ _
  cases hs:kK (jG ts st fn.results.toList)with
  |none=>rw[hs]at hq;exact hq.elim
  |some s=>rw[hs]at hq;obtain⟨js,q1,q2⟩:=hq;exact⟨(),S,H,js,trivial,rfl,q1,q2⟩
 |exit j=>exact hq.elim
 |pan x=>exact hq.elim
end
end Go.Sx
end
section
namespace Go.Sx
attribute [go_sem] true_imp_iff false_imp_iff Bool.false_eq_true Int.toNat_natCast Int.toNat_zero true_and and_true and_self implies_true forall_const
theorem cl {p:Prop}(h:p:=by(first|done|(repeat' (first|with_reducible refine And.intro ?_ ?_|((with_reducible show _≠_);first|assumption|omega|(simp_all [aX,bu];done) |grind) |with_reducible intro _)) <;>(first|done|with_reducible exact Empty.elim ‹Empty› |with_reducible assumption|rfl|omega|assumption|(simp only[*,cond_true,cond_false,Bool.not_true,Bool.not_false,go_sem,Nat.reduceBEq,Nat.reduceLeDiff,Nat.reduceAdd,Nat.reduceSub,Nat.reduceMul,Int.reduceLE,Int.reduceLT,Int.reduceToNat,Int.reduceNeg,reduceCtorEq];done) |(simp only[*,cond_true,cond_false,Bool.not_true,Bool.not_false,go_sem,Nat.reduceBEq,Nat.reduceLeDiff,Nat.reduceAdd,Nat.reduceSub,Nat.reduceMul,Int.reduceLE,Int.reduceLT,Int.reduceToNat,Int.reduceNeg,reduceCtorEq];(repeat' (first|with_reducible refine And.intro ?_ ?_|((with_reducible show _≠_);first|assumption|omega|(simp_all [aX,bu];done) |grind) |with_reducible intro _)) <;>(first|done|assumption|rfl|omega|(simp_all [aX,bu];done))) |(simp_all [okI,aX,bu];done) |grind))):p:=h
theorem cl2 {p:Prop}(h:p:=by(first|done|(repeat' (first|with_reducible refine And.intro ?_ ?_|((with_reducible show _≠_);first|assumption|omega|(simp_all [aX,bu];done) |grind) |with_reducible intro _)) <;>(first|done|with_reducible exact Empty.elim ‹Empty› |with_reducible assumption|rfl|omega|assumption|(simp only[*,go_sem,Nat.reduceBEq,Nat.reduceLeDiff,Nat.reduceAdd,Nat.reduceSub,Nat.reduceMul,Int.reduceLE,Int.reduceLT,Int.reduceToNat,Int.reduceNeg,reduceCtorEq];done) |(simp_all [aX,bu];done)))):p:=h
theorem fk {st2 st:St}{n0:Nat}(js:List Nat)(h1:n0≤st2.h.length:=by(first|(show _≤_;decide) |(simp only[*,go_sem,Nat.reduceBEq,Nat.reduceLeDiff,Nat.reduceAdd,Nat.reduceSub,Nat.reduceMul,Int.reduceLE,Int.reduceLT,Int.reduceToNat,Int.reduceNeg,reduceCtorEq];done) |(simp only[*,go_sem,Nat.reduceBEq,Nat.reduceLeDiff,Nat.reduceAdd,Nat.reduceSub,Nat.reduceMul,Int.reduceLE,Int.reduceLT,Int.reduceToNat,Int.reduceNeg,reduceCtorEq];(repeat' (first|with_reducible refine And.intro ?_ ?_|((with_reducible show _≠_);first|assumption|omega|(simp_all [aX,bu];done) |grind) |with_reducible intro _)) <;>(first|rfl|decide|assumption|omega|(simp_all [aX,bu];done)))))(h2:Sub js n0 st st2:=by(first|(show _≤_;decide) |(simp only[*,go_sem,Nat.reduceBEq,Nat.reduceLeDiff,Nat.reduceAdd,Nat.reduceSub,Nat.reduceMul,Int.reduceLE,Int.reduceLT,Int.reduceToNat,Int.reduceNeg,reduceCtorEq];done) |(simp only[*,go_sem,Nat.reduceBEq,Nat.reduceLeDiff,Nat.reduceAdd,Nat.reduceSub,Nat.reduceMul,Int.reduceLE,Int.reduceLT,Int.reduceToNat,Int.reduceNeg,reduceCtorEq];(repeat' (first|with_reducible refine And.intro ?_ ?_|((with_reducible show _≠_);first|assumption|omega|(simp_all [aX,bu];done) |grind) |with_reducible intro _)) <;>(first|rfl|decide|assumption|omega|(simp_all [aX,bu];done))))):fQ st2 n0 st:=Af js h1 h2
theorem fk2 {st2 st:St}{n0:Nat}(js:List Nat)(h1:n0≤st2.h.length:=by(first|(show _≤_;decide) |(simp only[go_sem,Nat.reduceBEq,Nat.reduceLeDiff,Nat.reduceAdd,Nat.reduceSub,Nat.reduceMul,Int.reduceLE,Int.reduceLT,Int.reduceToNat,Int.reduceNeg,reduceCtorEq];(repeat' (first|with_reducible refine And.intro ?_ ?_|((with_reducible show _≠_);first|assumption|omega|(simp_all [aX,bu];done) |grind) |with_reducible intro _)) <;>(first|rfl|decide|assumption|omega|(simp_all [aX,bu];done)))))(h2:Sub js n0 st st2:=by(first|(show _≤_;decide) |(simp only[go_sem,Nat.reduceBEq,Nat.reduceLeDiff,Nat.reduceAdd,Nat.reduceSub,Nat.reduceMul,Int.reduceLE,Int.reduceLT,Int.reduceToNat,Int.reduceNeg,reduceCtorEq];(repeat' (first|with_reducible refine And.intro ?_ ?_|((with_reducible show _≠_);first|assumption|omega|(simp_all [aX,bu];done) |grind) |with_reducible intro _)) <;>(first|rfl|decide|assumption|omega|(simp_all [aX,bu];done))))):fQ st2 n0 st:=Af js h1 h2
theorem cg0 {α:Type _}{p:α→Prop}:∀ x∈([]:List α),p x:=fun _ h=>by cases h
theorem cgc {α:Type _}{p:α→Prop}{a:α}{l:List α}(h:p a)(t:∀ x∈l,p x):∀ x∈a::l,p x:=fun x hx=>by
 rcases List.mem_cons.1 hx with rfl|hx
 ·exact h
 ·exact t x hx
attribute [go_sem] if_true
end Go.Sx
end
section
namespace Go.Sx
open Go.RowKit
section
variable {P:Program}
end
end Go.Sx
end
section
namespace Go.Sx
open Go.RowKit
def okL {ρ σ τ:Type}(step:τ→σ→ρ⊕σ)(p:τ→σ→Prop):List τ→σ→Prop
 | [],_=>True
 |x::l,s=>p x s∧∀ s',step x s=.inr s'→okL step p l s'
section
variable {ρ σ τ:Type}
def rgN (T:List (Nat×SV))(H:σ→List Ob)(n0:Nat)(st:St):ρ⊕σ→Prop
 | .inl _=>False
 | .inr s'=>fQ ⟨T,H s'⟩ n0 ⟨T,st.h⟩
def rgX (exE:ρ→Ex)(T:List (Nat×SV))(Hy:ρ→List Ob)(n0:Nat)(e:Ex)(st:St):ρ⊕σ→Prop
 | .inl y=>exE y=e∧fQ ⟨T,Hy y⟩ n0 ⟨T,st.h⟩
 | .inr _=>False
def rgQ (step:τ→σ→ρ⊕σ)(exE:ρ→Ex)(T:List (Nat×SV))(H:σ→List Ob)(Hy:ρ→List Ob)(n0 id:Nat)(x:τ)(s:σ):Ex→St→Prop
 | .normal,st=>rgN T H n0 st (step x s)
 | .exit j,st=>rgX exE T Hy n0 (bif Nat.beq j id then .normal else .exit j) st (step x s)
 | .ret,st=>rgX exE T Hy n0 .ret st (step x s)
 | .pan _,_=>False
variable {step:τ→σ→ρ⊕σ}{exE:ρ→Ex}{T:List (Nat×SV)}{H:σ→List Ob}{Hy:ρ→List Ob}{n0 id j:Nat}{x:τ}{s s':σ}{y:ρ}{st:St}{e:Ex}
@[go_sem] theorem TW:rgN (ρ:=ρ) T H n0 st (.inr s')=fQ ⟨T,H s'⟩ n0 ⟨T,st.h⟩:=(rfl)
@[go_sem] theorem TX:rgX (σ:=σ) exE T Hy n0 e st (.inl y)=(exE y=e∧fQ ⟨T,Hy y⟩ n0 ⟨T,st.h⟩):=(rfl)
@[go_sem] theorem N5:rgQ step exE T H Hy n0 id x s .normal st=rgN T H n0 st (step x s):=(rfl)
@[go_sem] theorem TY:rgQ step exE T H Hy n0 id x s .ret st=rgX exE T Hy n0 .ret st (step x s):=(rfl)
@[go_sem] theorem R_:rgQ step exE T H Hy n0 id x s (.exit j) st=rgX exE T Hy n0 (bif Nat.beq j id then .normal else .exit j) st (step x s):=(rfl)
@[congr] theorem Qq {r r':ρ⊕σ}(h:r=r'):rgN T H n0 st r=rgN T H n0 st r':=by rw[h]
end
section
variable {P:Program}{ts:Tis}{G:Cons}{N:Nat}
theorem F7 (hm:P.follows .mixedOrders=true)(hts:ts.ok P)(hG:ConsOk P G){id:Nat}{g:Operand}{ps:Array Tmp}{assign body:Code}{C:St→Option LCon}
  (hpn:ps.toList.Nodup) (hpN:∀ p∈ps.toList,p<N) (hca:ct N assign=true) (hcb:ct N body=true)
  (h:∀ st lc,C st=some lc→lc.pre→∃ (f:FuncId) (caps:List SV) (τ ρ σ:Type) (l:List τ) (mk:τ→List SV) (step:τ→σ→ρ⊕σ) (p:τ→σ→Prop) (pre:Prop) (s0:σ) (exE:ρ→Ex) (outE:ρ→St) (outN:σ→St) (T:List (Nat×SV)) (H:σ→List Ob) (Hy:ρ→List Ob) (js:List Nat),
   raw st.t g=.fn f [] caps∧lc=LC pre (fN step l s0) exE outE outN∧okL step p l s0∧st.h.length≤(H s0).length∧Sub js st.h.length ⟨st.t,s6 (kV st caps) st.h⟩ ⟨T,H s0⟩∧
   DB P f (fun y=>y::caps.map (ren (DD (kV st caps)) 3)) (BE (kV st caps) st.h) (l.map mk)∧
   (∀ x s,p x s→(mk x).length=ps.size∧∃ L,(∀ l,al P (some l) N L assign)∧(∀ l,al P (some l) N L body)∧exec ts G L assign ⟨psT ps.toList (mk x)++T,H s⟩ (fun e st1=>e=.normal∧exec ts G L body st1 (rgQ step exE T H Hy st.h.length id x s)))∧
   (∀ s,fQ (outN s) st.h.length ⟨T,H s⟩)∧∀ y,fQ (outE y) st.h.length ⟨T,Hy y⟩):iX P none N id (.rangeFunc g ps assign body) C:=by
 refine BF hm hts hG hpn hpN hca hcb fun st lc hC hp=>?_
 obtain⟨f,caps,τ,ρ,σ,l,mk,step,p,pre,s0,exE,outE,outN,T,H,Hy,js,h1,rfl,h2,h3,h4,h5,h6,h7,h8⟩:=h st lc hC hp
 refine⟨f,caps,l.map mk,σ⊕ρ,T,fun z=>match z with| .inl s=>H s| .inr y=>Hy y,fun k z=>match z with| .inl s=>fN step (l.drop k) s=fN step l s0∧okL step p (l.drop k) s| .inr _=>False,
  fun e z=>match z with| .inl _=>False| .inr y=>fN step l s0=.inl y∧(match e with| .ret=>exE y=.ret| .exit j=>exE y=(bif Nat.beq j id then .normal else .exit j) |_=>False),.inl s0,js,h1,⟨rfl,h2⟩,h3,h4,h5,?_,?_,?_,?_⟩
 ·rintro k z args hk hI
  cases z with
  |inr y=>exact hI.elim
  |inl s=>
   obtain⟨hrun,hok⟩:=hI
   rw[List.getElem?_map,Option.map_eq_some_iff]at hk
   obtain⟨x,hx,rfl⟩:=hk
   have hlt:=(List.getElem?_eq_some_iff.1 hx).1
   have hd:l.drop k=x::l.drop (k+1):=by
    rw[List.drop_eq_getElem_cons hlt];congr 1;exact(List.getElem?_eq_some_iff.1 hx).2
   rw[hd]at hrun hok
   obtain⟨hl,L,hla,hlb,hex⟩:=h6 x s hok.1
   refine⟨hl,L,_,hla,hlb,?_,hex⟩
   intro e st' hq
   have fin:∀ e',rgX exE T Hy st.h.length e' st' (step x s)→∃ y js,exE y=e'∧fN step l s0=.inl y∧st.h.length≤(Hy y).length∧Sub js st.h.length ⟨T,st'.h⟩ ⟨T,Hy y⟩:=by
    intro e' q
    cases hs:step x s with
    |inr s'=>rw[hs]at q;exact q.elim
    |inl y=>
     rw[hs]at q
     obtain⟨q1,js,q2,q3⟩:=q
     simp only[fN,hs]at hrun
     exact⟨y,js,q1,hrun.symm,q2,q3⟩
   cases e with
   |normal=>
    change rgN T H st.h.length st' (step x s)at hq
    cases hs:step x s with
    |inl y=>rw[hs]at hq;exact hq.elim
    |inr s'=>
     rw[hs]at hq
     obtain⟨js,q1,q2⟩:=hq
     simp only[fN,hs]at hrun
     exact⟨.inl s',js,⟨hrun,hok.2 s' hs⟩,q1,q2⟩
   |exit j=>
    obtain⟨y,js,q1,q2,q3,q4⟩:=fin _ hq
    exact⟨.inr y,js,⟨q2,q1⟩,q3,q4⟩
   |ret=>
    obtain⟨y,js,q1,q2,q3,q4⟩:=fin _ hq
    exact⟨.inr y,js,⟨q2,q1⟩,q3,q4⟩
   |pan x=>exact hq.elim
 ·intro z hI
  cases z with
  |inr y=>exact hI.elim
  |inl s=>
   obtain⟨js,q1,q2⟩:=h7 s
   have:=hI.1
   rw[List.length_map,List.drop_length]at this
   exact⟨.inr s,js,this,rfl,q1,q2⟩
 ·intro z hS
  cases z with
  |inl s=>exact hS.elim
  |inr y=>
   obtain⟨js,q1,q2⟩:=h8 y
   exact⟨.inl y,js,hS.1.symm,hS.2,q1,q2⟩
 ·intro j z hS
  cases z with
  |inl s=>exact hS.elim
  |inr y=>
   obtain⟨js,q1,q2⟩:=h8 y
   refine⟨.inl y,js,hS.1.symm,?_,q1,q2⟩
   have:=hS.2
   show exE y=_
   rw[this]
   by_cases hj:j=id
   ·rw[if_pos hj]
    have hb:Nat.beq j id=true:=by rw[hj];exact Nat.beq_refl id
    rw[hb];rfl
   ·rw[if_neg hj]
    cases hb:Nat.beq j id with
    |true=>exact absurd (Nat.eq_of_beq_eq_true hb) hj
    |false=>rfl
end
end Go.Sx
end
section
namespace Go.Sx
open Go.RowKit
section
variable {P:Program}{ρ σ τ:Type}
def sj:Ob→Option Nat
 | .mi _ _ _ c=>c
 |_=>none
def nxC (step:τ→σ→ρ⊕σ)(l:List τ)(d:τ)(D:List Nat→Option Nat→σ→St)(n0:Nat)(left:List Nat)(s:σ)(st:St):Option Nat→Prop
 |some j=>j∈left∧oD (fun _ s'=>D (left.erase j) (some j) s') n0 0 st (step (l.getD j d) s)
 |none=>False
def exC (step:τ→σ→ρ⊕σ)(l:List τ)(d:τ)(exE:ρ→Ex)(outE:ρ→St)(n0:Nat)(left:List Nat)(s:σ)(e:Ex)(st:St):Option Nat→Prop
 |some j=>j∈left∧kg exE outE n0 e st (step (l.getD j d) s)
 |none=>False
def cM (step:τ→σ→ρ⊕σ)(l:List τ)(d:τ)(exE:ρ→Ex)(outE:ρ→St)(outN:σ→St)(D:List Nat→Option Nat→σ→St)(n0 id it:Nat)(left:List Nat)(s:σ):Ex→St→Prop
 | .normal,st=>nxC step l d D n0 left s st (sj (ag st.h it))
 | .exit j,st=>bif Nat.beq j id then(left=[]→fQ (outN s) n0 st)∧(left≠[]→exC step l d exE outE n0 left s .normal st (sj (ag st.h it)))else exC step l d exE outE n0 left s (.exit j) st (sj (ag st.h it))
 | .ret,st=>exC step l d exE outE n0 left s .ret st (sj (ag st.h it))
 | .pan x,st=>exC step l d exE outE n0 left s (.pan x) st (sj (ag st.h it))
variable {step:τ→σ→ρ⊕σ}{l:List τ}{d:τ}{n0 id it j:Nat}{exE:ρ→Ex}{outE:ρ→St}{outN:σ→St}{D:List Nat→Option Nat→σ→St}{left:List Nat}{s s':σ}{st:St}{x:Value}{e:Ex}{y:ρ}{t:List (Nat×SV)}{h:List Ob}
@[go_sem] theorem TZ {m:Option Nat}{n:Nat}{left:List Nat}{c:Option Nat}:sj (.mi m n left c)=c:=(rfl)
@[go_sem] theorem Sa:nxC step l d D n0 left s st (some j)=(j∈left∧oD (fun _ s'=>D (left.erase j) (some j) s') n0 0 st (step (l.getD j d) s)):=(rfl)
@[go_sem] theorem Sb:exC step l d exE outE n0 left s e st (some j)=(j∈left∧kg exE outE n0 e st (step (l.getD j d) s)):=(rfl)
@[go_sem] theorem Qr:cM step l d exE outE outN D n0 id it left s .normal ⟨t,h⟩=nxC step l d D n0 left s ⟨t,h⟩ (sj (ag h it)):=(rfl)
@[go_sem] theorem T0:cM step l d exE outE outN D n0 id it left s (.exit j) ⟨t,h⟩=bif Nat.beq j id then(left=[]→fQ (outN s) n0 ⟨t,h⟩)∧(left≠[]→exC step l d exE outE n0 left s .normal ⟨t,h⟩ (sj (ag h it)))else exC step l d exE outE n0 left s (.exit j) ⟨t,h⟩ (sj (ag h it)):=(rfl)
@[go_sem] theorem UT:cM step l d exE outE outN D n0 id it left s .ret ⟨t,h⟩=exC step l d exE outE n0 left s .ret ⟨t,h⟩ (sj (ag h it)):=(rfl)
@[go_sem] theorem UU:cM step l d exE outE outN D n0 id it left s (.pan x) ⟨t,h⟩=exC step l d exE outE n0 left s (.pan x) ⟨t,h⟩ (sj (ag h it)):=(rfl)
@[congr] theorem Sc {st st':St}{e e':Ex}(h:st=st')(he:e=e'):cM step l d exE outE outN D n0 id it left s e st=cM step l d exE outE outN D n0 id it left s e' st':=by rw[h,he]
attribute [go_sem] GY
@[go_sem] theorem Sd {t:List (Nat×SV)}{h:List Ob}{d:Nat}{s:SV}:St.put ⟨t,h⟩ (some d) s=⟨(d,s)::t,h⟩:=(rfl)
@[go_sem] theorem Se {t:List (Nat×SV)}{h:List Ob}{s:SV}:St.put ⟨t,h⟩ none s=⟨t,h⟩:=(rfl)
theorem wZ (l:List τ)(d:τ):(List.range l.length).map (fun j=>l.getD j d)=l:=by
 apply List.ext_getElem
 ·simp
 ·intro i h1 h2
  simp only[List.length_map,List.length_range]at h1
  simp[List.getD_eq_getElem?_getD,List.getElem?_eq_getElem h1]
end
end Go.Sx
end
section
namespace Go.Sx
open Go.RowKit
inductive NLoc where
 |slot (i:Nat) (o:Ob)
 |cell (i j:Nat) (o:Ob)
def H9 (j n:Nat):Ob→Ob
 | .cells l=>.cells (l.set j (.os n))
 |o=>o
def K7 (j:Nat):Ob→Prop
 | .cells l=>nth l j=some (.v (.slice none 0 0))
 |_=>False
def w5:Ob→Prop
 | .row _ l=>l=[]
 | .grid _ l=>l=[]
 |_=>False
def F8:SV→Ob→Prop
 | .v (.slice none 0 0),_=>True
 | .e0,.row _ _=>True
 |_,_=>False
def mkN:List NLoc→St→St
 | [],st=>st
 | .slot i o::r,⟨t,h⟩ =>mkN r ⟨(i,.os h.length)::t,h++[o]⟩
 | .cell i j o::r,⟨t,h⟩ =>mkN r ⟨t,bF h i (H9 j h.length (ag h i))++[o]⟩
def okN:List NLoc→St→Prop
 | [],_=>True
 | .slot i o::r,⟨t,h⟩ =>F8 (lk i t) o∧w5 o∧okN r ⟨(i,.os h.length)::t,h++[o]⟩
 | .cell i j o::r,⟨t,h⟩ =>K7 j (ag h i)∧w5 o∧okN r ⟨t,bF h i (H9 j h.length (ag h i))++[o]⟩
section
variable {i j m n:Nat}{o:Ob}{r:List NLoc}{t t2:List (Nat×SV)}{h h2:List Ob}{l:List SV}{ns:List NLoc}{js:List Nat}{st:St}
@[go_sem] theorem T1:mkN [] st=st:=(rfl)
@[go_sem] theorem Sf:mkN (.slot i o::r) ⟨t,h⟩=mkN r ⟨(i,.os h.length)::t,h++[o]⟩:=(rfl)
@[go_sem] theorem Sg:mkN (.cell i j o::r) ⟨t,h⟩=mkN r ⟨t,bF h i (H9 j h.length (ag h i))++[o]⟩:=(rfl)
@[go_sem] theorem T2:okN [] st=True:=(rfl)
@[go_sem] theorem Sh:okN (.slot i o::r) ⟨t,h⟩=(F8 (lk i t) o∧w5 o∧okN r ⟨(i,.os h.length)::t,h++[o]⟩):=(rfl)
@[go_sem] theorem Si:okN (.cell i j o::r) ⟨t,h⟩=(K7 j (ag h i)∧w5 o∧okN r ⟨t,bF h i (H9 j h.length (ag h i))++[o]⟩):=(rfl)
@[go_sem] theorem Sj:F8 (.v (.slice none 0 0)) o=True:=by cases o <;>rfl
@[go_sem] theorem T3 {k:Tag}{m:List k.T}:F8 .e0 (.row k m)=True:=(rfl)
@[go_sem] theorem N6:H9 j n (.cells l)=.cells (l.set j (.os n)):=(rfl)
@[go_sem] theorem N7:K7 j (.cells l)=(nth l j=some (.v (.slice none 0 0))):=(rfl)
theorem ES (h:w5 o):(∃ k,o=.row k [])∨∃ k,o=.grid k []:=by
 cases o <;>simp only[w5]at h
 ·subst h;exact .inl ⟨_,rfl⟩
 ·subst h;exact .inr ⟨_,rfl⟩
theorem H_ {s:SV}{o:Ob}(h:F8 s o):s=.v (.slice none 0 0)∨(s=.e0∧∃ k l,o=.row k l):=by
 unfold F8 at h
 split at h
 ·exact .inl rfl
 ·exact .inr ⟨rfl,_,_,rfl⟩
 ·exact h.elim
theorem sm:∀ (ns:List NLoc) (st0 st:St),NilS st0 st→okN ns st→NilS st0 (mkN ns st)
 | [],_,_,hn,_=>hn
 | .slot i o::r,st0,⟨t,h⟩,hn,hk=>by
  rcases H_ hk.1 with e| ⟨e,k,l,ho⟩
  ·exact sm r st0 _ (.slot o hn e (ES hk.2.1)) hk.2.2
  ·have h2:=hk.2.1
   have h3:=hk.2.2
   rw[ho]at h2 h3
   simp only[w5]at h2
   subst h2
   subst ho
   exact sm r st0 _ (.slotE k hn e) h3
 | .cell i j o::r,st0,⟨t,h⟩,hn,hk=>by
  refine sm r st0 _ ?_ hk.2.2
  have h1:=hk.1
  cases ho:ag h i with
  |cells l=>
   rw[ho]at h1
   simp only[K7,d4]at h1
   exact .cell o hn ho h1 (ES hk.2.1)
  |_=>rw[ho]at h1;exact h1.elim
def o_ (m:Nat)(ns:List NLoc)(js:List Nat)(st d:St):Prop:=st.h.length=m∧okN ns st∧m≤d.h.length∧Sub js m (mkN ns st) d
@[go_sem] theorem Qs:o_ m ns js ⟨t,h⟩ ⟨t2,h2⟩=(h.length=m∧okN ns ⟨t,h⟩∧m≤h2.length∧Sub js m (mkN ns ⟨t,h⟩) ⟨t2,h2⟩):=(rfl)
end
theorem ah {P:Program}{ro:Option Nat}{N:Nat}(c:Code):al P ro N L0 c:=by
 induction c with
 |seq a b ha hb=>exact⟨ha,hb⟩
 |cond _ a b ha hb=>exact⟨ha,hb⟩
 |block id c hc=>
  cases c with
  |loop c=>exact fun _ _ _ _ _ h=>by cases h
  |rangeFunc f ps a b=>exact fun _ _ _ _ _ h=>by cases h
  |_=>exact hc
 |_=>trivial
section
variable {ρ σ τ:Type}
def pT:Nat→σ→Prop:=fun _ _=>True
@[go_sem] theorem UV {step:Nat→σ→ρ⊕σ}{n i:Nat}{s:σ}:okI step pT n i s=True:=eq_true (iL _ _ _ fun _ _ _ _=>trivial)
def LCR (m:Nat)(ns:List NLoc)(js:List Nat)(D:Nat→σ→St)(step:Nat→σ→ρ⊕σ)(p:Nat→σ→Prop)(n:Nat)(s0:σ)(B:Prop)(exE:ρ→Ex)(outE:ρ→St)(st:St):LCon:=
 LC (o_ m ns js st (D 0 s0)∧B∧okI step p n 0 s0) (ak step n 0 s0) exE outE (D n)
def LCV (m:Nat)(ns:List NLoc)(js:List Nat)(D:Nat→σ→St)(step:Nat→σ→ρ⊕σ)(p:Nat→σ→Prop)(n:Nat)(s0:σ)(exE:ρ→Ex)(outE:ρ→St)(st:St):LCon:=
 LC (o_ m ns js st (D 0 s0)∧okI step p n 0 s0∧∀ s,ak step n 0 s0≠ .inr s) (ak step n 0 s0) exE outE (D n)
variable {m:Nat}{ns:List NLoc}{js:List Nat}{step:Nat→σ→ρ⊕σ}{p:Nat→σ→Prop}{n:Nat}{s0:σ}{B:Prop}{exE:ρ→Ex}{outE:ρ→St}{outN:σ→St}{st:St}{Q:Ex→St→Prop}
@[go_sem] theorem Qt {D:Nat→σ→St}:nh Q (some (LCR m ns js D step p n s0 B exE outE st))=((o_ m ns js st (D 0 s0)∧B∧okI step p n 0 s0)∧(∀ x,ak step n 0 s0=.inl x→Q (exE x) (outE x))∧∀ s,ak step n 0 s0=.inr s→Q .normal (D n s)):=BB
@[go_sem] theorem Qu {D:Nat→σ→St}:nh Q (some (LCV m ns js D step p n s0 exE outE st))=((o_ m ns js st (D 0 s0)∧okI step p n 0 s0∧∀ s,ak step n 0 s0≠ .inr s)∧∀ x,ak step n 0 s0=.inl x→Q (exE x) (outE x)):=by
 refine BB.trans ?_
 apply propext
 constructor
 ·rintro⟨h1,h2,_⟩;exact⟨h1,h2⟩
 ·rintro⟨h1,h2⟩;exact⟨h1,h2,fun s hs=>absurd hs (h1.2.2 s)⟩
def cR (step:Nat→σ→ρ⊕σ)(exE:ρ→Ex)(outE:ρ→St)(D:Nat→σ→St)(m id k:Nat)(s:σ):Ex→St→Prop
 | .normal,st=>oD D m k st (step k s)
 | .exit j,st=>kg exE outE m (bif Nat.beq j id then .normal else .exit j) st (step k s)
 | .ret,st=>kg exE outE m .ret st (step k s)
 | .pan x,st=>kg exE outE m (.pan x) st (step k s)
def cZ (d:St)(m id:Nat):Ex→St→Prop
 | .exit j,st=>bif Nat.beq j id then fQ d m st else False
 |_,_=>False
variable {D:Nat→σ→St}{id k j:Nat}{s:σ}{x:Value}{d:St}{e e':Ex}
@[go_sem] theorem Qv:cR step exE outE D m id k s .normal st=oD D m k st (step k s):=(rfl)
@[go_sem] theorem T4:cR step exE outE D m id k s (.exit j) st=kg exE outE m (bif Nat.beq j id then .normal else .exit j) st (step k s):=(rfl)
@[go_sem] theorem UW:cR step exE outE D m id k s .ret st=kg exE outE m .ret st (step k s):=(rfl)
@[go_sem] theorem UX:cR step exE outE D m id k s (.pan x) st=kg exE outE m (.pan x) st (step k s):=(rfl)
@[go_sem] theorem T5:cZ d m id (.exit j) st=bif Nat.beq j id then fQ d m st else False:=(rfl)
@[congr] theorem Sk {st':St}(h:st=st')(he:e=e'):cR step exE outE D m id k s e st=cR step exE outE D m id k s e' st':=by rw[h,he]
@[congr] theorem Sl {st':St}(h:st=st')(he:e=e'):cZ d m id e st=cZ d m id e' st':=by rw[h,he]
@[congr] theorem Mo {r r':ρ⊕σ}(h:r=r')(he:e=e'):kg exE outE m e st r=kg exE outE m e' st r':=by rw[h,he]
end
section
variable {P:Program}{ρ σ τ:Type}{ts:Tis}{G:Cons}{ro:Option Nat}{N:Nat}{id:Nat}{c:Code}{C:St→Option LCon}{m:Nat}{ns:List NLoc}{js:List Nat}{step:Nat→σ→ρ⊕σ}{p:Nat→σ→Prop}{n:Nat}{s0:σ}{exE:ρ→Ex}{outE:ρ→St}{D:Nat→σ→St}
theorem Ia {n0:Nat}(hn0:n0=m){s:σ}{k:Nat}(hlt:k<n){I:Nat×σ→Prop}{μ:Nat×σ→Nat}{outN:σ→St}{pre:Prop}{run:ρ⊕σ}
  (hI:∀ s',step k s=.inr s'→I (k+1,s')∧μ (k+1,s') <μ (k,s)) (hx:∀ x,step k s=.inl x→run=.inl x):
  ∀ e st',cR step exE outE D m id k s e st'→o4 (fun x:Nat×σ=>D x.1 x.2) I μ n0 (k,s) id (fun e st'=>∃ r js,(LC pre run exE outE outN).post r∧(LC pre run exE outE outN).ex r=e∧n0≤((LC pre run exE outE outN).out r).h.length∧Sub js n0 st' ((LC pre run exE outE outN).out r)) e st':=by
 subst hn0
 have hfin:∀ e st',kg exE outE n0 e st' (step k s)→∃ r js,(LC pre run exE outE outN).post r∧(LC pre run exE outE outN).ex r=e∧n0≤((LC pre run exE outE outN).out r).h.length∧Sub js n0 st' ((LC pre run exE outE outN).out r):=by
  intro e st' q
  cases hs:step k s with
  |inr s'=>rw[hs]at q;exact q.elim
  |inl x=>
   rw[hs]at q
   obtain⟨q2,js,q3,q4⟩:=q
   exact⟨.inl x,js,(hx x hs).symm,q2,q3,q4⟩
 intro e st' hq
 cases e with
 |normal=>
  change oD D n0 k st' (step k s)at hq
  cases hs:step k s with
  |inl x=>rw[hs]at hq;exact hq.elim
  |inr s'=>
   rw[hs]at hq
   obtain⟨js,q3,q4⟩:=hq
   obtain⟨i1,i2⟩:=hI s' hs
   exact⟨(k+1,s'),js,i1,i2,q3,q4⟩
 |exit j=>
  change kg exE outE n0 (bif Nat.beq j id then .normal else .exit j) st' (step k s)at hq
  show bif Nat.beq j id then _ else _
  cases hb:Nat.beq j id with
  |true=>rw[hb]at hq;exact hfin _ _ hq
  |false=>rw[hb]at hq;exact hfin _ _ hq
 |ret=>exact hfin _ _ hq
 |pan x=>exact hfin _ _ hq
theorem uk {B:Prop}(hm:P.follows .mixedOrders=true)(hts:ts.ok P)(hG:ConsOk P G)(hc:ct N c=true)(hC:∀ st,C st=some (LCR m ns js D step p n s0 B exE outE st))
  (h:B→∀ k s,k<n→p k s→∃ L Q,al P ro N L c∧(∀ e st',Q e st'→cR step exE outE D m id k s e st')∧exec ts G L c (D k s) Q)
  (h2:B→∀ s,∃ Q,(∀ e st',Q e st'→cZ (D n s) m id e st')∧exec ts G L0 c (D n s) Q):iX P ro N id (.loop c) C:=by
 refine s7 hm hts hG hc fun st lc hC' hp=>?_
 rw[hC st]at hC'
 cases hC'
 obtain⟨⟨hlen,hok,hle,hsub⟩,hB,h1⟩:=hp
 refine⟨Nat×σ,fun x=>D x.1 x.2,fun x=>x.1≤n∧okI step p (n - x.1) x.1 x.2∧ak step (n - x.1) x.1 x.2=ak step n 0 s0,fun x=>n - x.1,(0,s0),mkN ns st,js,⟨Nat.zero_le _,by simpa using h1,by simp⟩,sm ns st st (.refl _) hok,by rw[hlen];exact hle,by rw[hlen];exact hsub,?_⟩
 rintro⟨k,s⟩ ⟨hk,hJ,hrun⟩
 simp only at hk hJ hrun
 rcases Nat.lt_or_ge k n with hlt|hge
 ·rw[show n - k=(n - k - 1)+1 by omega]at hrun hJ
  obtain⟨L,Q,hl,hQ,hex⟩:=h hB k s hlt hJ.1
  have hI:∀ s',step k s=.inr s'→okI step p (n - (k+1)) (k+1) s'∧ak step (n - (k+1)) (k+1) s'=ak step n 0 s0:=fun s' hs=>by
   have:=hJ.2 s' hs
   rw[show n - k - 1=n - (k+1) by omega]at this hrun
   simp only[ak,hs]at hrun
   exact⟨this,hrun⟩
  have hx:∀ x,step k s=.inl x→ak step n 0 s0=.inl x:=fun x hs=>by
   simp only[ak,hs]at hrun
   exact hrun.symm
  exact⟨L,Q,hl,fun e st' q=>Ia hlen hlt (fun s' hs=>⟨⟨hlt,hI s' hs⟩,by simp only;omega⟩) hx e st' (hQ e st' q),hex⟩
 ·have hkn:k=n:=by omega
  subst hkn
  obtain⟨Q,hQ,hex⟩:=h2 hB s
  refine⟨L0,Q,ah c,fun e st' q=>?_,hex⟩
  have hq:=hQ e st' q
  simp only[Nat.sub_self,ak]at hrun
  cases e with
  |exit j=>
   change bif Nat.beq j id then fQ (D k s) m st' else False at hq
   show bif Nat.beq j id then _ else _
   cases hb:Nat.beq j id with
   |true=>
    rw[hb]at hq
    obtain⟨js,q3,q4⟩:=hq
    exact⟨.inr s,js,hrun,rfl,by rw[hlen];exact q3,by rw[hlen];exact q4⟩
   |false=>rw[hb]at hq;exact hq.elim
  |_=>exact hq.elim
theorem eh {B:Prop}(hm:P.follows .mixedOrders=true)(hts:ts.ok P)(hG:ConsOk P G)(hc:ct N c=true)(hC:∀ st,C st=some (LCR m ns js D step p n s0 B exE outE st))(M:Int)(hn:n=M.toNat)(hB:B→M<9223372036854775808)
  (h:B→∀ k s,k<n→p k s→IntKind.i64.wrap ((k:Int)+1)=((k+1:Nat):Int)→decide ((k:Int) <M)=true→∃ L,al P ro N L c∧exec ts G L c (D k s) (cR step exE outE D m id k s))
  (h2:B→∀ s,decide ((n:Int) <M)=false→exec ts G L0 c (D n s) (cZ (D n s) m id)):iX P ro N id (.loop c) C:=by
 refine uk hm hts hG hc hC (fun b k s hlt hp=>?_) fun b s=>⟨_,fun _ _ q=>q,h2 b s ?_⟩
 ·obtain⟨L,h1,h3⟩:=h b k s hlt hp (HP (hn▸hlt) (hB b)) (decide_eq_true (by omega))
  exact⟨L,_,h1,fun _ _ q=>q,h3⟩
 ·rw[decide_eq_false_iff_not];omega
theorem c_ (E:Prop)(hm:P.follows .mixedOrders=true)(hts:ts.ok P)(hG:ConsOk P G)(hc:ct N c=true)(hC:∀ st,C st=some (LCR m ns js D step p n s0 True exE outE st))(M:Int)(hn:n=M.toNat)(hE:E→M<9223372036854775808)
  (h:E→∀ k s,k<n→p k s→IntKind.i64.wrap ((k:Int)+1)=((k+1:Nat):Int)→decide ((k:Int) <M)=true→∃ L,al P ro N L c∧exec ts G L c (D k s) (cR step exE outE D m id k s))
  (h2:E→∀ s,decide ((n:Int) <M)=false→exec ts G L0 c (D n s) (cZ (D n s) m id)) (h3:¬E→∀ k s,exec ts G L0 c (D k s) fun _ _=>False):iX P ro N id (.loop c) C:=by
 by_cases hb:E
 ·refine uk hm hts hG hc hC (fun b k s hlt hp=>?_) fun b s=>⟨_,fun _ _ q=>q,h2 hb s ?_⟩
  ·obtain⟨L,h1,h4⟩:=h hb k s hlt hp (HP (hn▸hlt) (hE hb)) (decide_eq_true (by omega))
   exact⟨L,_,h1,fun _ _ q=>q,h4⟩
  ·rw[decide_eq_false_iff_not];omega
 ·exact uk hm hts hG hc hC (fun _ k s _ _=>⟨L0,_,ah c,fun _ _ q=>q.elim,h3 hb k s⟩) fun _ s=>⟨_,fun _ _ q=>q.elim,h3 hb n s⟩
theorem eO (hm:P.follows .mixedOrders=true)(hts:ts.ok P)(hG:ConsOk P G)(hc:ct N c=true)(hC:∀ st,C st=some (LCV m ns js D step p n s0 exE outE st))
  (h:∀ k s,p k s→∃ L,al P ro N L c∧exec ts G L c (D k s) (cR step exE outE D m id k s)):iX P ro N id (.loop c) C:=by
 refine s7 hm hts hG hc fun st lc hC' hp=>?_
 rw[hC st]at hC'
 cases hC'
 obtain⟨⟨hlen,hok,hle,hsub⟩,h1,hno⟩:=hp
 refine⟨Nat×σ,fun x=>D x.1 x.2,fun x=>x.1≤n∧okI step p (n - x.1) x.1 x.2∧ak step (n - x.1) x.1 x.2=ak step n 0 s0,fun x=>n - x.1,(0,s0),mkN ns st,js,⟨Nat.zero_le _,by simpa using h1,by simp⟩,sm ns st st (.refl _) hok,by rw[hlen];exact hle,by rw[hlen];exact hsub,?_⟩
 rintro⟨k,s⟩ ⟨hk,hJ,hrun⟩
 simp only at hk hJ hrun
 have hlt:k<n:=by
  rcases Nat.lt_or_ge k n with h|h
  ·exact h
  ·have hkn:k=n:=by omega
   subst hkn
   simp only[Nat.sub_self,ak]at hrun
   exact absurd hrun.symm (hno s)
 rw[show n - k=(n - k - 1)+1 by omega]at hrun hJ
 obtain⟨L,hl,hex⟩:=h k s hJ.1
 have hI:∀ s',step k s=.inr s'→okI step p (n - (k+1)) (k+1) s'∧ak step (n - (k+1)) (k+1) s'=ak step n 0 s0:=fun s' hs=>by
  have:=hJ.2 s' hs
  rw[show n - k - 1=n - (k+1) by omega]at this hrun
  simp only[ak,hs]at hrun
  exact⟨this,hrun⟩
 have hx:∀ x,step k s=.inl x→ak step n 0 s0=.inl x:=fun x hs=>by
  simp only[ak,hs]at hrun
  exact hrun.symm
 exact⟨L,_,hl,fun e st' q=>Ia hlen hlt (fun s' hs=>⟨⟨hlt,hI s' hs⟩,by simp only;omega⟩) hx e st' q,hex⟩
theorem gM {α:Type}{l:List α}(h:l.length≤bv):(l.length:Int) <9223372036854775808:=by unfold bv at h;omega
end
section
universe u
variable {α:Type u}{G:List SV→α→Prop}{r:List SV}
theorem co {k:Int→List SV→Option α}(h:∀ n l c,k n l=some c→G (.v (.int .i64 n)::l) c):∀ l c,pI k l=some c→G l c:=fun l c hc=>by
 obtain⟨n,r,rfl,h1⟩:=NN hc;exact h n r c h1
theorem ul {k:Bool→List SV→Option α}(h:∀ n l c,k n l=some c→G (.v (.bool n)::l) c):∀ l c,pB k l=some c→G l c:=fun l c hc=>by
 obtain⟨n,r,rfl,h1⟩:=NO hc;exact h n r c h1
theorem dw {t:Tag}{k:List t.T→List SV→Option α}(h:∀ n l c,k n l=some c→G (.rs t n::l) c):∀ l c,pR t k l=some c→G l c:=fun l c hc=>by
 obtain⟨n,r,rfl,h1⟩:=NP hc;exact h n r c h1
theorem bb {t:Tag}{k:t.T→List SV→Option α}(h:∀ n l c,k n l=some c→G (.agg (cellsOf t n)::l) c):∀ l c,pD t k l=some c→G l c:=fun l c hc=>by
 obtain⟨n,r,rfl,h1⟩:=NR hc;exact h n r c h1
theorem Ag {t:Tag}{k:t.T→List SV→Option α}(h:∀ n l c,k n l=some c→G (.ep (cellsOf t n) 0::l) c):∀ l c,pX t k l=some c→G l c:=fun l c hc=>by
 obtain⟨n,r,rfl,h1⟩:=NQ hc;exact h n r c h1
theorem N8 {t t2:Tag}{k:List (t.T×t2.T)→List SV→Option α}(h:∀ n l c,k n l=some c→G (.rm t t2 n::l) c):∀ l c,pM t t2 k l=some c→G l c:=fun l c hc=>by
 obtain⟨n,r,rfl,h1⟩:=HK hc;exact h n r c h1
theorem aI {c0:α}(h:G [] c0):∀ l c,pE c0 l=some c→G l c:=fun l c hc=>by
 obtain⟨rfl,rfl⟩:=DA hc;exact h
end
end Go.Sx
end
section
namespace Go.Sx
open Go.RowKit
section
universe u
variable {α:Type u}{G:List SV→α→Prop}
def apO:Option (List SV→Option α)→List SV→Option α
 |some q,r=>q r
 |none,_=>none
@[go_sem] theorem Sm {q:List SV→Option α}{r:List SV}:apO (some q) r=q r:=(rfl)
@[go_sem] theorem Sn {r:List SV}:apO (α:=α) none r=none:=(rfl)
def pFn (f:Nat)(k:List SV→Option (List SV→Option α)):List SV→Option α
 | .fn g [] caps::r=>bif Nat.beq g f then apO (k caps) r else none
 |_=>none
def pXF (f:Nat)(k:List SV→Option (List SV→Option α)):List SV→Option α
 | .ep [.fn g [] caps] 0::r=>bif Nat.beq g f then apO (k caps) r else none
 |_=>none
@[go_sem] theorem UY {f g:Nat}{k:List SV→Option (List SV→Option α)}{caps r:List SV}:pFn f k (.fn g [] caps::r)=bif Nat.beq g f then apO (k caps) r else none:=(rfl)
@[go_sem] theorem UZ {f g:Nat}{k:List SV→Option (List SV→Option α)}{caps r:List SV}:pXF f k (.ep [.fn g [] caps] 0::r)=bif Nat.beq g f then apO (k caps) r else none:=(rfl)
theorem K8 {o:Option (List SV→Option α)}{r:List SV}{c:α}(h:apO o r=some c):∃ q,o=some q∧q r=some c:=by
 cases o with
 |none=>cases h
 |some q=>exact⟨q,rfl,h⟩
theorem ta {f:Nat}{k:List SV→Option (List SV→Option α)}(h:∀ caps q,k caps=some q→∀ l c,q l=some c→G (.fn f [] caps::l) c):∀ l c,pFn f k l=some c→G l c:=fun l c hc=>by
 unfold pFn at hc
 split at hc
 ·rename_i g caps r
  cases hb:Nat.beq g f with
  |false=>rw[hb]at hc;cases hc
  |true=>
   rw[hb]at hc
   obtain⟨q,h1,h2⟩:=K8 hc
   have:=Nat.eq_of_beq_eq_true hb
   subst this
   exact h caps q h1 r c h2
 ·cases hc
def pFB (f:Nat)(k:List SV→Option (List SV→Option α)):List SV→Option α
 | .fn g caps []::r=>bif Nat.beq g f then apO (k caps) r else none
 |_=>none
def So (f:Nat)(k:List SV→Option (List SV→Option α)):List SV→Option α
 | .ep [.fn g caps []] 0::r=>bif Nat.beq g f then apO (k caps) r else none
 |_=>none
@[go_sem] theorem U0 {f g:Nat}{k:List SV→Option (List SV→Option α)}{caps r:List SV}:pFB f k (.fn g caps []::r)=bif Nat.beq g f then apO (k caps) r else none:=(rfl)
@[go_sem] theorem T6 {f g:Nat}{k:List SV→Option (List SV→Option α)}{caps r:List SV}:So f k (.ep [.fn g caps []] 0::r)=bif Nat.beq g f then apO (k caps) r else none:=(rfl)
@[go_sem] theorem U3 {f g:Nat}{k:List SV→Option (List SV→Option α)}{b c r:List SV}{x:SV}:pFB f k (.fn g b (x::c)::r)=none:=(rfl)
@[go_sem] theorem T7 {f g:Nat}{k:List SV→Option (List SV→Option α)}{b c r:List SV}{x:SV}:So f k (.ep [.fn g b (x::c)] 0::r)=none:=(rfl)
@[go_sem] theorem U4 {f g:Nat}{k:List SV→Option (List SV→Option α)}{b c r:List SV}{x:SV}:pFn f k (.fn g (x::b) c::r)=none:=(rfl)
@[go_sem] theorem U5 {f g:Nat}{k:List SV→Option (List SV→Option α)}{b c r:List SV}{x:SV}:pXF f k (.ep [.fn g (x::b) c] 0::r)=none:=(rfl)
end
def pXX {α:Type 1}(t:Tag)(k:t.T→List SV→Option α):List SV→Option α
 | .ep [s] 0::r=>pX t k (s::r)
 |_=>none
@[go_sem] theorem Sp {α:Type 1}{t:Tag}{k:t.T→List SV→Option α}{s:SV}{r:List SV}:pXX t k (.ep [s] 0::r)=pX t k (s::r):=(rfl)
theorem K9 {α:Type 1}{G:List SV→α→Prop}{t:Tag}{k:List t.T→List SV→Option α}(h:∀ n l c,k n l=some c→G (.ep [.rs t n] 0::l) c):∀ l c,pXR t k l=some c→G l c:=fun l c hc=>by
 obtain⟨n,r,rfl,h1⟩:=K6 hc;exact h n r c h1
theorem cl3 {p:Prop}(h:p:=by((repeat' (first|with_reducible refine And.intro ?_ ?_|((with_reducible show _≠_);first|assumption|omega|(simp_all [aX,bu];done) |grind) |with_reducible intro _)) <;>(first|done|assumption|rfl|omega|exact cl|(simp_all only[HN,HO,Sum.inr.injEq,Sum.inl.injEq,forall_eq',forall_const,true_imp_iff,cond_true,cond_false,and_self];done)))):p:=h
def K_ (k:Tag)(K:List k.T→Option HCon):List Ob→Option HCon
 | [.row k' l] =>if h:k'=k then K (h▸l)else none
 |_=>none
theorem Ib {k:Tag}{K:List k.T→Option HCon}{h:List Ob}{c:HCon}(hh:K_ k K h=some c):∃ l,h=[.row k l]∧K l=some c:=by
 unfold K_ at hh;split at hh
 ·split at hh
  ·rename_i e;subst e;exact⟨_,rfl,hh⟩
  ·cases hh
 ·cases hh
end Go.Sx
end
section
namespace Go.Sx
open Go.Proofs
set_option maxRecDepth 100000
set_option linter.unusedSimpArgs false
theorem czl {p:Prop}(h:p:=by first|(simp only[*,cond_true,cond_false,Bool.not_true,Bool.not_false,go_sem,Nat.reduceBEq,Nat.reduceLeDiff,Nat.reduceLT,decide_true,Nat.reduceAdd,Nat.reduceSub,Nat.reduceMul,Int.reduceLE,Int.reduceLT,Int.reduceToNat,Int.reduceNeg,reduceCtorEq];done) |fail):p:=h
theorem gN {p:Prop}(h:p:=by(first|done|(repeat' (first|with_reducible refine And.intro ?_ ?_|((with_reducible show _≠_);first|assumption|omega|(simp_all [aX,bu];done) |grind) |with_reducible intro _)) <;>(first|done|with_reducible exact Empty.elim ‹Empty› |with_reducible assumption|rfl|omega|assumption|decide|exact fk [0] |exact czl|(simp only[*,cond_true,cond_false,Bool.not_true,Bool.not_false,go_sem,Nat.reduceBEq,Nat.reduceLeDiff,Nat.reduceLT,decide_true,Nat.reduceAdd,Nat.reduceSub,Nat.reduceMul,Int.reduceLE,Int.reduceLT,Int.reduceToNat,Int.reduceNeg,reduceCtorEq];(repeat' (first|with_reducible refine And.intro ?_ ?_|((with_reducible show _≠_);first|assumption|omega|(simp_all [aX,bu];done) |grind) |with_reducible intro _)) <;>(first|done|assumption|rfl|omega|decide|exact fk [0] |(simp_all [aX,bu];done))) |(simp_all [okI,aX,bu];done) |(simp_all [aX,bu];(first|done|exact fk2 [0])) |exact fk2 [0]))):p:=h
theorem fS {p:Prop}(h:p:=by simp only[go_sem,Nat.reduceBEq,Nat.reduceLeDiff,Nat.reduceLT,decide_true,Nat.reduceAdd,Nat.reduceSub,Nat.reduceMul,Int.reduceLE,Int.reduceLT,Int.reduceToNat,Int.reduceNeg,reduceCtorEq,hc,hw];all_goals exact gN):p:=h
theorem fT {p:Prop}(h:p:=by simp only[go_sem,Nat.reduceBEq,Nat.reduceLeDiff,Nat.reduceLT,decide_true,Nat.reduceAdd,Nat.reduceSub,Nat.reduceMul,Int.reduceLE,Int.reduceLT,Int.reduceToNat,Int.reduceNeg,reduceCtorEq,hc];all_goals exact gN):p:=h
def gT (x:Int):Bool:=false
@[go_sem] def pr:List SV→Option Con:=(pI fun x=>(pE (.det True (.v (.bool (gT x))))))
theorem um:FnOk Tryz.prog 62 pr:=by
 have hG:ConsOk Tryz.prog (mkG [] []):=ay cg0 cg0
 refine aU [.o] mixed am hG (fn:=Tryz.f62) (c:=ae Tryz.f62) (by kernel_rfl) (by kernel_rfl) (by kernel_rfl) (by kernel_rfl) (co fun x=>(aI (fun hp=>?_)))
 dsimp only[aG]at hp
 refine⟨Nat.le_of_ble_eq_true rfl,L0,ah _,?_⟩
 ·unfold ae Tryz.f62
  try unfold gT
  simp only[go_sem,Nat.reduceBEq,Nat.reduceLeDiff,Nat.reduceLT,decide_true,Nat.reduceAdd,Nat.reduceSub,Nat.reduceMul,Int.reduceLE,Int.reduceLT,Int.reduceToNat,Int.reduceNeg,reduceCtorEq]
  all_goals exact cl
def dh (x:Int)(y:Int):Int:=(bif(gT x)then(bif(gT y)then 0 else(-1))else(bif(gT y)then 1 else(bif(decide (x<y))then(-1)else(bif(decide (x > y))then 1 else 0))))
@[go_sem] def fA:List SV→Option Con:=(pI fun x=>(pI fun y=>(pE (.det True (.v (.int .i64 (dh x y)))))))
theorem gB:FnOk Tryz.prog 38 fA:=by
 have hG:ConsOk Tryz.prog (mkG [(62,pr)] []):=ay (cgc um cg0) cg0
 refine aU [.o] mixed am hG (fn:=Tryz.f38) (c:=ae Tryz.f38) (by kernel_rfl) (by kernel_rfl) (by kernel_rfl) (by kernel_rfl) (co fun x=>(co fun y=>(aI (fun hp=>?_))))
 dsimp only[aG]at hp
 refine⟨Nat.le_of_ble_eq_true rfl,L0,ah _,?_⟩
 ·unfold ae Tryz.f38
  try unfold dh
  simp only[go_sem,Nat.reduceBEq,Nat.reduceLeDiff,Nat.reduceLT,decide_true,Nat.reduceAdd,Nat.reduceSub,Nat.reduceMul,Int.reduceLE,Int.reduceLT,Int.reduceToNat,Int.reduceNeg,reduceCtorEq]
  all_goals exact cl
def aj (n:Int):Int:=(bif(decide (n<0))then(IntKind.u64.wrap (0 - (IntKind.u64.wrap n)))else(IntKind.u64.wrap n))
@[go_sem] def kh:List SV→Option Con:=(pI fun n=>(pE (.det True (.v (.int .u64 (aj n))))))
theorem nu:FnOk Tryz.prog 89 kh:=by
 have hG:ConsOk Tryz.prog (mkG [] []):=ay cg0 cg0
 refine aU [.o] mixed am hG (fn:=Tryz.f89) (c:=ae Tryz.f89) (by kernel_rfl) (by kernel_rfl) (by kernel_rfl) (by kernel_rfl) (co fun n=>(aI (fun hp=>?_)))
 dsimp only[aG]at hp
 refine⟨Nat.le_of_ble_eq_true rfl,L0,ah _,?_⟩
 ·unfold ae Tryz.f89
  try unfold aj
  simp only[go_sem,Nat.reduceBEq,Nat.reduceLeDiff,Nat.reduceLT,decide_true,Nat.reduceAdd,Nat.reduceSub,Nat.reduceMul,Int.reduceLE,Int.reduceLT,Int.reduceToNat,Int.reduceNeg,reduceCtorEq]
  all_goals exact cl
def aF (a:Ratio):Int:=(bif(((((decide (a.d<1)) ||(decide (a.d > 1073741824))) ||(decide (a.n< (-1073741824)))) ||(decide (a.n > 1073741824))) ||(((rb (Int.toNat (aj a.n)) (Int.toNat (IntKind.u64.wrap a.d)):Nat):Int) !=1))then 120 else 0)
def rC (a:Ratio):Prop:=(((((decide (a.d<1)) ||(decide (a.d > 1073741824))) ||(decide (a.n< (-1073741824)))) ||(decide (a.n > 1073741824)))=false→(0≤(aj a.n)∧0≤(IntKind.u64.wrap a.d)))
theorem w6 (n:Int):0≤IntKind.u64.wrap n:=by
 simp[IntKind.wrap,IntKind.bits,IntKind.signed];omega
theorem un (n:Int):0≤aj n:=by
 unfold aj
 cases decide (n<0) <;>exact w6 _
theorem w7 (a:Ratio):rC a:=fun _=>⟨un _,w6 _⟩
@[go_sem] def lD:List SV→Option Con:=(pD .ratio fun a=>(pE (.det True (.v (.int .i64 (aF a))))))
theorem nv:FnOk Tryz.prog 60 lD:=by
 have hG:ConsOk Tryz.prog (mkG [(88,C83),(89,kh)] []):=ay (cgc H6 (cgc nu cg0)) cg0
 refine aU [.o] mixed am hG (fn:=Tryz.f60) (c:=ae Tryz.f60) (by kernel_rfl) (by kernel_rfl) (by kernel_rfl) (by kernel_rfl) (bb fun a=>(aI (fun hp=>?_)))
 dsimp only[aG]at hp
 have hp:=w7 a
 unfold rC at hp
 refine⟨Nat.le_of_ble_eq_true rfl,L0,ah _,?_⟩
 ·unfold ae Tryz.f60
  try unfold aF
  simp only[go_sem,Nat.reduceBEq,Nat.reduceLeDiff,Nat.reduceLT,decide_true,Nat.reduceAdd,Nat.reduceSub,Nat.reduceMul,Int.reduceLE,Int.reduceLT,Int.reduceToNat,Int.reduceNeg,reduceCtorEq,C83]
  all_goals exact cl
def kW (a:Ratio)(b:Ratio):Int×Int:=(bif(((aF a) !=0) ||((aF b) !=0))then(0,120)else((dh (IntKind.i64.wrap (a.n*b.d)) (IntKind.i64.wrap (b.n*a.d))),0))
@[go_sem] def uU:List SV→Option Con:=(pD .ratio fun a=>(pD .ratio fun b=>(pE (.det True (.tup [.v (.int .i64 ((kW a b).1)),.v (.int .i64 ((kW a b).2))])))))
theorem Ah:FnOk Tryz.prog 141 uU:=by
 have hG:ConsOk Tryz.prog (mkG [(38,fA),(60,lD)] []):=ay (cgc gB (cgc nv cg0)) cg0
 refine aU [.o,.o] mixed am hG (fn:=Tryz.f141) (c:=ae Tryz.f141) (by kernel_rfl) (by kernel_rfl) (by kernel_rfl) (by kernel_rfl) (bb fun a=>(bb fun b=>(aI (fun hp=>?_))))
 dsimp only[aG]at hp
 refine⟨Nat.le_of_ble_eq_true rfl,L0,ah _,?_⟩
 ·unfold ae Tryz.f141
  try unfold kW
  simp only[go_sem,Nat.reduceBEq,Nat.reduceLeDiff,Nat.reduceLT,decide_true,Nat.reduceAdd,Nat.reduceSub,Nat.reduceMul,Int.reduceLE,Int.reduceLT,Int.reduceToNat,Int.reduceNeg,reduceCtorEq]
  all_goals exact cl
def x6 (ok:Bool)(e:Int):Unit:=(bif(!ok)then default else())
def cy (ok:Bool)(e:Int):Bool:=(bif(!ok)then false else true)
@[go_sem] def mC:List SV→Option Con:=(pB fun ok=>(pI fun e=>(pE (.may (cy ok e) (.tup []) (.iface 135 (.int .i64 e))))))
theorem oE:FnOk Tryz.prog 58 mC:=by
 have hG:ConsOk Tryz.prog (mkG [] []):=ay cg0 cg0
 refine aU [] mixed am hG (fn:=Tryz.f58) (c:=ae Tryz.f58) (by kernel_rfl) (by kernel_rfl) (by kernel_rfl) (by kernel_rfl) (ul fun ok=>(co fun e=>(aI (fun hp=>?_))))
 dsimp only[aG]at hp
 refine⟨Nat.le_of_ble_eq_true rfl,L0,ah _,?_⟩
 ·unfold ae Tryz.f58
  try unfold x6
  try unfold cy
  simp only[go_sem,Nat.reduceBEq,Nat.reduceLeDiff,Nat.reduceLT,decide_true,Nat.reduceAdd,Nat.reduceSub,Nat.reduceMul,Int.reduceLE,Int.reduceLT,Int.reduceToNat,Int.reduceNeg,reduceCtorEq]
  all_goals exact cl
@[go_sem] def bL (l_:List Int)(k_0:Nat)(s_0:Unit):Unit⊕Unit:=(bif(decide ((l_.getD (Int.toNat ((k_0:Int)+1)) (0:Int)) < (l_.getD (Int.toNat (IntKind.i64.wrap (((k_0:Int)+1) - 1))) (0:Int))))then .inl ()else .inr ())
def gC (l_:List Int)(k_0:Nat)(s_0:Unit):Prop:=(l_.length≤bv→((0≤((k_0:Int)+1)∧((k_0:Int)+1) < (l_.length:Int))∧(0≤(IntKind.i64.wrap (((k_0:Int)+1) - 1))∧(IntKind.i64.wrap (((k_0:Int)+1) - 1)) < (l_.length:Int))))
def ar (l_:List Int):Bool:=(match ak (bL l_) (l_.length - 1) 0 ()with| .inl x_0_0=>false| .inr s_0=>true)
def pt (l_:List Int):Prop:=okI (bL l_) (gC l_) (l_.length - 1) 0 ()
theorem uo (l_:List Int):pt l_:=iL _ _ _ fun j s h1 h2 hm=>by
 unfold bv at hm
 rw[aT (by omega) (by omega)]
 omega
@[go_sem] def jA:List SV→Option Con:=(pR .int fun l_=>(pE (.det True (.v (.bool (ar l_))))))
theorem kX:FnOk Tryz.prog 84 jA:=by
 have hG:ConsOk Tryz.prog (mkG [] []):=ay cg0 cg0
 refine aU [.o] mixed am hG (fn:=Tryz.f84) (c:=ae Tryz.f84) (by kernel_rfl) (by kernel_rfl) (by kernel_rfl) (by kernel_rfl) (dw fun l_=>(aI (fun hp=>?_)))
 dsimp only[aG]at hp
 have hp:=uo l_
 unfold pt at hp
 refine⟨Nat.le_of_ble_eq_true rfl,(fun id st=>bif Nat.beq id 0 then some (LC (ρ:=Unit) (σ:=Unit) (lk 0 st.t=.rs .int l_∧lk 3 st.t=.v (.int .i64 1)∧st.h=[]∧okI (bL l_) (gC l_) (l_.length - 1) 0 ()) (ak (bL l_) (l_.length - 1) 0 ()) (fun _=>.ret) (fun x_0_0=>⟨[(2,.v (.bool false))],[]⟩) (fun s_0=>⟨[],[]⟩))else none),?_,?_⟩
 ·unfold ae Tryz.f84
  simp only[al,true_and,and_true]
  ·refine F4 mixed am hG (by kernel_rfl) fun st lc hC hp=>?_
   simp only[go_sem,Nat.reduceBEq,Option.some.injEq]at hC
   subst hC
   obtain⟨t,h⟩:=st
   dsimp only[LC]at hp
   obtain⟨e0_0,e0_1,rfl,hok0⟩:=hp
   refine⟨_,_,_,(bL l_),(gC l_),(l_.length - 1),(),_,_,_,(fun k_0 s_0=>⟨[(0,.rs .int l_),(3,.v (.int .i64 ((k_0:Int)+1)))],[]⟩),[],rfl,hok0,Nat.le_refl _,?_,fun k_0 s_0 hk0 hp0=>?_⟩
   ·simp only[go_sem,Nat.reduceBEq,Nat.reduceLeDiff,Nat.reduceLT,decide_true,Nat.reduceAdd,Nat.reduceSub,Nat.reduceMul,Int.reduceLE,Int.reduceLT,Int.reduceToNat,Int.reduceNeg,reduceCtorEq,e0_0,e0_1]
    all_goals (first|done|decide|(repeat' (first|refine And.intro ?_ ?_|rfl|decide)))
   refine⟨L0,?_,?_⟩
   ·simp only[al,and_self,true_and,and_true]
   ·by_cases hb0:l_.length≤bv
    rotate_left
    ·simp only[go_sem,Nat.reduceBEq,Nat.reduceLeDiff,Nat.reduceLT,decide_true,Nat.reduceAdd,Nat.reduceSub,Nat.reduceMul,Int.reduceLE,Int.reduceLT,Int.reduceToNat,Int.reduceNeg,reduceCtorEq,hb0]
    ·by_cases hlt0:k_0< (l_.length - 1)
     ·have hw0:IntKind.i64.wrap (((k_0:Nat):Int)+1+1)=((k_0+1:Nat):Int)+1:=by(have hbb:=hb0;have hll:=hlt0;try unfold bv at hbb);rw[aT (by omega) (by omega)];omega
      have hq0:=hp0 hlt0
      unfold gC at hq0
      replace hq0:=hq0 hb0
      try simp only[hw0,Int.toNat_natCast]at hq0
      have hc0:decide (((k_0:Int)+1) < (l_.length:Int))=true:=by simp only[decide_eq_true_eq];omega
      simp only[go_sem,Nat.reduceBEq,Nat.reduceLeDiff,Nat.reduceLT,decide_true,Nat.reduceAdd,Nat.reduceSub,Nat.reduceMul,Int.reduceLE,Int.reduceLT,Int.reduceToNat,Int.reduceNeg,reduceCtorEq,bL,hc0,hw0]
      all_goals exact cl
     ·have hc0:decide (((k_0:Int)+1) < (l_.length:Int))=false:=by simp only[decide_eq_false_iff_not];omega
      simp only[go_sem,Nat.reduceBEq,Nat.reduceLeDiff,Nat.reduceLT,decide_true,Nat.reduceAdd,Nat.reduceSub,Nat.reduceMul,Int.reduceLE,Int.reduceLT,Int.reduceToNat,Int.reduceNeg,reduceCtorEq,hc0]
      all_goals exact cl2
 ·unfold ae Tryz.f84
  try unfold ar
  simp only[go_sem,Nat.reduceBEq,Nat.reduceLeDiff,Nat.reduceLT,decide_true,Nat.reduceAdd,Nat.reduceSub,Nat.reduceMul,Int.reduceLE,Int.reduceLT,Int.reduceToNat,Int.reduceNeg,reduceCtorEq]
  all_goals exact cl
def bU (i:Int)(n:Int):Bool:=((decide (i≥0))&&(decide (i<n)))
@[go_sem] def kl:List SV→Option Con:=(pI fun i=>(pI fun n=>(pE (.det True (.v (.bool (bU i n)))))))
theorem mD:FnOk Tryz.prog 86 kl:=by
 have hG:ConsOk Tryz.prog (mkG [] []):=ay cg0 cg0
 refine aU [.o] mixed am hG (fn:=Tryz.f86) (c:=ae Tryz.f86) (by kernel_rfl) (by kernel_rfl) (by kernel_rfl) (by kernel_rfl) (co fun i=>(co fun n=>(aI (fun hp=>?_))))
 dsimp only[aG]at hp
 refine⟨Nat.le_of_ble_eq_true rfl,L0,ah _,?_⟩
 ·unfold ae Tryz.f86
  try unfold bU
  simp only[go_sem,Nat.reduceBEq,Nat.reduceLeDiff,Nat.reduceLT,decide_true,Nat.reduceAdd,Nat.reduceSub,Nat.reduceMul,Int.reduceLE,Int.reduceLT,Int.reduceToNat,Int.reduceNeg,reduceCtorEq]
  all_goals exact cl
def iM (x:Ratio×Ratio):Bool:=(((((kW x.1 x.2).2==0)&&(decide (x.1.n≥0)))&&(decide ((kW x.1 x.2).1≤0)))&&(decide (x.2.n≤x.2.d)))
@[go_sem] def qk:List SV→Option Con:=(pD .ratio2 fun x=>(pE (.det True (.v (.bool (iM x))))))
theorem vp:FnOk Tryz.prog 115 qk:=by
 have hG:ConsOk Tryz.prog (mkG [(141,uU)] []):=ay (cgc Ah cg0) cg0
 refine aU [.o] mixed am hG (fn:=Tryz.f115) (c:=ae Tryz.f115) (by kernel_rfl) (by kernel_rfl) (by kernel_rfl) (by kernel_rfl) (bb fun x=>(aI (fun hp=>?_)))
 dsimp only[aG]at hp
 refine⟨Nat.le_of_ble_eq_true rfl,L0,ah _,?_⟩
 ·unfold ae Tryz.f115
  try unfold iM
  simp only[go_sem,Nat.reduceBEq,Nat.reduceLeDiff,Nat.reduceLT,decide_true,Nat.reduceAdd,Nat.reduceSub,Nat.reduceMul,Int.reduceLE,Int.reduceLT,Int.reduceToNat,Int.reduceNeg,reduceCtorEq]
  all_goals exact cl
def fB (i:Int)(x:Reach):Bool:=(bif(decide (i > 0))then((((((bU x.up i)&&(ar ([1,x.delay,16])))&&(ar ([0,x.siphon,x.cap,1073741824])))&&(ar ([0,x.siphon,x.bank,1099511627776])))&&(ar ([0,x.evap.lo,x.evap.hi,1073741824])))&&(iM x.seep))else((((((x.up==(-1))&&(ar ([1,x.delay,16])))&&(ar ([0,x.siphon,x.cap,1073741824])))&&(ar ([0,x.siphon,x.bank,1099511627776])))&&(ar ([0,x.evap.lo,x.evap.hi,1073741824])))&&(iM x.seep)))
@[go_sem] def ql:List SV→Option Con:=(pI fun i=>(pD .reach fun x=>(pE (.det True (.v (.bool (fB i x)))))))
theorem vr:FnOk Tryz.prog 85 ql:=by
 have hG:ConsOk Tryz.prog (mkG [(84,fun l=>jA (cT [.sl .int] l)),(86,kl),(115,qk)] []):=ay (cgc (kX.norm [.sl .int]) (cgc mD (cgc vp cg0))) cg0
 refine aU [.o] mixed am hG (fn:=Tryz.f85) (c:=ae Tryz.f85) (by kernel_rfl) (by kernel_rfl) (by kernel_rfl) (by kernel_rfl) (co fun i=>(bb fun x=>(aI (fun hp=>?_))))
 dsimp only[aG]at hp
 refine⟨Nat.le_of_ble_eq_true rfl,L0,ah _,?_⟩
 ·unfold ae Tryz.f85
  try unfold fB
  simp only[go_sem,Nat.reduceBEq,Nat.reduceLeDiff,Nat.reduceLT,decide_true,Nat.reduceAdd,Nat.reduceSub,Nat.reduceMul,Int.reduceLE,Int.reduceLT,Int.reduceToNat,Int.reduceNeg,reduceCtorEq]
  all_goals exact cl
def fC (a0:District)(a1:Right):Bool:=(bif(((!(bU a1.farm (a0.farms.length:Int))) ||(!(bU a1.reach (a0.reaches.length:Int)))) ||(!(ar ([0,a1.since,a1.to,(IntKind.i64.wrap (a0.hours - 1))]))))then false else(bif(a1.kind==1)then((((a1.reach==0)&&(ar ([0,a1.rank,1048576])))&&(ar ([1,a1.litres,1073741824])))&&(ar ([1,a1.length,a1.every,a0.hours])))else(bif(a1.kind==2)then((a1.name==a1.name)&&((a1.kind==a1.kind)&&((a1.farm==a1.farm)&&((a1.reach==a1.reach)&&((a1.rank==0)&&((a1.litres==0)&&((a1.since==0)&&((a1.to==(IntKind.i64.wrap (a0.hours - 1)))&&((a1.every==0)&&(a1.length==0))))))))))else(bif(a1.kind==3)then((a1.name==a1.name)&&((a1.kind==a1.kind)&&((a1.farm==a1.farm)&&((a1.reach==a1.reach)&&((a1.rank==0)&&((a1.litres==0)&&((a1.since==a1.since)&&((a1.to==a1.to)&&((a1.every==0)&&(a1.length==0))))))))))else false))))
@[go_sem] def qm:List SV→Option Con:=(pD .district fun a0=>(pD .right fun a1=>(pE (.det True (.v (.bool (fC a0 a1)))))))
theorem vt:FnOk Tryz.prog 87 qm:=by
 have hG:ConsOk Tryz.prog (mkG [(84,fun l=>jA (cT [.sl .int] l)),(86,kl)] []):=ay (cgc (kX.norm [.sl .int]) (cgc mD cg0)) cg0
 refine aU [.o] mixed am hG (fn:=Tryz.f87) (c:=ae Tryz.f87) (by kernel_rfl) (by kernel_rfl) (by kernel_rfl) (by kernel_rfl) (bb fun a0=>(bb fun a1=>(aI (fun hp=>?_))))
 dsimp only[aG]at hp
 refine⟨Nat.le_of_ble_eq_true rfl,L0,ah _,?_⟩
 ·unfold ae Tryz.f87
  try unfold fC
  simp only[go_sem,Nat.reduceBEq,Nat.reduceLeDiff,Nat.reduceLT,decide_true,Nat.reduceAdd,Nat.reduceSub,Nat.reduceMul,Int.reduceLE,Int.reduceLT,Int.reduceToNat,Int.reduceNeg,reduceCtorEq]
  all_goals exact cl
@[go_sem] def cF (a0:District)(a1:Int)(k_0:Nat)(s_0:Unit):Unit⊕Unit:=(bif(cy (fB (k_0:Int) (a0.reaches.getD k_0 (default:Reach))) a1)then .inr ()else .inl ())
@[go_sem] def c5 (a0:District)(a1:Int)(k_1:Nat)(s_1:Unit):Unit⊕Unit:=(bif(cy (ar ([0,(a0.crops.getD k_1 (default:Crop)).need,1048576])) a1)then .inr ()else .inl ())
@[go_sem] def cG (a0:District)(a1:Int)(k_2:Nat)(s_2:Unit):Unit⊕Unit:=(bif(decide ((a0.farms.getD k_2 (default:Farm)).area > 0))then(bif(cy (((bU ((a0.farms.getD k_2 (default:Farm)).crop) (a0.crops.length:Int))&&(bU ((a0.farms.getD k_2 (default:Farm)).reach) (a0.reaches.length:Int)))&&(ar ([0,(a0.farms.getD k_2 (default:Farm)).area,1048576]))) a1)then .inr ()else .inl ())else(bif(cy ((((a0.farms.getD k_2 (default:Farm)).crop==(-1))&&(bU ((a0.farms.getD k_2 (default:Farm)).reach) (a0.reaches.length:Int)))&&(ar ([0,(a0.farms.getD k_2 (default:Farm)).area,1048576]))) a1)then .inr ()else .inl ()))
@[go_sem] def c6 (a0:District)(a1:Int)(k_3:Nat)(s_3:Unit):Unit⊕Unit:=(bif(cy (fC a0 (a0.rights.getD k_3 (default:Right))) a1)then .inr ()else .inl ())
@[go_sem] def dA (a0:District)(a1:Int)(k_4:Nat)(s_4:Unit):Unit⊕Unit:=(bif(cy (((bU ((a0.duties.getD k_4 (default:Duty)).farm) (a0.farms.length:Int))&&(bU ((a0.duties.getD k_4 (default:Duty)).reach) (a0.reaches.length:Int)))&&(ar ([0,(a0.duties.getD k_4 (default:Duty)).due,a0.hours]))) a1)then .inr ()else .inl ())
def w8 (a0:District)(a1:Int):Unit:=(bif(cy (((ar ([1,a0.hours,4096]))&&(ar ([0,a0.tank.start,a0.tank.cap,1099511627776])))&&(decide ((a0.reaches.length:Int) > 0))) a1)then(match ak (cF a0 a1) a0.reaches.length 0 ()with| .inl x_0_0=>default| .inr s_0=>(match ak (c5 a0 a1) a0.crops.length 0 ()with| .inl x_1_0=>default| .inr s_1=>(match ak (cG a0 a1) a0.farms.length 0 ()with| .inl x_2_0=>default| .inr s_2=>(match ak (c6 a0 a1) a0.rights.length 0 ()with| .inl x_3_0=>default| .inr s_3=>(match ak (dA a0 a1) a0.duties.length 0 ()with| .inl x_4_0=>default| .inr s_4=>())))))else default)
def c7 (a0:District)(a1:Int):Bool:=(bif(cy (((ar ([1,a0.hours,4096]))&&(ar ([0,a0.tank.start,a0.tank.cap,1099511627776])))&&(decide ((a0.reaches.length:Int) > 0))) a1)then(match ak (cF a0 a1) a0.reaches.length 0 ()with| .inl x_0_0=>false| .inr s_0=>(match ak (c5 a0 a1) a0.crops.length 0 ()with| .inl x_1_0=>false| .inr s_1=>(match ak (cG a0 a1) a0.farms.length 0 ()with| .inl x_2_0=>false| .inr s_2=>(match ak (c6 a0 a1) a0.rights.length 0 ()with| .inl x_3_0=>false| .inr s_3=>(match ak (dA a0 a1) a0.duties.length 0 ()with| .inl x_4_0=>false| .inr s_4=>true)))))else false)
@[go_sem] def oF:List SV→Option Con:=(pD .district fun a0=>(pI fun a1=>(pE (.may (c7 a0 a1) (.tup []) (.iface 135 (.int .i64 a1))))))
theorem tb:FnOk Tryz.prog 59 oF:=by
 have hG:ConsOk Tryz.prog (mkG [(58,mC),(84,fun l=>jA (cT [.sl .int] l)),(85,ql),(86,kl),(87,fun l=>qm (cT [.st .district,.st .right] l))] []):=ay (cgc oE (cgc (kX.norm [.sl .int]) (cgc vr (cgc mD (cgc (vt.norm [.st .district,.st .right]) cg0))))) cg0
 refine aU [] mixed am hG (fn:=Tryz.f59) (c:=ae Tryz.f59) (by kernel_rfl) (by kernel_rfl) (by kernel_rfl) (by kernel_rfl) (bb fun a0=>(co fun a1=>(aI (fun hp=>?_))))
 dsimp only[aG]at hp
 refine⟨Nat.le_of_ble_eq_true rfl,(fun id st=>bif Nat.beq id 0 then some (LCR (ρ:=Unit) (σ:=Unit) 1 [] [0] (fun k_0 s_0=>⟨[(1,.v (.int .i64 a1)),(2,.ptr 0 0),(38,.rs .reach a0.reaches),(39,.v (.int .i64 (a0.reaches.length:Int))),(40,.v (.int .i64 (k_0:Int)))],[.cells (cellsOf .district a0)]⟩) (cF a0 a1) pT a0.reaches.length () (a0.reaches.length≤bv) (fun _=>.pan (.iface 135 (.int .i64 a1))) (fun x_0_0=>⟨[],[.dead]⟩) st)else bif Nat.beq id 2 then some (LCR (ρ:=Unit) (σ:=Unit) 1 [] [0] (fun k_1 s_1=>⟨[(1,.v (.int .i64 a1)),(2,.ptr 0 0),(52,.rs .crop a0.crops),(53,.v (.int .i64 (a0.crops.length:Int))),(54,.v (.int .i64 (k_1:Int)))],[.cells (cellsOf .district a0)]⟩) (c5 a0 a1) pT a0.crops.length () (a0.crops.length≤bv) (fun _=>.pan (.iface 135 (.int .i64 a1))) (fun x_1_0=>⟨[],[.dead]⟩) st)else bif Nat.beq id 4 then some (LCR (ρ:=Unit) (σ:=Unit) 1 [] [0] (fun k_2 s_2=>⟨[(1,.v (.int .i64 a1)),(2,.ptr 0 0),(66,.rs .farm a0.farms),(67,.v (.int .i64 (a0.farms.length:Int))),(68,.v (.int .i64 (k_2:Int)))],[.cells (cellsOf .district a0)]⟩) (cG a0 a1) pT a0.farms.length () (a0.farms.length≤bv) (fun _=>.pan (.iface 135 (.int .i64 a1))) (fun x_2_0=>⟨[],[.dead]⟩) st)else bif Nat.beq id 6 then some (LCR (ρ:=Unit) (σ:=Unit) 1 [] [0] (fun k_3 s_3=>⟨[(1,.v (.int .i64 a1)),(2,.ptr 0 0),(103,.rs .right a0.rights),(104,.v (.int .i64 (a0.rights.length:Int))),(105,.v (.int .i64 (k_3:Int)))],[.cells (cellsOf .district a0)]⟩) (c6 a0 a1) pT a0.rights.length () (a0.rights.length≤bv) (fun _=>.pan (.iface 135 (.int .i64 a1))) (fun x_3_0=>⟨[],[.dead]⟩) st)else bif Nat.beq id 8 then some (LCR (ρ:=Unit) (σ:=Unit) 1 [] [0] (fun k_4 s_4=>⟨[(1,.v (.int .i64 a1)),(2,.ptr 0 0),(116,.rs .duty a0.duties),(117,.v (.int .i64 (a0.duties.length:Int))),(118,.v (.int .i64 (k_4:Int)))],[.cells (cellsOf .district a0)]⟩) (dA a0 a1) pT a0.duties.length () (a0.duties.length≤bv) (fun _=>.pan (.iface 135 (.int .i64 a1))) (fun x_4_0=>⟨[],[.dead]⟩) st)else none),?_,?_⟩
 ·unfold ae Tryz.f59
  simp only[al,true_and,and_true]
  refine⟨?_,?_,?_,?_,?_⟩
  ·refine eh mixed am hG (by kernel_rfl) (fun _=>rfl) (a0.reaches.length:Int) rfl gM (fun hb0 k_0 s_0 hlt0 _ hw hc=>⟨L0,ah _,?_⟩) (fun hb0 s_0 hc=>?_)
   ·exact fS
   ·exact fT
  ·refine eh mixed am hG (by kernel_rfl) (fun _=>rfl) (a0.crops.length:Int) rfl gM (fun hb1 k_1 s_1 hlt1 _ hw hc=>⟨L0,ah _,?_⟩) (fun hb1 s_1 hc=>?_)
   ·exact fS
   ·exact fT
  ·refine eh mixed am hG (by kernel_rfl) (fun _=>rfl) (a0.farms.length:Int) rfl gM (fun hb2 k_2 s_2 hlt2 _ hw hc=>⟨L0,ah _,?_⟩) (fun hb2 s_2 hc=>?_)
   ·exact fS
   ·exact fT
  ·refine eh mixed am hG (by kernel_rfl) (fun _=>rfl) (a0.rights.length:Int) rfl gM (fun hb3 k_3 s_3 hlt3 _ hw hc=>⟨L0,ah _,?_⟩) (fun hb3 s_3 hc=>?_)
   ·exact fS
   ·exact fT
  ·refine eh mixed am hG (by kernel_rfl) (fun _=>rfl) (a0.duties.length:Int) rfl gM (fun hb4 k_4 s_4 hlt4 _ hw hc=>⟨L0,ah _,?_⟩) (fun hb4 s_4 hc=>?_)
   ·exact fS
   ·exact fT
 ·unfold ae Tryz.f59
  try unfold w8
  try unfold c7
  simp only[go_sem,Nat.reduceBEq,Nat.reduceLeDiff,Nat.reduceLT,decide_true,Nat.reduceAdd,Nat.reduceSub,Nat.reduceMul,Int.reduceLE,Int.reduceLT,Int.reduceToNat,Int.reduceNeg,reduceCtorEq]
  all_goals exact cl
def aV (d:District):Int:=(bif(cy (((((decide ((d.reaches.length:Int)≤64))&&(decide ((d.farms.length:Int)≤600)))&&(decide ((d.crops.length:Int)≤32)))&&(decide ((d.rights.length:Int)≤256)))&&(decide ((d.duties.length:Int)≤256))) 2)then(bif(c7 d 191)then 0 else 191)else 2)
@[go_sem] def qn:List SV→Option Con:=(pD .district fun d=>(pE (.det True (.v (.int .i64 (aV d))))))
theorem vv:FnOk Tryz.prog 24 qn:=by
 have hG:ConsOk Tryz.prog (mkG [(58,mC),(59,fun l=>oF (cT [.st .district,.o] l))] []):=ay (cgc oE (cgc (tb.norm [.st .district,.o]) cg0)) cg0
 refine NW H2 [.o] mixed am hG (fn:=Tryz.f24) (c0:=F6 (ae Tryz.f24)) (c1:=DF (DF (ae Tryz.f24))) (i1:=regI (F6 (DF (ae Tryz.f24)))) (o1:=R7 0 (F6 (DF (ae Tryz.f24)))) (o2:=R7 1 (F6 (DF (ae Tryz.f24)))) (t3:=3) (q:=2) (tys:= #[]) (by kernel_rfl) (by kernel_rfl) (by kernel_rfl) (by refine⟨?_,?_,?_⟩ <;>kernel_rfl) (by refine⟨?_,?_,?_⟩ <;>kernel_rfl) (Nat.le_of_ble_eq_true rfl) (by kernel_rfl) (by kernel_rfl) (bb fun d=>(aI (fun hp=>?_)))
 dsimp only[aG]at hp
 refine⟨Nat.le_of_ble_eq_true rfl,L0,L0,1,?_,?_,?_⟩
 ·unfold ae Tryz.f24
  simp only[F6,al,and_self,true_and,and_true]
 ·unfold ae Tryz.f24
  simp only[DF]
  simp only[al,and_self,true_and,and_true]
 ·unfold ae Tryz.f24
  try unfold aV
  simp only[go_sem,Nat.reduceBEq,Nat.reduceLeDiff,Nat.reduceLT,decide_true,Nat.reduceAdd,Nat.reduceSub,Nat.reduceMul,Int.reduceLE,Int.reduceLT,Int.reduceToNat,Int.reduceNeg,reduceCtorEq,F6,DF,N0]
  all_goals exact cl
end Go.Sx
end
