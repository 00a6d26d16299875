/- Part of the proof that the law RegisterDivided returns true and leaves its arguments as they were, for all arguments of bulk at most 1048576 (the Upto form). -/
import Derived.Test.YthcbieoehjhjfaaGreatC606
import Derived.RecoverIn
import Derived.Laws.Pointers
import Derived.Test.YthcbieoehjhjfaaGreatProg
set_option linter.all false
set_option maxHeartbeats 4000000
section
namespace Go.Sx
open Go.RowKit
def okI {ρ σ:Type}(step:Nat→σ→ρ⊕σ)(p:Nat→σ→Prop):Nat→Nat→σ→Prop
 |0,_,_=>True
 |n+1,i,s=>p i s∧∀ s',step i s=.inr s'→okI step p n (i+1) s'
theorem nM {ρ σ:Type}{step:Nat→σ→ρ⊕σ}{p:Nat→σ→Prop}:∀ (n i:Nat) (s:σ),(∀ j s,i≤j→j<i+n→p j s)→okI step p n i s
 |0,_,_,_=>trivial
 |n+1,i,s,h=>⟨h i s (Nat.le_refl _) (by omega),fun s' _=>nM n (i+1) s' fun j s h1 h2=>h j s (by omega) (by omega)⟩
theorem wn {ρ σ:Type}{step:Nat→σ→ρ⊕σ}{p:Nat→σ→Prop}(J:Nat→σ→Prop):∀ (n i:Nat) (s:σ),J i s→(∀ j s,i≤j→j<i+n→J j s→p j s∧∀ s',step j s=.inr s'→J (j+1) s')→okI step p n i s
 |0,_,_,_,_=>trivial
 |n+1,i,s,h0,h=>⟨(h i s (Nat.le_refl _) (by omega) h0).1,fun s' hs=>wn J n (i+1) s' ((h i s (Nat.le_refl _) (by omega) h0).2 s' hs) fun j s h1 h2=>h j s (by omega) (by omega)⟩
theorem tw {ρ σ:Type}{step:Nat→σ→ρ⊕σ}(J:Nat→σ→Prop):∀ (n i:Nat) (s:σ),J i s→(∀ j s,i≤j→j<i+n→J j s→∀ s',step j s=.inr s'→J (j+1) s')→∀ r,ay step n i s=.inr r→J (i+n) r
 |0,i,s,h0,_,r,hr=>by simp only[ay,Sum.inr.injEq]at hr;subst hr;exact h0
 |n+1,i,s,h0,h,r,hr=>by
  simp only[ay]at hr
  cases hs:step i s with
  |inl x=>rw[hs]at hr;cases hr
  |inr s'=>
   rw[hs]at hr
   have:=tw J n (i+1) s' (h i s (Nat.le_refl _) (by omega) h0 s' hs) (fun j s h1 h2=>h j s (by omega) (by omega)) r hr
   rw[show i+(n+1)=i+1+n by omega];exact this
section
variable {P:Program}{ρ σ:Type}
def xX (D:Nat→σ→St)(js:List Nat)(n0 k:Nat)(st:St):ρ⊕σ→Prop
 | .inl _=>False
 | .inr s'=>n0≤(D (k+1) s').h.length∧Sub js n0 st (D (k+1) s')
def exQ (exE:ρ→Ex)(outE:ρ→St)(js:List Nat)(n0:Nat)(e:Ex)(st:St):ρ⊕σ→Prop
 | .inl x=>exE x=e∧n0≤(outE x).h.length∧Sub js n0 st (outE x)
 | .inr _=>False
def cQ (step:Nat→σ→ρ⊕σ)(n:Nat)(exE:ρ→Ex)(outE:ρ→St)(outN:σ→St)(D:Nat→σ→St)(js:List Nat)(n0 id k:Nat)(s:σ):Ex→St→Prop
 | .normal,st=>k<n∧xX D js n0 k st (step k s)
 | .exit j,st=>bif Nat.beq j id then(n≤k→n0≤(outN s).h.length∧Sub js n0 st (outN s))∧(k<n→exQ exE outE js n0 .normal st (step k s))else k<n∧exQ exE outE js n0 (.exit j) st (step k s)
 | .ret,st=>k<n∧exQ exE outE js n0 .ret st (step k s)
 | .pan x,st=>k<n∧exQ exE outE js n0 (.pan x) st (step k s)
variable {step:Nat→σ→ρ⊕σ}{n n0 id k j:Nat}{exE:ρ→Ex}{outE:ρ→St}{outN:σ→St}{D:Nat→σ→St}{js:List Nat}{s s':σ}{st:St}{x:Value}{e:Ex}{y:ρ}
@[go_sem] theorem L7:xX (ρ:=ρ) D js n0 k st (.inr s')=(n0≤(D (k+1) s').h.length∧Sub js n0 st (D (k+1) s')):=(rfl)
@[go_sem] theorem Pu:exQ (σ:=σ) exE outE js n0 e st (.inl y)=(exE y=e∧n0≤(outE y).h.length∧Sub js n0 st (outE y)):=(rfl)
@[go_sem] theorem L8:cQ step n exE outE outN D js n0 id k s .normal st=(k<n∧xX D js n0 k st (step k s)):=(rfl)
@[go_sem] theorem Pv:cQ step n exE outE outN D js n0 id k s (.exit j) st=bif Nat.beq j id then(n≤k→n0≤(outN s).h.length∧Sub js n0 st (outN s))∧(k<n→exQ exE outE js n0 .normal st (step k s))else k<n∧exQ exE outE js n0 (.exit j) st (step k s):=(rfl)
@[go_sem] theorem Qb:cQ step n exE outE outN D js n0 id k s .ret st=(k<n∧exQ exE outE js n0 .ret st (step k s)):=(rfl)
@[go_sem] theorem Qc:cQ step n exE outE outN D js n0 id k s (.pan x) st=(k<n∧exQ exE outE js n0 (.pan x) st (step k s)):=(rfl)
@[congr] theorem Ic {r r':ρ⊕σ}(h:r=r'):xX D js n0 k st r=xX D js n0 k st r':=by rw[h]
@[congr] theorem L9 {r r':ρ⊕σ}(h:r=r'):exQ exE outE js n0 e st r=exQ exE outE js n0 e st r':=by rw[h]
@[congr] theorem NK {st st':St}{e e':Ex}(h:st=st')(he:e=e'):cQ step n exE outE outN D js n0 id k s e st=cQ step n exE outE outN D js n0 id k s e' st':=by rw[h,he]
theorem B7 {ts:Tis}{G:Cons}{ro:Option Nat}{N:Nat}(hm:P.follows .mixedOrders=true)(hts:ts.ok P)(hG:ConsOk P G){id:Nat}{c:Code}(hc:cd N c=true){C:St→Option LCon}
  (h:∀ st lc,C st=some lc→lc.pre→∃ (ρ σ:Type) (pre:Prop) (step:Nat→σ→ρ⊕σ) (p:Nat→σ→Prop) (n:Nat) (s0:σ) (exE:ρ→Ex) (outE:ρ→St) (outN:σ→St) (D:Nat→σ→St) (js:List Nat),
   lc=LC pre (ay step n 0 s0) exE outE outN∧okI step p n 0 s0∧st.h.length≤(D 0 s0).h.length∧Sub js st.h.length st (D 0 s0)∧
   ∀ k s,k≤n→(k<n→p k s)→∃ L,aw P ro N L c∧exec ts G L c (D k s) (cQ step n exE outE outN D js st.h.length id k s)):gF P ro N id (.loop c) C:=by
 refine xR hm hts hG hc fun st lc hC hp=>?_
 obtain⟨ρ,σ,pre,step,p,n,s0,exE,outE,outN,D,js,rfl,h1,h2,h3,h4⟩:=h st lc hC hp
 refine⟨Nat×σ,fun x=>D x.1 x.2,fun x=>x.1≤n∧okI step p (n - x.1) x.1 x.2∧ay step (n - x.1) x.1 x.2=ay step n 0 s0,fun x=>n - x.1,(0,s0),js,⟨Nat.zero_le _,by simpa using h1,by simp⟩,h2,h3,?_⟩
 rintro⟨k,s⟩ ⟨hk,hJ,hrun⟩
 simp only at hk hJ hrun
 obtain⟨L,hl,hex⟩:=h4 k s hk (fun hlt=>by
  rw[show n - k=(n - k - 1)+1 by omega]at hJ
  exact hJ.1)
 refine⟨L,_,hl,?_,hex⟩
 have hfin:∀ e st',k<n→exQ exE outE js st.h.length e st' (step k s)→∃ r js,(LC pre (ay step n 0 s0) exE outE outN).post r∧(LC pre (ay step n 0 s0) exE outE outN).ex r=e∧st.h.length≤((LC pre (ay step n 0 s0) exE outE outN).out r).h.length∧Sub js st.h.length st' ((LC pre (ay step n 0 s0) exE outE outN).out r):=by
  intro e st' hlt q
  cases hs:step k s with
  |inr s'=>rw[hs]at q;exact q.elim
  |inl x=>
   rw[hs]at q
   obtain⟨q2,q3,q4⟩:=q
   rw[show n - k=(n - k - 1)+1 by omega]at hrun
   simp only[ay,hs]at hrun
   exact⟨.inl x,js,hrun,q2,q3,q4⟩
 intro e st' hq
 cases e with
 |normal=>
  obtain⟨q1,q2⟩:=hq
  cases hs:step k s with
  |inl x=>rw[hs]at q2;exact q2.elim
  |inr s'=>
   rw[hs]at q2
   rw[show n - k=(n - (k+1))+1 by omega]at hrun hJ
   simp only[ay,hs]at hrun
   exact⟨(k+1,s'),js,⟨q1,hJ.2 s' hs,hrun⟩,by simp only;omega,q2.1,q2.2⟩
 |exit j=>
  have hq':(bif Nat.beq j id then(n≤k→st.h.length≤(outN s).h.length∧Sub js st.h.length st' (outN s))∧(k<n→exQ exE outE js st.h.length .normal st' (step k s))else k<n∧exQ exE outE js st.h.length (.exit j) st' (step k s)):=hq
  show bif Nat.beq j id then _ else _
  cases hb:Nat.beq j id with
  |true=>
   rw[hb]at hq'
   simp only[cond_true]at hq' ⊢
   by_cases hlt:k<n
   ·exact hfin _ _ hlt (hq'.2 hlt)
   ·obtain⟨q3,q4⟩:=hq'.1 (by omega)
    have hkn:k=n:=by omega
    subst hkn
    simp only[Nat.sub_self,ay]at hrun
    exact⟨.inr s,js,hrun,rfl,q3,q4⟩
  |false=>rw[hb]at hq';exact hfin _ _ hq'.1 hq'.2
 |ret=>exact hfin _ _ hq.1 hq.2
 |pan x=>exact hfin _ _ hq.1 hq.2
end
def b8 {ρ σ:Type}[Inhabited σ]:ρ⊕σ→σ| .inr s=>s| .inl _=>default
def cq {ρ σ:Type}[Inhabited ρ]:ρ⊕σ→ρ| .inl s=>s| .inr _=>default
@[go_sem] theorem DK {ρ σ:Type}[Inhabited σ]{s:σ}:b8 (ρ:=ρ) (.inr s)=s:=(rfl)
@[go_sem] theorem DL {ρ σ:Type}[Inhabited ρ]{s:ρ}:cq (σ:=σ) (.inl s)=s:=(rfl)
theorem DM {k:Nat}{n:Int}(h:k<n.toNat)(hn:n<9223372036854775808):IntKind.i64.wrap ((k:Int)+1)=((k+1:Nat):Int):=by
 rw[bK (by omega) (by omega)];omega
end Go.Sx
end
section
namespace Go.Sx
open Go.RowKit
def nZ (pks:List Pk):SV→SV
 | .tup l=>.tup (dN pks l)
 |s=>match pks with| [p] =>qs p s|_=>s
section
variable {F:Nat→Prop}{own:Own}{w:World}
theorem xY {pks:List Pk}{s:SV}{v:Value}(h:Rel F own w s v):Rel F own w (nZ pks s) v:=by
 unfold nZ
 split
 ·cases h with
  |tup h0 h1=>
   refine .tup (by rw[tt];exact h0) fun j s hj=>?_
   obtain⟨s0,e1,e2| ⟨p,e2⟩⟩:=tu _ _ _ _ hj
   ·subst e2;exact h1 j _ e1
   ·subst e2;exact tq (h1 j _ e1)
 ·split
  ·exact tq h
  ·exact h
@[go_sem] theorem NL {pks:List Pk}{l:List SV}:nZ pks (.tup l)=.tup (dN pks l):=(rfl)
@[go_sem] theorem NM {p:Pk}{l:List SV}:nZ [p] (.agg l)=qs p (.agg l):=(rfl)
@[go_sem] theorem Qd {p:Pk}{x:Value}:nZ [p] (.v x)=qs p (.v x):=(rfl)
@[go_sem] theorem Pw {p:Pk}{k:Tag}{l:List k.T}:nZ [p] (.rs k l)=qs p (.rs k l):=(rfl)
@[go_sem] theorem Px {p:Pk}{k k2:Tag}{l:List (k.T×k2.T)}:nZ [p] (.rm k k2 l)=qs p (.rm k k2 l):=(rfl)
@[go_sem] theorem Py {p:Pk}:nZ [p] .e0=qs p .e0:=(rfl)
end
section
variable {P:Program}{ts:Tis}{G:Cons}
theorem cr (pks:List Pk) (hm:P.follows .mixedOrders=true) (hts:ts.ok P) (hG:ConsOk P G) {f:FuncId} {fn:Func} {c:Code} (hf:P.funcs[f]? =some fn) (hb:fn.body=some c) (hname:(fn.name== "runtime.NumGoroutine")=false)
  (hc:cd fn.ntmps c=true) {C:List SV→Option Con}
  (h:∀ l con,C l=some con→bp con→l.length≤fn.ntmps∧∃ L,aw P none fn.ntmps L c∧exec ts G L c ⟨ir 0 l,[]⟩ (xf false fn.results.toList ts (fun s=>cO con (nZ pks s)) (ia con))):FnOk P f C:=by
 refine⟨fun l con _ args w=>?_,fun l con hcon hpre F w vs hF hvs=>?_⟩
 ·have hn:¬fn.name= "runtime.NumGoroutine":=by simpa using hname
  simp[callFunc,hf,hn,hb]
 ·obtain⟨hlen,L,hl,hx⟩:=h l con hcon hpre
  refine kv (n:=0) (callsIn_of_wp_marks hf hb trivial ?_)
  have hr:StRel F { w:=w,own:=ce} fn.ntmps ce ⟨ir 0 l,[]⟩ { tmps:=vs++Array.replicate (fn.ntmps - vs.size) undef,defers:=[]} w:=
   ⟨by have:=hvs.1;simp;omega,Dfr.nil,py hF,Fr.refl _,fun t=>jB hvs _ t⟩
  refine wpIn_mono (jY hm hts hG c hc hl F _ _ hx ce _ w hr) ?_
  intro e a' w' hq
  have key:∀ F1 own st,(∀ b,F b→F1 b)→StRel F1 { w:=w,own:=ce} fn.ntmps own st a' w'→db (fun s=>cO con (nZ pks s)) (oE false fn.results.toList ts st)→LeavesInM (rd none) 0 P fn a'.tmps
    (fun e w'=>(∃ s u own',cO con s∧e=.returned u∧Handed F w own' w' s u∧Below w.heap.size w w')∨(∃ x,ia con x∧e=.panicked [{ v:=x,recovered:=false}]∧Below w.heap.size w w')) a'.defers .returning w':=by
   intro F1 own st hF1 hst hdone
   refine gQ hst (by simp) fun w2 hst2=>?_
   have hst3:=hst2.less hF1 rfl
   simp only[oE,cond_false,pa]at hdone
   cases hs:iS (g_ ts st fn.results.toList)with
   |none=>rw[hs]at hdone;exact hdone.elim
   |some s=>
    obtain⟨u,e1,e2⟩:=px (P:=P) hts hst3 hs
    refine⟨u,e1,.inl ?_⟩
    rw[hs]at hdone
    exact⟨_,u,ce,hdone,rfl,ni hst3.hp.foreign (xY (nK hst3.hp 4 s u e2)),jA hst3.fr⟩
  cases e with
  |normal=>obtain⟨F1,own,st,h0,h1,h2⟩:=hq;exact key F1 own st h0 h1 h2
  |ret=>obtain⟨F1,own,st,h0,h1,h2⟩:=hq;exact key F1 own st h0 h1 h2
  |exit id=>obtain⟨F1,own,st,h0,h1,h2⟩:=hq;exact h2.elim
  |panic ch=>
   obtain⟨x,F1,own,st,h0,h1,h2,rfl⟩:=hq
   exact gQ h1 (by simp) fun w2 hst2=>.inr ⟨x,h2,rfl,jA hst2.fr⟩
  |_=>exact hq.elim
end
end Go.Sx
end
section
namespace Go.Sx
open Go.RowKit
theorem oO {o:Ob}(ho:Au o=false):∀ (h:List Ob) (i:Nat),gE h=false→gE (bu h i o)=false
 | [],0,_=>by simp[bu,gE,ho]
 | [],n+1,_=>by simp[bu,gE,Au,oO ho [] n rfl]
 |a::r,0,h=>by simp only[gE,Bool.or_eq_false_iff]at h;simp[bu,gE,ho,h.2]
 |a::r,n+1,h=>by simp only[gE,Bool.or_eq_false_iff]at h;simp[bu,gE,h.1,oO ho r n h.2]
def Id (P:Program)(g:FuncId)(C:Value→Option SV):Prop:=
 (∀ (args:Array Value) (w:World),(callFunc g args).run P w=.ok (.enter g args) w)∧
 (∀ (p:Addr) (w:World),CallsDIn (rd none) 0 P g #[.pointer (some p)] .returning w (fun e u' w'=>(∃ v,e=.returned v)∧u'=.returning∧w'=w))∧
 ∀ (x:Value) (s:SV),C x=some s→∀ (F:Nat→Prop) (own:Own) (w:World) (h:List Ob) (id:Nat) (hd:Hd) (b:Nat) (y:SV),gE h=false→Hp F own w h→ag h id=.cells [y]→own id=some hd→hd.p=some b→
  CallsDIn (rd none) 0 P g #[.pointer (some ⟨b,0,none⟩)] (.panicking [{ v:=x,recovered:=false}]) w (fun e u' w'=>(∃ v,e=.returned v)∧u'=.panicking [{ v:=x,recovered:=true}]∧∃ own',Hp F own' w' (bu h id (.cells [s]))∧Fr { w:=w,own:=own} own' w')
section
variable {P:Program}{ts:Tis}{G:Cons}
theorem wo {n:Nat}{g:FuncId}{i1 t3 q:Nat}{o1 o2:Oper}{tys:Array TypeId}{Q:Exit→Act→World→Prop}{a:Act}{w:World}{b:Nat}
  (ho1:o1.dst=some t3∧o1.op=.makeFunc (.func g) #[] #[.tmp q]∧o1.guard=none) (ho2:o2.dst=none∧o2.op=.defer ⟨.value (.tmp t3),#[],tys⟩∧o2.guard=none)
  (hq:a.tmps.getD q undef=.pointer (some ⟨b,0,none⟩)) (ht3:t3<a.tmps.size)
  (h:Q .normal { tmps:=a.tmps.setIfInBounds t3 (.func (.func g) #[] #[.pointer (some ⟨b,0,none⟩)]),defers:= { target:=.fn (.func g) #[.pointer (some ⟨b,0,none⟩)],args:= #[]}::a.defers} w):
  (Code.region i1 #[o1,o2] false).wpIn (rd none) n P Q a w:=by
 obtain⟨d1,p1,t1,s1,f1,g1⟩:=o1
 obtain⟨d2,p2,t2,s2,f2,g2⟩:=o2
 obtain⟨rfl,rfl,rfl⟩:=ho1
 obtain⟨rfl,rfl,rfl⟩:=ho2
 refine wpIn_region ?_
 have hget:(a.tmps.setIfInBounds t3 (.func (.func g) #[] #[.pointer (some ⟨b,0,none⟩)])).getD t3 undef=.func (.func g) #[] #[.pointer (some ⟨b,0,none⟩)]:=by
  simp[Array.getD_eq_getD_getElem?,ht3]
 have hr1:List.range (#[(⟨some t3,.makeFunc (.func g) #[] #[.tmp q],t1,s1,f1,none⟩:Oper),(⟨none,.defer ⟨.value (.tmp t3),#[],tys⟩,t2,s2,f2,none⟩:Oper)]:Array Oper).size=[0,1]:=rfl
 rw[hr1]
 simp only[wpOpsIn,Oper.wpIn,Region.wanted]
 have e1:(#[(⟨some t3,.makeFunc (.func g) #[] #[.tmp q],t1,s1,f1,none⟩:Oper),(⟨none,.defer ⟨.value (.tmp t3),#[],tys⟩,t2,s2,f2,none⟩:Oper)]:Array Oper)[0]? =some ⟨some t3,.makeFunc (.func g) #[] #[.tmp q],t1,s1,f1,none⟩:=rfl
 have e2:(#[(⟨some t3,.makeFunc (.func g) #[] #[.tmp q],t1,s1,f1,none⟩:Oper),(⟨none,.defer ⟨.value (.tmp t3),#[],tys⟩,t2,s2,f2,none⟩:Oper)]:Array Oper)[1]? =some ⟨none,.defer ⟨.value (.tmp t3),#[],tys⟩,t2,s2,f2,none⟩:=rfl
 rw[e1,e2]
 simp only[if_true]
 refine⟨fun _ _=>trivial,?_⟩
 have r1:((⟨some t3,.makeFunc (.func g) #[] #[.tmp q],t1,s1,f1,none⟩:Oper).semAt (rd none).round a.eval).run P w=.ok (.value (.func (.func g) #[] #[.pointer (some ⟨b,0,none⟩)])) w:=by
  simp[Oper.semAt,execOp,go_sem,Act.eval,hq]
  try rfl
 rw[r1]
 simp only[Oper.uponIn_value]
 refine⟨fun _ _=>trivial,?_⟩
 have r2:((⟨none,.defer ⟨.value (.tmp t3),#[],tys⟩,t2,s2,f2,none⟩:Oper).semAt (rd none).round (a.put (some t3) (.func (.func g) #[] #[.pointer (some ⟨b,0,none⟩)])).eval).run P w=.ok (.defer { target:=.fn (.func g) #[.pointer (some ⟨b,0,none⟩)],args:= #[]}) w:=by
  simp[Oper.semAt,execOp,go_sem,Act.eval,Act.put,hget]
  try rfl
 rw[r2]
 simp only[Oper.uponIn_defer]
 exact h
theorem zK {F:Nat→Prop}{w0:Bs}{ro:Option Nat}{nd N:Nat}(hm:P.follows .mixedOrders=true)(hts:ts.ok P)(hG:ConsOk P G){id:Nat}{ops:Array Oper}(hc:cd N (.region id ops false)=true){st:St}{Q:St→Prop}{L:mA}(hx:exec ts G L (.region id ops false) st (fun e st=>e=.normal∧Q st))
  {own:Own} {a:Act} {w:World} (hr:StRel F w0 N own st a w):(Code.region id ops false).wpIn (rd ro) nd P (fun e a w=>e=.normal∧∃ own st,StRel F w0 N own st a w∧Q st) a w:=by
 have hx':sF (ri ts G ops false st) (fun e st=>e=.normal∧Q st) (L (id+2000000) st):=hx
 have key:∀ Q:Ex→St→Prop,(∀ x st,¬Q (.pan x) st)→ri ts G ops false st Q→(Code.region id ops false).wpIn (rd ro) nd P (fun e a w=>e=.normal∧∃ own st,StRel F w0 N own st a w∧Q .normal st) a w:=by
  intro Q hpan hx'
  simp only[cd,Bool.and_eq_true]at hc
  obtain⟨h1,h2⟩:=hc
  have hrok:=Dc h1
  obtain⟨l⟩:=ops
  have hx':eF ts G l l st (fun st'=>Q .normal (mU l st')) (fun x st'=>Q (.pan x) st'):=hx'
  refine wpIn_region_list ?_
  exact zi (K:=fun st'=>Q .normal (mU l st')) (Z:=fun x st'=>Q (.pan x) st') hts hG hrok (fun x own st a w h1 h2=>(hpan x _ h2).elim) l 0 own st a w rfl (hr.start l fun k hk=>by omega) hx' fun own st a w hi hk=>⟨rfl,own,_,StRel.finish hi,hk⟩
 cases hlc:L (id+2000000) st with
 |none=>
  rw[hlc]at hx'
  refine wpIn_mono (key (fun e st=>e=.normal∧Q st) (fun x st h=>(by cases h.1)) hx') fun e a w ⟨h1,own,st,h2,h3⟩ =>⟨h1,own,st,h2,h3.2⟩
 |some lc=>
  rw[hlc]at hx'
  refine wpIn_mono (key (MG lc fun e st=>e=.normal∧Q st) (fun x st h=>(by have h:Ex.pan x=.normal∧Q st:=h;cases h.1)) hx'.1) fun e a w ⟨h1,own,st,h2,r,h3,h4,h5⟩ =>⟨h1,own,_,h2.subJ h4 h5,(hx'.2 r h3).2⟩
def B8:Ob→Prop
 | .cells [_] =>True
 |_=>False
theorem DN {o:Ob}(h:B8 o):∃ y,o=.cells [y]:=by
 unfold B8 at h;split at h
 ·exact⟨_,rfl⟩
 ·exact h.elim
def Gd (rs:List ResultVar)(ts:Tis)(post:SV→Prop)(id:Nat)(st:St):Option SV→Prop
 |some s=>B8 (ag st.h id)∧gE st.h=false∧db post (pa rs ts ⟨st.t,bu st.h id (.cells [s])⟩)
 |none=>False
def Ge (C:Value→Option SV)(rs:List ResultVar)(ts:Tis)(post:SV→Prop)(id:Nat):Ex→St→Prop
 | .exit _,_=>False
 | .normal,st=>db post (pa rs ts st)
 | .ret,st=>db post (pa rs ts st)
 | .pan x,st=>Gd rs ts post id st (C x)
@[go_sem] theorem JK {y:SV}:B8 (.cells [y])=True:=(rfl)
@[go_sem] theorem L_ {rs:List ResultVar}{ts:Tis}{post:SV→Prop}{id:Nat}{st:St}{s:SV}:Gd rs ts post id st (some s)=(B8 (ag st.h id)∧gE st.h=false∧db post (pa rs ts ⟨st.t,bu st.h id (.cells [s])⟩)):=(rfl)
section
variable {C:Value→Option SV}{rs:List ResultVar}{ts:Tis}{post:SV→Prop}{id:Nat}{st:St}{x:Value}
@[go_sem] theorem Ie:Ge C rs ts post id .normal st=db post (pa rs ts st):=(rfl)
@[go_sem] theorem NN:Ge C rs ts post id .ret st=db post (pa rs ts st):=(rfl)
@[go_sem] theorem NO:Ge C rs ts post id (.pan x) st=Gd rs ts post id st (C x):=(rfl)
end
def B9:Code→Code| .seq a _=>a|c=>c
def zL:Code→Code| .seq _ b=>b|c=>c
def regI:Code→Nat| .region i _ _=>i|_=>0
def NP (i:Nat):Code→Oper| .region _ ops _=>ops.getD i default|_=>default
theorem JL {g:FuncId}{RC:Value→Option SV}(hrec:Id P g RC)(pks:List Pk)(hm:P.follows .mixedOrders=true)(hts:ts.ok P)(hG:ConsOk P G){f:FuncId}{fn:Func}{c0 c1:Code}{i1 t3 q:Nat}{o1 o2:Oper}{tys:Array TypeId}
  (hf:P.funcs[f]? =some fn) (hb:fn.body=some (.seq c0 (.seq (.region i1 #[o1,o2] false) c1))) (hname:(fn.name== "runtime.NumGoroutine")=false)
  (ho1:o1.dst=some t3∧o1.op=.makeFunc (.func g) #[] #[.tmp q]∧o1.guard=none) (ho2:o2.dst=none∧o2.op=.defer ⟨.value (.tmp t3),#[],tys⟩∧o2.guard=none) (ht3:t3<fn.ntmps)
  (hc0:cd fn.ntmps c0=true) (hc1:cd fn.ntmps c1=true) {C:List SV→Option Con}
  (h:∀ l con,C l=some con→bp con→l.length≤fn.ntmps∧∃ L L' id,aw P none fn.ntmps L c0∧aw P none fn.ntmps L' c1∧exec ts G L c0 ⟨ir 0 l,[]⟩ (fun e st=>e=.normal∧lk q st.t=.ptr id 0∧B8 (ag st.h id)∧
   exec ts G L' c1 ⟨(t3,.any)::st.t,st.h⟩ (Ge RC fn.results.toList ts (fun s=>cO con (nZ pks s)) id))):FnOk P f C:=by
 refine⟨fun l con _ args w=>?_,fun l con hcon hpre F w vs hF hvs=>?_⟩
 ·have hn:¬fn.name= "runtime.NumGoroutine":=by simpa using hname
  simp[callFunc,hf,hn,hb]
 ·obtain⟨hlen,L,L',id,hl,hl',hx⟩:=h l con hcon hpre
  refine kv (n:=0) (callsIn_of_wp_marks hf hb trivial ?_)
  have hr:StRel F { w:=w,own:=ce} fn.ntmps ce ⟨ir 0 l,[]⟩ { tmps:=vs++Array.replicate (fn.ntmps - vs.size) undef,defers:=[]} w:=
   ⟨by have:=hvs.1;simp;omega,Dfr.nil,py hF,Fr.refl _,fun t=>jB hvs _ t⟩
  refine wpIn_seq (wpIn_mono (jY hm hts hG c0 hc0 hl F _ _ hx ce _ w hr) ?_)
  intro e a1 w1 hq
  cases e with
  |normal=>
   obtain⟨F1,own1,st1,hF1,hst1,_,hlk,_,hx1⟩:=hq
   have hsq:=hst1.slots q
   rw[hlk]at hsq
   generalize hv:a1.tmps.getD q undef=pv at hsq
   cases hsq with
   | @ptr _ _ b hd ho hp=>
   show(Code.seq (.region i1 #[o1,o2] false) c1).wpIn (rd none) 0 P _ a1 w1
   have hsz:=hst1.size
   refine wpIn_seq (wo ho1 ho2 hv (by rw[hsz];exact ht3) ?_)
   show c1.wpIn (rd none) 0 P _ _ w1
   obtain⟨ms,Ds,k0,k1,k2,k3⟩:=hst1.defers
   have k0':a1.defers=ms:=by rw[k0];exact List.append_nil _
   let d:Deferred:= { target:=.fn (.func g) #[.pointer (some ⟨b,0,none⟩)],args:= #[]}
   let B:Bs:= { w:=w1,own:=own1,ds:=d::a1.defers}
   have hr2:StRel F1 B fn.ntmps own1 ⟨(t3,.any)::st1.t,st1.h⟩ { tmps:=a1.tmps.setIfInBounds t3 (.func (.func g) #[] #[.pointer (some ⟨b,0,none⟩)]),defers:=d::a1.defers} w1:=by
    refine⟨by simpa using hsz,Dfr.nil,hst1.hp,Fr.refl B,fun t=>?_⟩
    rw[iZ]
    by_cases ht:t3=t
    ·rw[if_pos ht];exact .any _
    ·rw[if_neg ht]
     have:=hst1.slots t
     simp only[Array.getD_eq_getD_getElem?,Array.getElem?_setIfInBounds,if_neg ht]
     simpa[Array.getD_eq_getD_getElem?]using this
   have hbd:∀ D∈Ds,¬ ∃ id hd,own1 id=some hd∧D∈hd.bs:=fun D hD ⟨i,hd,e,hm⟩ =>hst1.hp.apart i hd D e hm (k3 D hD).2.1
   have fin:∀ F2 own2 st2 (a2:Act) w2,(∀ b,F1 b→F2 b)→StRel F2 B fn.ntmps own2 st2 a2 w2→db (fun s=>cO con (nZ pks s)) (pa fn.results.toList ts st2)→
     LeavesInM (rd none) 0 P fn a2.tmps (fun e w'=>(∃ s u own',cO con s∧e=.returned u∧Handed F w own' w' s u∧Below w.heap.size w w')∨(∃ x,ia con x∧e=.panicked [{ v:=x,recovered:=false}]∧Below w.heap.size w w')) a1.defers .returning w2:=by
    intro F2 own2 st2 a2 w2 hF2 hst2 hdone
    have hB:StRel F2 { w:=w,own:=ce} fn.ntmps own2 st2 { a2 with defers:=[]} w2:=⟨hst2.size,Dfr.nil,hst2.hp,hst1.fr.trans ⟨hst2.fr.ids,hst2.fr.base,hst2.fr.os,hst2.fr.tape,hst2.fr.output,hst2.fr.size,hst2.fr.block⟩,hst2.slots⟩
    have hkeep:∀ D∈Ds,w2.heap[D]? =some (.deferred (some [])):=fun D hD=>by
     rw[hst2.fr.block D ⟨jf (k3 D hD).2.2,hbd D hD⟩];exact(k3 D hD).2.2
    rw[k0',←List.append_nil ms]
    refine qK (by simp) Ds ms w2 k1 k2 hkeep fun w4 hs=>?_
    have hst4:=(hB.shut (Ds:=Ds) (fun D hD=>⟨(k3 D hD).1,hF2 D (k3 D hD).2.1,hkeep D hD⟩) hs).less (fun c hc=>hF2 c (hF1 c hc)) rfl
    simp only[pa]at hdone
    cases hres:iS (g_ ts st2 fn.results.toList)with
    |none=>rw[hres]at hdone;exact hdone.elim
    |some s=>
     obtain⟨u,e1,e2⟩:=px (P:=P) hts hst4 hres
     rw[hres]at hdone
     exact⟨u,e1,.inl ⟨_,u,ce,hdone,rfl,ni hst4.hp.foreign (xY (nK hst4.hp 4 s u e2)),jA hst4.fr⟩⟩
   have hinv:∀ w2:World,(invoke (.fn (.func g) #[.pointer (some ⟨b,0,none⟩)]) #[]).run P w2=.ok (.enter g #[.pointer (some ⟨b,0,none⟩)]) w2:=fun w2=>by simp[invoke,go_sem,hrec.1]
   refine wpIn_mono (jY hm hts hG c1 hc1 hl' F1 _ _ hx1 own1 _ w1 hr2) ?_
   have idle:∀ (a':Act) (w':World) F2 own2 st2,(∀ b,F1 b→F2 b)→StRel F2 B fn.ntmps own2 st2 a' w'→db (fun s=>cO con (nZ pks s)) (pa fn.results.toList ts st2)→
     LeavesInM (rd none) 0 P fn a'.tmps (fun e w'=>(∃ s u own',cO con s∧e=.returned u∧Handed F w own' w' s u∧Below w.heap.size w w')∨(∃ x,ia con x∧e=.panicked [{ v:=x,recovered:=false}]∧Below w.heap.size w w')) a'.defers .returning w':=by
    intro a' w' F2 own2 st2 hF2 hst2 hdone
    refine gQ hst2 (by simp) fun w2 hst3=>?_
    refine⟨by simp,.inr ⟨fun h=>(by cases h),.func g,#[.pointer (some ⟨b,0,none⟩)],g,#[.pointer (some ⟨b,0,none⟩)],rfl,hinv w2,fun _ _=>trivial,?_⟩⟩
    refine(hrec.2.1 ⟨b,0,none⟩ w2).mono ?_
    rintro e u' w3 ⟨⟨v,rfl⟩,rfl,rfl⟩
    exact fin F2 own2 st2 { a' with defers:=B.ds} _ hF2 hst3 hdone
   intro e a' w' hq
   cases e with
   |normal=>obtain⟨F2,own2,st2,h0,h1,h2⟩:=hq;exact idle a' w' F2 own2 st2 h0 h1 h2
   |ret=>obtain⟨F2,own2,st2,h0,h1,h2⟩:=hq;exact idle a' w' F2 own2 st2 h0 h1 h2
   |exit jd=>obtain⟨F2,own2,st2,h0,h1,h2⟩:=hq;exact h2.elim
   |panic ch=>
    obtain⟨x,F2,own2,st2,h0,h1,hm,rfl⟩:=hq
    change Gd fn.results.toList ts _ id st2 (RC x)at hm
    cases m1:RC x with
    |none=>rw[m1]at hm;exact hm.elim
    |some s=>
    rw[m1]at hm
    obtain⟨hm2,m4,m3⟩:=hm
    obtain⟨y,m2⟩:=DN hm2
    refine gQ h1 (by simp) fun w2 hst3=>?_
    refine⟨by simp,.inr ⟨fun h=>(by cases h),.func g,#[.pointer (some ⟨b,0,none⟩)],g,#[.pointer (some ⟨b,0,none⟩)],rfl,hinv w2,fun _ _=>trivial,?_⟩⟩
    obtain⟨hd2,e2,l2⟩:=hst3.fr.ids id hd ho
    refine(hrec.2.2 x s m1 F2 own2 w2 st2.h id hd2 b y m4 hst3.hp m2 e2 (l2.1.trans hp)).mono ?_
    rintro e u' w3 ⟨⟨v,rfl⟩,rfl,own3,q1,q2⟩
    exact fin F2 own3 ⟨st2.t,_⟩ { a' with defers:=B.ds} w3 h0 (hst3.moved q1 q2) m3
   |_=>exact hq.elim
  |ret=>obtain⟨F1,own,st,h0,h1,h2,_⟩:=hq;cases h2
  |exit jd=>obtain⟨F1,own,st,h0,h1,h2,_⟩:=hq;cases h2
  |panic ch=>obtain⟨x,F1,own,st,h0,h1,⟨h2,_⟩,_⟩:=hq;cases h2
  |_=>exact hq.elim
end
end Go.Sx
end
section
namespace Go.Sx
open Go.Proofs
def ti3:TI:=⟨1,8,false,[(.v (.int .i64 0))],[],0,0,false,false,(some .int),(some .i64),false,[],none,none,1⟩
def ti4:TI:=⟨1,1,false,[(.v (.bool false))],[],0,0,false,false,(some .bool),none,false,[],none,none,3⟩
def ti5:TI:=⟨1,1,false,[(.v (.int .u8 0))],[],0,0,false,false,none,(some .u8),false,[],none,none,1⟩
def ti9:TI:=⟨1,16,false,[(.v (.string (ByteArray.mk #[])))],[],0,0,false,false,(some .str),none,false,[],none,none,2⟩
def Gf:TI:=⟨2,16,true,[(.v (.int .i64 0)),(.v (.int .i64 0))],[(0,(1,false)),(1,(1,false))],0,0,false,false,(some .tank),none,false,[1,1],none,none,0⟩
def Gg:TI:=⟨1,24,false,[(.v (.slice none 0 0))],[],113,0,true,false,none,none,false,[],none,none,0⟩
def Gh:TI:=⟨1,24,false,[(.v (.slice none 0 0))],[],115,0,true,false,none,none,false,[],none,none,0⟩
def Gi:TI:=⟨1,24,false,[(.v (.slice none 0 0))],[],140,0,true,false,none,none,false,[],none,none,0⟩
def Gj:TI:=⟨1,24,false,[(.v (.slice none 0 0))],[],58,0,true,false,none,none,false,[],none,none,0⟩
def Gk:TI:=⟨1,24,false,[(.v (.slice none 0 0))],[],144,0,true,false,none,none,false,[],none,none,0⟩
def Gl:TI:=⟨1,24,false,[(.v (.slice none 0 0))],[],214,0,true,false,none,none,false,[],none,none,0⟩
def Gm:TI:=⟨10,184,true,[(.v (.string (ByteArray.mk #[]))),(.v (.int .i64 0)),(.v (.int .i64 0)),(.v (.int .i64 0)),(.v (.slice none 0 0)),(.v (.slice none 0 0)),(.v (.slice none 0 0)),(.v (.slice none 0 0)),(.v (.slice none 0 0)),(.v (.slice none 0 0))],[(0,(1,false)),(1,(1,false)),(2,(2,true)),(4,(1,false)),(5,(1,false)),(6,(1,false)),(7,(1,false)),(8,(1,false)),(9,(1,false))],0,0,false,false,(some .district),none,false,[],none,none,0⟩
def Gn:TI:=⟨1,24,false,[(.v (.slice none 0 0))],[],35,0,true,false,none,none,false,[],none,none,0⟩
def Gp:TI:=⟨1,24,false,[(.v (.slice none 0 0))],[],71,0,true,false,none,none,false,[],none,none,0⟩
def Gq:TI:=⟨9,88,true,[(.v (.int .i64 0)),(.v (.int .i64 0)),(.v (.int .i64 0)),(.v (.int .i64 0)),(.v (.int .i64 0)),(.v (.slice none 0 0)),(.v (.int .i64 0)),(.v (.int .i64 0)),(.v (.int .i64 0))],[(0,(1,false)),(1,(1,false)),(2,(1,false)),(3,(1,false)),(4,(1,false)),(5,(1,false)),(6,(1,false)),(7,(1,false)),(8,(1,false))],0,0,false,false,(some .deed),none,false,[],none,none,0⟩
def Gr:TI:=⟨1,24,false,[(.v (.slice none 0 0))],[],67,0,true,false,none,none,false,[],none,none,0⟩
def Gs:TI:=⟨1,24,false,[(.v (.slice none 0 0))],[],3,0,true,false,none,none,false,[],none,none,0⟩
def Gt:TI:=⟨10,88,true,[(.v (.string (ByteArray.mk #[]))),(.v (.int .i64 0)),(.v (.int .i64 0)),(.v (.int .i64 0)),(.v (.int .i64 0)),(.v (.int .i64 0)),(.v (.int .i64 0)),(.v (.int .i64 0)),(.v (.int .i64 0)),(.v (.int .i64 0))],[(0,(1,false)),(1,(1,false)),(2,(1,false)),(3,(1,false)),(4,(1,false)),(5,(1,false)),(6,(1,false)),(7,(1,false)),(8,(1,false)),(9,(1,false))],0,0,false,false,(some .right),none,false,[2,1,1,1,1,1,1,1,1,1],none,none,0⟩
def Gu:TI:=⟨1,8,false,[(.v (.map none))],[],4,0,false,false,none,none,false,[],(some .int),(some .bool),0⟩
def Gv:TI:=⟨1,8,false,[(.v (.map none))],[],3,0,false,false,none,none,false,[],(some .int),(some .int),0⟩
def Gw:TI:=⟨4,32,true,[(.v (.int .i64 0)),(.v (.int .i64 0)),(.v (.int .i64 0)),(.v (.int .i64 0))],[(0,(1,false)),(1,(1,false)),(2,(1,false)),(3,(1,false))],0,0,false,false,(some .holding),none,false,[1,1,1,1],none,none,0⟩
def Gx:TI:=⟨2,16,true,[(.v (.int .i64 0)),(.v (.int .i64 0))],[(0,(1,false)),(1,(1,false))],0,0,false,false,(some .ratio),none,false,[1,1],none,none,0⟩
def Gy:TI:=⟨3,24,true,[(.v (.int .i64 0)),(.v (.int .i64 0)),(.v (.int .i64 0))],[(0,(1,false)),(1,(2,true))],0,0,false,false,(some .part),none,false,[1,1,1],none,none,0⟩
def Gz:TI:=⟨1,8,false,[(.v (.map none))],[],35,0,false,false,none,none,false,[],(some .int),(some .deed),0⟩
def GA:TI:=⟨1,8,false,[(.v (.map none))],[],3,0,false,false,none,none,false,[],(some .registerTitle),(some .int),0⟩
def GB:TI:=⟨2,16,true,[(.v (.int .i64 0)),(.v (.int .i64 0))],[(0,(1,false)),(1,(1,false))],0,0,false,false,(some .registerTitle),none,false,[1,1],none,none,0⟩
def AQ:TI:=⟨4,32,true,[(.v (.int .i64 0)),(.v (.int .i64 0)),(.v (.int .i64 0)),(.v (.int .i64 0))],[],69,2,false,true,(some .ratio2),none,false,[],none,none,0⟩
def AR:TI:=⟨2,16,true,[(.v (.int .i64 0)),(.v (.int .i64 0))],[(0,(1,false)),(1,(1,false))],0,0,false,false,(some .range),none,false,[1,1],none,none,0⟩
def AS:TI:=⟨12,104,true,[(.v (.string (ByteArray.mk #[]))),(.v (.int .i64 0)),(.v (.int .i64 0)),(.v (.int .i64 0)),(.v (.int .i64 0)),(.v (.int .i64 0)),(.v (.int .i64 0)),(.v (.int .i64 0)),(.v (.int .i64 0)),(.v (.int .i64 0)),(.v (.int .i64 0)),(.v (.int .i64 0))],[(0,(1,false)),(1,(1,false)),(2,(1,false)),(3,(1,false)),(4,(1,false)),(5,(1,false)),(6,(2,true)),(8,(4,true))],0,0,false,false,(some .reach),none,false,[],none,none,0⟩
def AT:TI:=⟨4,40,true,[(.v (.string (ByteArray.mk #[]))),(.v (.int .i64 0)),(.v (.int .i64 0)),(.v (.int .i64 0))],[(0,(1,false)),(1,(1,false)),(2,(1,false)),(3,(1,false))],0,0,false,false,(some .farm),none,false,[2,1,1,1],none,none,0⟩
def AU:TI:=⟨1,8,false,[(.v (.int .u64 0))],[],0,0,false,false,none,(some .u64),false,[],none,none,1⟩
def AV:TI:=⟨1,8,false,[(.v (.map none))],[],127,0,false,false,none,none,false,[],(some .int),(some .fnc),0⟩
def AW:TI:=⟨2,24,true,[(.v (.string (ByteArray.mk #[]))),(.v (.int .i64 0))],[(0,(1,false)),(1,(1,false))],0,0,false,false,(some .crop),none,false,[2,1],none,none,0⟩
def AX:TI:=⟨4,40,true,[(.v (.string (ByteArray.mk #[]))),(.v (.int .i64 0)),(.v (.int .i64 0)),(.v (.int .i64 0))],[(0,(1,false)),(1,(1,false)),(2,(1,false)),(3,(1,false))],0,0,false,false,(some .duty),none,false,[2,1,1,1],none,none,0⟩
def AY:TI:=⟨1,8,false,[(.v .nilFunc)],[],0,0,false,false,none,none,false,[],none,none,0⟩
def AZ:TI:=⟨1,8,true,[(.v .nilFunc)],[(0,(1,false))],0,0,false,false,none,none,false,[],none,none,0⟩
def ts:Tis:=fun t=>(bif Nat.ble t 58 then(bif Nat.ble t 27 then(bif Nat.ble t 9 then(bif Nat.ble t 4 then(bif Nat.ble t 3 then(bif Nat.beq t 3 then some ti3 else none)else(bif Nat.beq t 4 then some ti4 else none))else(bif Nat.ble t 5 then(bif Nat.beq t 5 then some ti5 else none)else(bif Nat.beq t 9 then some ti9 else none)))else(bif Nat.ble t 24 then(bif Nat.ble t 23 then(bif Nat.beq t 23 then some Gf else none)else(bif Nat.beq t 24 then some Gg else none))else(bif Nat.ble t 25 then(bif Nat.beq t 25 then some Gh else none)else(bif Nat.ble t 26 then(bif Nat.beq t 26 then some Gi else none)else(bif Nat.beq t 27 then some Gj else none)))))else(bif Nat.ble t 33 then(bif Nat.ble t 29 then(bif Nat.ble t 28 then(bif Nat.beq t 28 then some Gk else none)else(bif Nat.beq t 29 then some Gl else none))else(bif Nat.ble t 31 then(bif Nat.beq t 31 then some Gm else none)else(bif Nat.ble t 32 then(bif Nat.beq t 32 then some Gn else none)else(bif Nat.beq t 33 then some Gp else none))))else(bif Nat.ble t 38 then(bif Nat.ble t 35 then(bif Nat.beq t 35 then some Gq else none)else(bif Nat.beq t 38 then some ti3 else none))else(bif Nat.ble t 44 then(bif Nat.beq t 44 then some Gr else none)else(bif Nat.ble t 47 then(bif Nat.beq t 47 then some Gs else none)else(bif Nat.beq t 58 then some Gt else none))))))else(bif Nat.ble t 109 then(bif Nat.ble t 69 then(bif Nat.ble t 65 then(bif Nat.ble t 62 then(bif Nat.beq t 62 then some Gu else none)else(bif Nat.beq t 65 then some Gv else none))else(bif Nat.ble t 67 then(bif Nat.beq t 67 then some Gw else none)else(bif Nat.beq t 69 then some Gx else none)))else(bif Nat.ble t 85 then(bif Nat.ble t 71 then(bif Nat.beq t 71 then some Gy else none)else(bif Nat.beq t 85 then some Gz else none))else(bif Nat.ble t 90 then(bif Nat.beq t 90 then some GA else none)else(bif Nat.ble t 97 then(bif Nat.beq t 97 then some GB else none)else(bif Nat.beq t 109 then some AQ else none)))))else(bif Nat.ble t 125 then(bif Nat.ble t 113 then(bif Nat.ble t 111 then(bif Nat.beq t 111 then some AR else none)else(bif Nat.beq t 113 then some AS else none))else(bif Nat.ble t 115 then(bif Nat.beq t 115 then some AT else none)else(bif Nat.ble t 116 then(bif Nat.beq t 116 then some AU else none)else(bif Nat.beq t 125 then some AV else none))))else(bif Nat.ble t 140 then(bif Nat.ble t 135 then(bif Nat.beq t 135 then some ti3 else none)else(bif Nat.beq t 140 then some AW else none))else(bif Nat.ble t 144 then(bif Nat.beq t 144 then some AX else none)else(bif Nat.ble t 170 then(bif Nat.beq t 170 then some AY else none)else(bif Nat.beq t 172 then some AZ else none)))))))
theorem JM:cB Tryz.prog 3=some ti3:=by kernel_rfl
theorem JN:cB Tryz.prog 4=some ti4:=by kernel_rfl
theorem JO:cB Tryz.prog 5=some ti5:=by kernel_rfl
theorem JP:cB Tryz.prog 9=some ti9:=by kernel_rfl
theorem GC:cB Tryz.prog 23=some Gf:=by kernel_rfl
theorem GD:cB Tryz.prog 24=some Gg:=by kernel_rfl
theorem GF:cB Tryz.prog 25=some Gh:=by kernel_rfl
theorem GG:cB Tryz.prog 26=some Gi:=by kernel_rfl
theorem GH:cB Tryz.prog 27=some Gj:=by kernel_rfl
theorem GI:cB Tryz.prog 28=some Gk:=by kernel_rfl
theorem GJ:cB Tryz.prog 29=some Gl:=by kernel_rfl
theorem GK:cB Tryz.prog 31=some Gm:=by kernel_rfl
theorem GL:cB Tryz.prog 32=some Gn:=by kernel_rfl
theorem GM:cB Tryz.prog 33=some Gp:=by kernel_rfl
theorem GN:cB Tryz.prog 35=some Gq:=by kernel_rfl
theorem GO:cB Tryz.prog 38=some ti3:=by kernel_rfl
theorem GP:cB Tryz.prog 44=some Gr:=by kernel_rfl
theorem GQ:cB Tryz.prog 47=some Gs:=by kernel_rfl
theorem GR:cB Tryz.prog 58=some Gt:=by kernel_rfl
theorem GS:cB Tryz.prog 62=some Gu:=by kernel_rfl
theorem GU:cB Tryz.prog 65=some Gv:=by kernel_rfl
theorem GV:cB Tryz.prog 67=some Gw:=by kernel_rfl
theorem GW:cB Tryz.prog 69=some Gx:=by kernel_rfl
theorem GX:cB Tryz.prog 71=some Gy:=by kernel_rfl
theorem GY:cB Tryz.prog 85=some Gz:=by kernel_rfl
theorem GZ:cB Tryz.prog 90=some GA:=by kernel_rfl
theorem G0:cB Tryz.prog 97=some GB:=by kernel_rfl
theorem DO:cB Tryz.prog 109=some AQ:=by kernel_rfl
theorem DP:cB Tryz.prog 111=some AR:=by kernel_rfl
theorem DQ:cB Tryz.prog 113=some AS:=by kernel_rfl
theorem DR:cB Tryz.prog 115=some AT:=by kernel_rfl
theorem DS:cB Tryz.prog 116=some AU:=by kernel_rfl
theorem DT:cB Tryz.prog 125=some AV:=by kernel_rfl
theorem DU:cB Tryz.prog 135=some ti3:=by kernel_rfl
theorem DV:cB Tryz.prog 140=some AW:=by kernel_rfl
theorem DW:cB Tryz.prog 144=some AX:=by kernel_rfl
theorem DX:cB Tryz.prog 170=some AY:=by kernel_rfl
theorem DY:cB Tryz.prog 172=some AZ:=by kernel_rfl
theorem aH:Tis.ok ts Tryz.prog:=(Tis.ok_node (Tis.ok_node (Tis.ok_node (Tis.ok_node (Tis.ok_node (Tis.ok_leaf JM) (Tis.ok_leaf JN)) (Tis.ok_node (Tis.ok_leaf JO) (Tis.ok_leaf JP))) (Tis.ok_node (Tis.ok_node (Tis.ok_leaf GC) (Tis.ok_leaf GD)) (Tis.ok_node (Tis.ok_leaf GF) (Tis.ok_node (Tis.ok_leaf GG) (Tis.ok_leaf GH))))) (Tis.ok_node (Tis.ok_node (Tis.ok_node (Tis.ok_leaf GI) (Tis.ok_leaf GJ)) (Tis.ok_node (Tis.ok_leaf GK) (Tis.ok_node (Tis.ok_leaf GL) (Tis.ok_leaf GM)))) (Tis.ok_node (Tis.ok_node (Tis.ok_leaf GN) (Tis.ok_leaf GO)) (Tis.ok_node (Tis.ok_leaf GP) (Tis.ok_node (Tis.ok_leaf GQ) (Tis.ok_leaf GR)))))) (Tis.ok_node (Tis.ok_node (Tis.ok_node (Tis.ok_node (Tis.ok_leaf GS) (Tis.ok_leaf GU)) (Tis.ok_node (Tis.ok_leaf GV) (Tis.ok_leaf GW))) (Tis.ok_node (Tis.ok_node (Tis.ok_leaf GX) (Tis.ok_leaf GY)) (Tis.ok_node (Tis.ok_leaf GZ) (Tis.ok_node (Tis.ok_leaf G0) (Tis.ok_leaf DO))))) (Tis.ok_node (Tis.ok_node (Tis.ok_node (Tis.ok_leaf DP) (Tis.ok_leaf DQ)) (Tis.ok_node (Tis.ok_leaf DR) (Tis.ok_node (Tis.ok_leaf DS) (Tis.ok_leaf DT)))) (Tis.ok_node (Tis.ok_node (Tis.ok_leaf DU) (Tis.ok_leaf DV)) (Tis.ok_node (Tis.ok_leaf DW) (Tis.ok_node (Tis.ok_leaf DX) (Tis.ok_leaf DY)))))))
@[go_sem] theorem ts_3:ts 3=some ti3:=(rfl)
@[go_sem] theorem ts_4:ts 4=some ti4:=(rfl)
@[go_sem] theorem ts_5:ts 5=some ti5:=(rfl)
@[go_sem] theorem ts_9:ts 9=some ti9:=(rfl)
@[go_sem] theorem ts_23:ts 23=some Gf:=(rfl)
@[go_sem] theorem ts_24:ts 24=some Gg:=(rfl)
@[go_sem] theorem ts_25:ts 25=some Gh:=(rfl)
@[go_sem] theorem ts_26:ts 26=some Gi:=(rfl)
@[go_sem] theorem ts_27:ts 27=some Gj:=(rfl)
@[go_sem] theorem ts_28:ts 28=some Gk:=(rfl)
@[go_sem] theorem ts_29:ts 29=some Gl:=(rfl)
@[go_sem] theorem ts_31:ts 31=some Gm:=(rfl)
@[go_sem] theorem ts_32:ts 32=some Gn:=(rfl)
@[go_sem] theorem ts_33:ts 33=some Gp:=(rfl)
@[go_sem] theorem ts_35:ts 35=some Gq:=(rfl)
@[go_sem] theorem ts_38:ts 38=some ti3:=(rfl)
@[go_sem] theorem ts_44:ts 44=some Gr:=(rfl)
@[go_sem] theorem ts_47:ts 47=some Gs:=(rfl)
@[go_sem] theorem ts_58:ts 58=some Gt:=(rfl)
@[go_sem] theorem ts_62:ts 62=some Gu:=(rfl)
@[go_sem] theorem ts_65:ts 65=some Gv:=(rfl)
@[go_sem] theorem ts_67:ts 67=some Gw:=(rfl)
@[go_sem] theorem ts_69:ts 69=some Gx:=(rfl)
@[go_sem] theorem ts_71:ts 71=some Gy:=(rfl)
@[go_sem] theorem ts_85:ts 85=some Gz:=(rfl)
@[go_sem] theorem ts_90:ts 90=some GA:=(rfl)
@[go_sem] theorem ts_97:ts 97=some GB:=(rfl)
@[go_sem] theorem Qe:ts 109=some AQ:=(rfl)
@[go_sem] theorem Qf:ts 111=some AR:=(rfl)
@[go_sem] theorem Qg:ts 113=some AS:=(rfl)
@[go_sem] theorem Qh:ts 115=some AT:=(rfl)
@[go_sem] theorem Qi:ts 116=some AU:=(rfl)
@[go_sem] theorem Qj:ts 125=some AV:=(rfl)
@[go_sem] theorem Qk:ts 135=some ti3:=(rfl)
@[go_sem] theorem Ql:ts 140=some AW:=(rfl)
@[go_sem] theorem Qm:ts 144=some AX:=(rfl)
@[go_sem] theorem Qn:ts 170=some AY:=(rfl)
@[go_sem] theorem Qo:ts 172=some AZ:=(rfl)
attribute [go_sem] ti3 ti4 ti5 ti9 Gf Gg Gh Gi Gj Gk Gl Gm Gn Gp Gq Gr Gs Gt Gu Gv Gw Gx Gy Gz GA GB AQ AR AS AT AU AV AW AX AY AZ
end Go.Sx
end
section
namespace Go.Sx
open Go.Proofs
theorem mixed:Tryz.prog.follows .mixedOrders=true:=by kernel_rfl
end Go.Sx
end
section
namespace Go.Sx
open Go.Proofs
set_option maxRecDepth 100000
def fG:List SV→Option Con
 | [.v (.iface t (.int .i64 e))] =>bif Nat.beq t 135 then some (.det True (.i e))else none
 |_=>none
theorem qL:FnOk Tryz.prog 57 fG:=by
 have hG:ConsOk Tryz.prog (mkG [] []):=a_ (by simp) (by simp)
 refine cr [.o] mixed aH hG (fn:=Tryz.f57) (c:=ae Tryz.f57) (by kernel_rfl) (by kernel_rfl) (by kernel_rfl) (by kernel_rfl) fun l con h hp=>?_
 unfold fG at h
 split at h
 ·rename_i t e
  cases ht:Nat.beq t 135 with
  |false=>rw[ht]at h;cases h
  |true=>
   rw[ht]at h
   cases h
   have ht':=Nat.eq_of_beq_eq_true ht
   subst ht'
   refine⟨Nat.le_of_ble_eq_true rfl,L0,by unfold ae Tryz.f57;simp only[aw,and_self],?_⟩
   unfold ae Tryz.f57
   simp only[go_sem,true_imp_iff,false_imp_iff,Nat.reduceBEq,Nat.reduceLeDiff,Nat.reduceAdd,Nat.reduceSub,Nat.reduceMul,true_and,and_true,implies_true,reduceCtorEq]
 ·cases h
def JQ:Value→Option SV
 | .iface t (.int .i64 e) =>bif Nat.beq t 135 then some (.i e)else none
 |_=>none
theorem DZ:Id Tryz.prog 56 JQ:=by
 obtain⟨fn,hfn,hbody,hn,hres⟩:∃ fn,Tryz.prog.funcs[56]? =some fn∧fn.body=some (ae Tryz.f56)∧fn.ntmps=7∧fn.results= #[]:=⟨Tryz.f56,by kernel_rfl,by kernel_rfl,by kernel_rfl,by kernel_rfl⟩
 have hG:ConsOk Tryz.prog (mkG [(57,fG)] []):=a_ (by
  intro x hx
  simp only[List.mem_cons,List.not_mem_nil,or_false]at hx
  rcases hx with rfl
  exact qL) (by simp)
 refine⟨fun args w=>by kernel_rfl,fun p w=>?_,?_⟩
 ·refine callsDIn_of_wpSIn hfn hbody trivial fun c₀ cs hu=>?_
  unfold ae Tryz.f56
  refine wpSIn_seq (wpSIn_region ?_)
  simp[wpOpsSIn,go_sem,recoverD,hu,hn,Exit.thenS,Oper.about,Region.wanted]
  refine wpSIn_seq (wpSIn_region ?_)
  simp[wpOpsSIn,go_sem,recoverD,hu,Exit.thenS,Oper.about,Region.wanted]
  refine wpSIn_cond (t:=false) (by simp[Act.eval]) ?_
  simp only[Bool.false_eq_true,if_false]
  refine wpSIn_of_wpIn rfl (wpIn_skip ?_)
  cases c₀
  simp_all [bodyPostS,results]
 ·intro x s hx F own w h id hd b y hfw hp hob ho hpb
  unfold JQ at hx
  split at hx
  ·rename_i t e
   cases ht:Nat.beq t 135 with
   |false=>rw[ht]at hx;cases hx
   |true=>
    rw[ht]at hx
    cases hx
    have ht':=Nat.eq_of_beq_eq_true ht
    subst ht'
    refine callsDIn_of_wpSIn hfn hbody trivial fun c₀ cs hu=>?_
    unfold ae Tryz.f56
    refine wpSIn_seq (wpSIn_region ?_)
    simp[wpOpsSIn,go_sem,recoverD,hu,hn,Exit.thenS,Oper.about,Region.wanted]
    refine wpSIn_seq (wpSIn_region ?_)
    simp[wpOpsSIn,go_sem,recoverD,hu,Exit.thenS,Oper.about,Region.wanted]
    refine wpSIn_cond (t:=true) (by simp[Act.eval]) ?_
    simp only[if_true]
    refine wpSIn_of_wpIn rfl ?_
    have hr:StRel F { w:=w,own:=own} 7 own ⟨[(0,.ptr id 0),(1,.v (.iface 135 (.int .i64 e)))],h⟩ { tmps:= #[.pointer (some ⟨b,0,none⟩),.iface 135 (.int .i64 e),.iface 135 (.int .i64 e),.iface 135 (.int .i64 e),.bool true,undef,undef],defers:=[]} w:=by
     refine⟨rfl,Dfr.nil,hp,Fr.refl { w:=w,own:=own},fun t=>?_⟩
     rw[iZ]
     by_cases h0:0=t
     ·subst h0;rw[if_pos rfl];exact .ptr ho hpb
     ·rw[if_neg h0,iZ]
      by_cases h1:1=t
      ·subst h1;rw[if_pos rfl];exact .v _
      ·rw[if_neg h1];exact .any _
    refine wpIn_mono (zK (ts:=ts) (L:=L0) (Q:=fun st=>st.h=bu h id (.cells [.i e])) mixed aH hG (by kernel_rfl) ?_ hr) ?_
    ·simp only[go_sem,hob,oO (h:=h) (i:=id) (o:=.cells [.v (.int .i64 e)]) rfl hfw,fG,Nat.reduceBEq,Nat.reduceLeDiff,Nat.reduceAdd,true_and,and_true,true_imp_iff]
    ·rintro ex a' w' ⟨rfl,own1,st1,hst1,hh⟩
     have hd0:a'.defers=[]:=by
      obtain⟨ms,Ds,q0,q1,q2,q3⟩:=hst1.defers
      cases Ds with
      |nil=>rw[q0];simp at q1;simp[q1]
      |cons D r=>
       obtain⟨m1,m2,_⟩:=q3 D (by simp)
       have:=hp.foreign D m2
       simp only at m1
       omega
     refine⟨hd0,.panicking [{ v:=.iface 135 (.int .i64 e),recovered:=true}],?_,_,by simp[results,hres];rfl,⟨_,rfl⟩,rfl,own1,hh▸hst1.hp,hst1.fr⟩
     cases c₀
     simp_all
  ·cases hx
attribute [go_sem] fG
end Go.Sx
end
section
namespace Go.Sx
open Go.Proofs
set_option maxRecDepth 100000
set_option linter.unusedSimpArgs false
abbrev SV.u (n:Nat):SV:=.v (.int .u64 (n:Int))
def zM (ps:List (Nat×(List SV→Option Con)))(os:List (Nat×(List SV→List Ob→Option HCon)))(Y:List SV→Res→Option YCon):Cons:=⟨mkP ps,mkO os,Y⟩
@[go_sem] theorem Qp {ps:List (Nat×(List SV→Option Con))}{os:List (Nat×(List SV→List Ob→Option HCon))}{Y:List SV→Res→Option YCon}:(zM ps os Y).p=mkP ps:=(rfl)
@[go_sem] theorem Qq {ps:List (Nat×(List SV→Option Con))}{os:List (Nat×(List SV→List Ob→Option HCon))}{Y:List SV→Res→Option YCon}:(zM ps os Y).o=mkO os:=(rfl)
@[go_sem] theorem Qr {ps:List (Nat×(List SV→Option Con))}{os:List (Nat×(List SV→List Ob→Option HCon))}{Y:List SV→Res→Option YCon}:(zM ps os Y).y=Y:=(rfl)
theorem A0 {P:Program}{ps:List (Nat×(List SV→Option Con))}{os:List (Nat×(List SV→List Ob→Option HCon))}{Y:List SV→Res→Option YCon}(h1:∀ x∈ps,FnOk P x.1 x.2)(h2:∀ x∈os,FnOkO P x.1 x.2)(h3:YOk P Y):ConsOk P (zM ps os Y):=⟨zD ps h1,zF os h2,h3⟩
def C90:List SV→List Ob→Option HCon:=fun l h=>noH h ((pU fun n=>pU fun d=>pE { α:=Unit,pre:=True,post:=fun _=>True,res:=fun _=>.ret (.fn 142 [] [.ptr 0 0,.ptr 1 0]) [.cells [.v (.int .u64 n)],.cells [.v (.int .u64 d)]]}) l)
theorem JR:FnOkO Tryz.prog 116 C90:=by
 have hG:ConsOk Tryz.prog (mkG [] []):=a_ (by simp) (by simp)
 refine xQ mixed aH hG (fn:=Tryz.f116) (c:=ae Tryz.f116) (by kernel_rfl) (by kernel_rfl) (by kernel_rfl) (by kernel_rfl) fun l o con h hp=>?_
 unfold C90 at h
 obtain⟨rfl,h⟩:=F_ h
 obtain⟨n,l0,rfl,h0⟩:=wi h
 obtain⟨d,l1,rfl,h1⟩:=wi h0
 obtain⟨rfl,rfl⟩:=zG h1
 refine⟨Nat.le_of_ble_eq_true rfl,L0,by unfold ae Tryz.f116;simp only[aw,and_self],?_⟩
 unfold ae Tryz.f116
 simp only[go_sem,true_imp_iff,decide_eq_true_eq,Nat.reduceBEq,Nat.reduceLeDiff,Nat.reduceAdd,Nat.reduceSub,Nat.reduceMul,true_and,and_true,implies_true]
 refine⟨(),_,_,[0,1],rfl,?_⟩
 simp only[go_sem,Nat.reduceBEq,Nat.reduceLeDiff,Nat.reduceAdd,true_and,and_true]
 exact⟨rfl,rfl⟩
def qM:Nat→Nat→Nat→List Nat
 |0,n,d=>if n=0 then []else [n,d]
 |f+1,n,d=>if n=0 then []else n::(if n % max d 1=0 then [d]else qM f d (n % max d 1))
def jO (f n d:Nat):List (List SV):=(qM f n d).map fun x=>[SV.u x]
theorem D0 (f d:Nat):jO f 0 d=[]:=by cases f <;>rfl
theorem D1 {f n d:Nat}(hn:n≠0)(hf:d≤f):∃ T,jO f n d=[SV.u n]::T∧(n % max d 1=0→T=[[SV.u d]])∧(n % max d 1≠0→∃ f',T=jO f' d (n % max d 1)∧n % max d 1≤f'∧n % max d 1<d):=by
 cases f with
 |zero=>
  have hd:d=0:=by omega
  subst hd
  refine⟨[[SV.u 0]],by simp[jO,qM,hn],fun _=>rfl,fun h=>?_⟩
  exfalso;apply h;simp[Nat.mod_one]
 |succ f=>
  by_cases h0:n % max d 1=0
  ·exact⟨[[SV.u d]],by simp[jO,qM,hn,h0],fun _=>rfl,fun h=>absurd h0 h⟩
  ·refine⟨jO f d (n % max d 1),by simp[jO,qM,hn,h0],fun h=>absurd h h0,fun _=>⟨f,rfl,?_⟩⟩
   have hlt:n % max d 1<max d 1:=Nat.mod_lt _ (by omega)
   have hd:1≤d:=by
    rcases Nat.eq_zero_or_pos d with h|h
    ·subst h;exfalso;apply h0;simp[Nat.mod_one]
    ·exact h
   omega
theorem D2 (n d:Nat):((n:Int).tmod (if(d:Int) <1 then 1 else(d:Int)))=((n % max d 1:Nat):Int):=by
 have e:(if(d:Int) <1 then(1:Int)else(d:Int))=((max d 1:Nat):Int):=by split <;>omega
 rw[e,Int.tmod_eq_emod_of_nonneg (by omega)];rfl
open Classical in
theorem JS (n0 d0:Nat):zH Tryz.prog 142 (fun y=>[y,.ptr 1 0,.ptr 2 0]) [.cells [SV.u n0],.cells [SV.u d0]] (jO d0 n0 d0):=by
 refine Ia (fun r hr hy=>?_) (fun args w=>by kernel_rfl)
 have hG:ConsOk Tryz.prog (zM [] [] (itY (jO d0 n0 d0) r)):=A0 (by simp) (by simp) hy
 refine⟨fun l h=>if l=[.os 0,.ptr 1 0,.ptr 2 0]∧h=[.ab (r 1),.cells [SV.u n0],.cells [SV.u d0]]then some { α:=Nat,pre:=True,post:=fun j=>j=0∨j=(jO d0 n0 d0).length+1,res:=fun j=>.ret (.tup []) [.ab (r j),.dead,.dead]}else none,
  ?_,_,if_pos ⟨rfl,rfl⟩,trivial,fun j hj=>⟨_,j,_,rfl,hj⟩⟩
 refine xQ mixed aH hG (fn:=Tryz.f142) (c:=ae Tryz.f142) (by kernel_rfl) (by kernel_rfl) (by kernel_rfl) (by kernel_rfl) fun l o con h hp=>?_
 split at h
 ·rename_i hlo
  obtain⟨rfl,rfl⟩:=hlo
  cases h
  refine⟨Nat.le_of_ble_eq_true rfl,fun id st=>bif Nat.beq id 0 then some { α:=Nat×Bool,pre:=lk 0 st.t=.os 0∧lk 1 st.t=.ptr 1 0∧lk 2 st.t=.ptr 2 0∧st.h=[.ab (r 1),.cells [SV.u n0],.cells [SV.u d0]],post:=fun j=>j.1=0∨j.1=(jO d0 n0 d0).length+1,ex:=fun j=>bif j.2 then .ret else .normal,out:=fun j=>⟨[],[.ab (r j.1),.dead,.dead]⟩:LCon}else none,?_,?_⟩
  ·unfold ae Tryz.f142
   simp only[aw,true_and,and_true]
   refine xR mixed aH hG (by kernel_rfl) fun st lc hC hp=>?_
   simp only[go_sem,Nat.reduceBEq,Option.some.injEq]at hC
   subst hC
   obtain⟨t,h⟩:=st
   dsimp only at hp
   obtain⟨h0,h1,h2,rfl⟩:=hp
   refine⟨Nat×Nat×Nat×Nat,fun x=>⟨[(0,.os 0),(1,.ptr 1 0),(2,.ptr 2 0)],[.ab (r (x.1+1)),.cells [SV.u x.2.2.1],.cells [SV.u x.2.2.2]]⟩,fun x=>x.2.2.2≤x.2.1∧(jO d0 n0 d0).drop x.1=jO x.2.1 x.2.2.1 x.2.2.2∧x.1≤(jO d0 n0 d0).length,fun x=>x.2.2.2,(0,d0,n0,d0),[0,1,2],⟨Nat.le_refl _,rfl,Nat.zero_le _⟩,Nat.le_refl _,?_,?_⟩
   ·simp only[go_sem,h0,h1,h2,Nat.reduceBEq,Nat.reduceLeDiff,Nat.reduceAdd,true_and,and_true]
    decide
   ·rintro⟨k,f,n,d⟩ ⟨hf,hdrop,hk⟩
    simp only at hf hdrop hk
    refine⟨L0,_,by simp only[aw,and_self],fun _ _ q=>q,?_⟩
    simp only[go_sem,DI hr,true_imp_iff,decide_eq_true_eq,D2,Bool.false_eq_true,false_imp_iff,Nat.reduceBEq,Nat.reduceLeDiff,Nat.reduceAdd,Nat.reduceSub,Nat.reduceMul,true_and,and_true,implies_true]
    have hget:∀ (l:List (List SV)) (j:Nat),l=(jO d0 n0 d0).drop k→(jO d0 n0 d0)[k+j]? =l[j]?:=fun l j e=>by rw[e,List.getElem?_drop]
    have hlen:(jO f n d).length=(jO d0 n0 d0).length - k:=by rw[←hdrop,List.length_drop]
    refine⟨fun hn=>?_,fun hn=>?_⟩
    ·have hn':n≠0:=by simpa using hn
     obtain⟨T,e1,e2,e3⟩:=D1 hn' hf
     have hT:(jO d0 n0 d0).drop (k+1)=T:=by rw[←List.drop_drop,hdrop,e1];rfl
     have h0':=hget _ 0 hdrop.symm
     rw[e1]at h0'
     have hk1:k+1≤(jO d0 n0 d0).length:=by
      have:=(List.getElem?_eq_some_iff.1 h0').1;omega
     refine⟨h0',⟨fun _=>⟨by split <;>omega,rfl,fun h2=>?_,fun h2=>?_⟩,fun h2=>?_⟩,?_⟩
     ·have h3:n % max d 1=0:=by
       have:=eq_of_beq h2
       generalize n % max d 1=q at this ⊢
       omega
      have hT2:=e2 h3
      have hl2:(jO d0 n0 d0).length=k+2:=by
       have:=congrArg List.length hT
       rw[hT2,List.length_drop]at this
       simp at this;omega
      refine⟨?_,⟨(k+1+2,true),[0,1,2],.inr (by rw[hl2]),rfl,⟨rfl,rfl,rfl⟩,by simp[ua,vM,sG,unp,ag,b9,mb,mB]⟩,⟨(0,true),[0,1,2],.inl rfl,rfl,⟨rfl,rfl,rfl⟩,by simp[ua,vM,sG,unp,ag,b9,mb,mB]⟩⟩
      have:(jO d0 n0 d0)[k+1]? =T[0]?:=by rw[←hT,List.getElem?_drop]
      rw[this,hT2];rfl
     ·have h3:n % max d 1≠0:=fun e=>by rw[e]at h2;simp at h2
      obtain⟨f',m1,m2,m3⟩:=e3 h3
      exact⟨(k+1,f',d,n % max d 1),[0,1,2],⟨m2,by rw[hT,m1],hk1⟩,m3,⟨rfl,rfl,rfl⟩,by simp[ua,vM,sG,unp,ag,b9,mb,mB,nth,gB,ren]⟩
     ·exact absurd hn (by rw[h2];simp)
     ·exact⟨(0,false),[0,1,2],.inl rfl,rfl,⟨rfl,rfl,rfl⟩,by simp[ua,vM,sG,unp,ag,b9,mb,mB]⟩
    ·have hn':n=0:=by simpa using hn
     subst hn'
     rw[D0]at hlen
     simp at hlen
     exact⟨by simpa using hn,(k+1,false),[0,1,2],.inr (by show k+1=_;omega),rfl,⟨rfl,rfl,rfl⟩,by simp[ua,vM,sG,unp,ag,b9,mb,mB]⟩
  ·unfold ae Tryz.f142
   simp only[go_sem,true_imp_iff,decide_eq_true_eq,Nat.reduceBEq,Nat.reduceLeDiff,Nat.reduceAdd,Nat.reduceSub,Nat.reduceMul,true_and,and_true,implies_true]
   rintro⟨j,b⟩ hj
   cases b
   ·simp only[go_sem]
    exact⟨j,_,_,[0,1,2],hj,rfl,Nat.le_refl 3,by simp only[go_sem,Nat.reduceBEq,Nat.reduceLeDiff,Nat.reduceAdd,true_and,and_true];decide⟩
   ·simp only[go_sem]
    exact⟨j,_,_,[0,1,2],hj,rfl,Nat.le_refl 3,by simp only[go_sem,Nat.reduceBEq,Nat.reduceLeDiff,Nat.reduceAdd,true_and,and_true];decide⟩
 ·cases h
end Go.Sx
end
section
namespace Go.Sx
open Go.Proofs
set_option maxRecDepth 100000
set_option linter.unusedSimpArgs false
def n8 (n d:Nat):Nat:=if d=0 then n else(qM d n d).getLastD d
def C83:List SV→Option Con:=pU fun n=>pU fun d=>pE (.det (0≤n∧0≤d) (SV.u (n8 n.toNat d.toNat)))
theorem D3:FnOk Tryz.prog 88 C83:=by
 have hG:ConsOk Tryz.prog (mkG [] [(116,C90)]):=a_ (by simp) (by
  intro x hx
  simp only[List.mem_cons,List.not_mem_nil,or_false]at hx
  rcases hx with rfl
  exact JR)
 refine Dx false mixed aH hG (fn:=Tryz.f88) (c:=ae Tryz.f88) (by kernel_rfl) (by kernel_rfl) (by kernel_rfl) (by kernel_rfl) fun l con h hp=>?_
 unfold C83 at h
 obtain⟨n',l0,rfl,h0⟩:=wi h
 obtain⟨d',l1,rfl,h1⟩:=wi h0
 obtain⟨rfl,rfl⟩:=zG h1
 clear h h0 h1
 obtain⟨hn,hd⟩:=hp
 obtain⟨n,rfl⟩:=Int.eq_ofNat_of_zero_le hn
 obtain⟨d,rfl⟩:=Int.eq_ofNat_of_zero_le hd
 refine⟨Nat.le_of_ble_eq_true rfl,fun id st=>bif Nat.beq id 0 then some { α:=Unit,pre:=st.h=[.cells [SV.u d],.cells [SV.u n],.cells [SV.u d]]∧lk 12 st.t=.fn 142 [] [.ptr 1 0,.ptr 2 0]∧lk 4 st.t=.ptr 0 0,post:=fun _=>True,ex:=fun _=>.normal,out:=fun _=>⟨[(4,.ptr 0 0)],[.cells [SV.u ((qM d n d).getLastD d)],.dead,.dead]⟩:LCon}else none,?_,?_⟩
 ·unfold ae Tryz.f88
  simp only[aw,true_and,and_true]
  refine xW mixed aH hG (by decide) (by decide) (by kernel_rfl) (by kernel_rfl) fun st lc hC hp=>?_
  simp only[go_sem,Nat.reduceBEq,Option.some.injEq]at hC
  subst hC
  obtain⟨t,h⟩:=st
  dsimp only at hp
  obtain⟨rfl,h12,h4⟩:=hp
  refine⟨142,[.ptr 1 0,.ptr 2 0],jO d n d,Nat,[(4,.ptr 0 0)],fun v=>[.cells [SV.u v],.dead,.dead],fun k v=>v=((qM d n d).take k).getLastD d,fun _ _=>False,d,[0,1,2],h12,rfl,Nat.le_refl _,?_,JS n d,?_,?_,fun _ h=>h.elim,fun _ _ h=>h.elim⟩
  ·show Sub [0,1,2] 3 ⟨t,[.cells [SV.u d],.dead,.dead]⟩ ⟨[(4,.ptr 0 0)],[.cells [SV.u d],.dead,.dead]⟩
   simp only[go_sem,h4,Nat.reduceBEq,Nat.reduceLeDiff,Nat.reduceAdd,true_and,and_true]
   decide
  ·intro k y args hk hI
   unfold jO at hk
   rw[List.getElem?_map,Option.map_eq_some_iff]at hk
   obtain⟨x,hx,rfl⟩:=hk
   refine⟨rfl,L0,_,fun l=>by simp only[aw],fun l=>by simp only[aw],fun _ _ q=>q,?_⟩
   show exec ts _ L0 _ ⟨[(13,SV.u x),(4,SV.ptr 0 0)],[.cells [SV.u y],.dead,.dead]⟩ _
   simp only[go_sem,true_imp_iff,Nat.reduceBEq,Nat.reduceLeDiff,Nat.reduceAdd,true_and,and_true]
   refine⟨x,[0,1,2],?_,Nat.le_refl 3,?_⟩
   ·have hlt:=(List.getElem?_eq_some_iff.1 hx).1
    have hx2:=(List.getElem?_eq_some_iff.1 hx).2
    show x=((qM d n d).take (k+1)).getLastD d
    rw[List.take_succ_eq_append_getElem hlt,hx2]
    simp[List.getLastD_concat]
   ·simp only[go_sem,Nat.reduceBEq,Nat.reduceLeDiff,Nat.reduceAdd,true_and,and_true]
    decide
  ·intro y hI
   refine⟨(),[0,1,2],trivial,rfl,Nat.le_refl _,?_⟩
   have hy:y=(qM d n d).getLastD d:=by rw[hI,List.take_of_length_le (by simp[jO])]
   subst hy
   show Sub [0,1,2] 3 ⟨[(4,.ptr 0 0)],[.cells [SV.u _],.dead,.dead]⟩ ⟨[(4,.ptr 0 0)],[.cells [SV.u _],.dead,.dead]⟩
   simp only[go_sem,Nat.reduceBEq,Nat.reduceLeDiff,Nat.reduceAdd,true_and,and_true]
   decide
 ·unfold ae Tryz.f88
  simp only[go_sem,C90,true_imp_iff,decide_eq_true_eq,Bool.false_eq_true,false_imp_iff,Nat.reduceBEq,Nat.reduceLeDiff,Nat.reduceAdd,Nat.reduceSub,Nat.reduceMul,true_and,and_true,implies_true]
  refine⟨fun h=>?_,fun h _ _=>?_⟩
  ·have h':d=0:=by simpa using h
   simp[n8,h']
  ·have h':d≠0:=by simpa using h
   simp[n8,h']
attribute [go_sem] C83
end Go.Sx
end
section
namespace Go.Sx
open Go.RowKit
inductive NilS:St→St→Prop where
 |refl (st:St):NilS st st
 |cell {st:St} {t:List (Nat×SV)} {h:List Ob} {i j:Nat} {l:List SV} (o:Ob):NilS st ⟨t,h⟩→ag h i=.cells l→l[j]? =some (.v (.slice none 0 0))→((∃ k,o=.row k [])∨∃ k,o=.grid k [])→NilS st ⟨t,bu h i (.cells (l.set j (.os h.length)))++[o]⟩
 |slot {st:St} {t:List (Nat×SV)} {h:List Ob} {i:Nat} (o:Ob):NilS st ⟨t,h⟩→lk i t=.v (.slice none 0 0)→((∃ k,o=.row k [])∨∃ k,o=.grid k [])→NilS st ⟨(i,.os h.length)::t,h++[o]⟩
 |slotE {st:St} {t:List (Nat×SV)} {h:List Ob} {i:Nat} (k:Tag):NilS st ⟨t,h⟩→lk i t=.e0→NilS st ⟨(i,.os h.length)::t,h++[.row k []]⟩
section
variable {P:Program}{F:Nat→Prop}{w0:Bs}{N:Nat}
theorem u4 (h:List Ob)(o:Ob):ag (h++[o]) h.length=o:=by rw[jt,if_neg (by omega)];simp[ag]
theorem A2 {own:Own}{h:List Ob}{a:Act}{w:World}{t:List (Nat×SV)}(hr:StRel F w0 N own ⟨t,h⟩ a w)(o:Ob)(ho:(∃ k,o=.row k [])∨∃ k,o=.grid k []):
  ∃ own',StRel F w0 N own' ⟨t,h++[o]⟩ a w∧(∀ id hd,own id=some hd→own' id=some hd)∧own' h.length=some { v:=.slice none 0 0}:=by
 let own':Own:=fun id=>if id=h.length then some { v:=.slice none 0 0}else own id
 have hsub:∀ id hd,own id=some hd→own' id=some hd:=fun id hd e=>by
  have:id≠h.length:=by have:=hr.hp.dom id hd e;simp only at this;omega
  simp only[own',if_neg this];exact e
 have hinv:∀ id hd b,own' id=some hd→b∈hd.bs→own id=some hd:=fun id hd b e hb=>by
  by_cases hi:id=h.length
  ·simp only[own',if_pos hi,Option.some.injEq]at e;subst e;cases hb
  ·simpa only[own',if_neg hi]using e
 have hc:Carries F own w F own' w:=⟨fun id hd e=>⟨hd,hsub id hd e,.refl _⟩,fun b _ hn=>⟨by
  rintro (hf| ⟨id,hd,e,hb⟩)
  ·exact hn (.inl hf)
  ·exact hn (.inr ⟨id,hd,hinv id hd b e hb,hb⟩),rfl⟩⟩
 refine⟨own',⟨hr.size,hr.defers,⟨fun id hd e=>?_,hr.hp.foreign,fun id hd b e hb=>hr.hp.apart id hd b (hinv id hd b e hb) hb,fun i j hi hj b e1 e2 b1 b2=>hr.hp.inj i j hi hj b (hinv i hi b e1 b1) (hinv j hj b e2 b2) b1 b2,fun id hd b e hb=>hr.hp.lt id hd b (hinv id hd b e hb) hb,fun id hd=>?_⟩,
  ⟨fun id hd e=>?_,fun id hd b e hb=>hr.fr.base id hd b (hinv id hd b e hb) hb,hr.fr.os,hr.fr.tape,hr.fr.output,hr.fr.size,hr.fr.block⟩,fun t=>(hr.slots t).carry hc⟩,hsub,by simp[own']⟩
 ·simp only[List.length_append,List.length_cons,List.length_nil]
  by_cases hi:id=h.length
  ·omega
  ·simp only[own',if_neg hi]at e;have:=hr.hp.dom id hd e;simp only at this;omega
 ·simp only at hd ⊢
  by_cases hi:id<h.length
  ·rw[jt,if_pos hi]at hd ⊢
   obtain⟨hd',e1,e2⟩:=hr.hp.obs id hd
   exact⟨hd',hsub id hd' e1,e2.carry hc (Nat.le_refl _) fun _ _=>rfl⟩
  ·by_cases hi2:id=h.length
   ·subst hi2
    rw[u4]
    refine⟨_,by simp[own'];rfl,?_⟩
    rcases ho with⟨k,rfl⟩ | ⟨k,rfl⟩
    ·exact .inl ⟨none,rfl,rfl,rfl⟩
    ·exact .inl ⟨rfl,rfl,rfl,rfl⟩
   ·rw[iv (by simp;omega)]at hd;cases hd
 ·obtain⟨hd',e1,e2⟩:=hr.fr.ids id hd e
  exact⟨hd',hsub id hd' e1,e2⟩
theorem D4 {own:Own}{h:List Ob}{a:Act}{w:World}{t:List (Nat×SV)}(hr:StRel F w0 N own ⟨t,h⟩ a w)(k:Tag)(ad:Option Addr):
  ∃ own',StRel F w0 N own' ⟨t,h++[.row k []]⟩ a w∧(∀ id hd,own id=some hd→own' id=some hd)∧own' h.length=some { v:=.slice ad 0 0}:=by
 let own':Own:=fun id=>if id=h.length then some { v:=.slice ad 0 0}else own id
 have hsub:∀ id hd,own id=some hd→own' id=some hd:=fun id hd e=>by
  have:id≠h.length:=by have:=hr.hp.dom id hd e;simp only at this;omega
  simp only[own',if_neg this];exact e
 have hinv:∀ id hd b,own' id=some hd→b∈hd.bs→own id=some hd:=fun id hd b e hb=>by
  by_cases hi:id=h.length
  ·simp only[own',if_pos hi,Option.some.injEq]at e;subst e;cases hb
  ·simpa only[own',if_neg hi]using e
 have hc:Carries F own w F own' w:=⟨fun id hd e=>⟨hd,hsub id hd e,.refl _⟩,fun b _ hn=>⟨by
  rintro (hf| ⟨id,hd,e,hb⟩)
  ·exact hn (.inl hf)
  ·exact hn (.inr ⟨id,hd,hinv id hd b e hb,hb⟩),rfl⟩⟩
 refine⟨own',⟨hr.size,hr.defers,⟨fun id hd e=>?_,hr.hp.foreign,fun id hd b e hb=>hr.hp.apart id hd b (hinv id hd b e hb) hb,fun i j hi hj b e1 e2 b1 b2=>hr.hp.inj i j hi hj b (hinv i hi b e1 b1) (hinv j hj b e2 b2) b1 b2,fun id hd b e hb=>hr.hp.lt id hd b (hinv id hd b e hb) hb,fun id hd=>?_⟩,
  ⟨fun id hd e=>?_,fun id hd b e hb=>hr.fr.base id hd b (hinv id hd b e hb) hb,hr.fr.os,hr.fr.tape,hr.fr.output,hr.fr.size,hr.fr.block⟩,fun t=>(hr.slots t).carry hc⟩,hsub,by simp[own']⟩
 ·simp only[List.length_append,List.length_cons,List.length_nil]
  by_cases hi:id=h.length
  ·omega
  ·simp only[own',if_neg hi]at e;have:=hr.hp.dom id hd e;simp only at this;omega
 ·simp only at hd ⊢
  by_cases hi:id<h.length
  ·rw[jt,if_pos hi]at hd ⊢
   obtain⟨hd',e1,e2⟩:=hr.hp.obs id hd
   exact⟨hd',hsub id hd' e1,e2.carry hc (Nat.le_refl _) fun _ _=>rfl⟩
  ·by_cases hi2:id=h.length
   ·subst hi2
    rw[u4]
    refine⟨_,by simp[own'];rfl,?_⟩
    exact .inl ⟨ad,rfl,rfl,rfl⟩
   ·rw[iv (by simp;omega)]at hd;cases hd
 ·obtain⟨hd',e1,e2⟩:=hr.fr.ids id hd e
  exact⟨hd',hsub id hd' e1,e2⟩
theorem NilS.rel {st st':St}(hn:NilS st st'){own:Own}{a:Act}{w:World}(hr:StRel F w0 N own st a w):∃ own',StRel F w0 N own' st' a w:=by
 induction hn with
 |refl=>exact⟨own,hr⟩
 | @slot t h i o _ hl ho ih=>
  obtain⟨own1,h1⟩:=ih
  obtain⟨own2,h2,h3,h4⟩:=A2 h1 o ho
  refine⟨own2,h2.size,h2.defers,h2.hp,h2.fr,fun u=>?_⟩
  rw[iZ]
  split
  ·rename_i e
   subst e
   have:=h1.slots i
   rw[hl]at this
   rw[bV this]
   exact .os (hd:= { v:=.slice none 0 0}) h4 rfl
  ·exact h2.slots u
 | @slotE t h i k _ hl ih=>
  obtain⟨own1,h1⟩:=ih
  have hs:=h1.slots i
  rw[hl]at hs
  generalize hv:a.tmps.getD i undef=v at hs
  cases hs with
  | @e0 ad=>
   obtain⟨own2,h2,h3,h4⟩:=D4 h1 k ad
   refine⟨own2,h2.size,h2.defers,h2.hp,h2.fr,fun u=>?_⟩
   rw[iZ]
   split
   ·rename_i e
    subst e
    rw[hv]
    exact .os (hd:= { v:=.slice ad 0 0}) h4 rfl
   ·exact h2.slots u
 | @cell t h i j l o _ hc hl ho ih=>
  obtain⟨own1,h1⟩:=ih
  obtain⟨own2,h2,h3,h4⟩:=A2 h1 o ho
  have hlt:i<h.length:=by
   rcases Nat.lt_or_ge i h.length with h'|h'
   ·exact h'
   ·rw[iv h']at hc;cases hc
  have hlen:(bu h i (.cells (l.set j (.os h.length)))).length=h.length:=by rw[bN,if_pos hlt]
  refine⟨own2,h2.size,h2.defers,⟨fun id hd e=>?_,h2.hp.foreign,h2.hp.apart,h2.hp.inj,h2.hp.lt,fun id hd=>?_⟩,h2.fr,h2.slots⟩
  ·have:=h2.hp.dom id hd e;simp only[List.length_append]at this ⊢;rw[hlen];exact this
  ·simp only at hd ⊢
   have hob:=h2.hp.obs id
   simp only at hob
   by_cases hi:id<h.length
   ·rw[jt,if_pos (by rw[hlen];exact hi)]at hd ⊢
    rw[jt,if_pos hi]at hob
    rw[ci]at hd ⊢
    by_cases hii:i=id
    ·subst hii
     rw[if_pos rfl]at hd ⊢
     rw[hc]at hob
     obtain⟨hd',e1,b,cs,ty,m1,m2,m3,m4,m5⟩:=hob rfl
     refine⟨hd',e1,b,cs,ty,m1,m2,m3,by simpa using m4,fun j' s hs=>?_⟩
     rw[List.getElem?_set]at hs
     by_cases hj:j=j'
     ·subst hj
      rw[if_pos rfl]at hs
      split at hs
      ·cases hs
       have:=m5 j _ hl
       rw[bV this]
       exact .os (hd:= { v:=.slice none 0 0}) h4 rfl
      ·cases hs
     ·rw[if_neg hj]at hs
      exact m5 j' s hs
    ·rw[if_neg hii]at hd ⊢
     exact hob hd
   ·rw[jt,if_neg (by rw[hlen];exact hi),hlen]at hd ⊢
    rw[jt,if_neg hi]at hob
    exact hob hd
end
section
variable {P:Program}{F:Nat→Prop}{w0:Bs}{ro:Option Nat}{nd:Nat}{ts:Tis}{G:Cons}{L:mA}{N:Nat}
theorem pA {ts:Tis}{G:Cons}{ro:Option Nat}{N:Nat}(hm:P.follows .mixedOrders=true)(hts:ts.ok P)(hG:ConsOk P G){id:Nat}{c:Code}(hc:cd N c=true){C:St→Option LCon}
  (h:∀ st lc,C st=some lc→lc.pre→∃ (σ:Type) (D:σ→St) (I:σ→Prop) (m:σ→Nat) (x0:σ) (stN:St) (js:List Nat),I x0∧NilS st stN∧st.h.length≤(D x0).h.length∧Sub js st.h.length stN (D x0)∧
   ∀ x,I x→∃ L Qx,aw P ro N L c∧(∀ e st',Qx e st'→mf D I m st.h.length x id (fun e st'=>∃ r js,lc.post r∧lc.ex r=e∧st.h.length≤(lc.out r).h.length∧Sub js st.h.length st' (lc.out r)) e st')∧exec ts G L c (D x) Qx):gF P ro N id (.loop c) C:=by
 intro nd F w0 st lc hC hpre own a w hr
 obtain⟨σ,D,I,m,x0,stN,js,h1,hN,h2,h3,h4⟩:=h st lc hC hpre
 obtain⟨ownN,hrN⟩:=hN.rel hr
 refine wpIn_mono (uW hm hts hG hc D I m st.h.length hr.base_lt _ h4 x0 h1 _ a w (hrN.sub h3 hr.base_lt h2)) ?_
 intro e a' w' hq
 have key:∀ ex F1 own' st',StRel F1 w0 N own' st' a' w'→(∃ r js,lc.post r∧lc.ex r=ex∧st.h.length≤(lc.out r).h.length∧Sub js st.h.length st' (lc.out r))→∃ own2 st2,StRel F1 w0 N own2 st2 a' w'∧∃ r,lc.post r∧ex=lc.ex r∧st2=lc.out r:=by
  rintro ex F1 own' st' hst ⟨r,js,q1,q2,q3,q4⟩
  exact⟨_,_,hst.sub q4 hr.base_lt q3,r,q1,q2.symm,rfl⟩
 cases e with
 |normal=>obtain⟨F1,own',st',h0,k1,k2⟩:=hq;obtain⟨own2,st2,q1,q2⟩:=key _ F1 own' st' k1 k2;exact⟨F1,own2,st2,h0,q1,q2⟩
 |exit j=>obtain⟨F1,own',st',h0,k1,k2⟩:=hq;obtain⟨own2,st2,q1,q2⟩:=key _ F1 own' st' k1 k2;exact⟨F1,own2,st2,h0,q1,q2⟩
 |ret=>obtain⟨F1,own',st',h0,k1,k2⟩:=hq;obtain⟨own2,st2,q1,q2⟩:=key _ F1 own' st' k1 k2;exact⟨F1,own2,st2,h0,q1,q2⟩
 |panic ch=>
  obtain⟨x,F1,own',st',h0,k1,k2,k3⟩:=hq
  obtain⟨own2,st2,q1,q2⟩:=key _ F1 own' st' k1 k2
  exact⟨x,F1,own2,st2,h0,q1,q2,k3⟩
 |_=>exact hq.elim
end
section
variable {P:Program}{ρ σ:Type}
def eW (st2:St)(n0:Nat)(st:St):Prop:= ∃ js,n0≤st2.h.length∧Sub js n0 st st2
theorem wp {st2 st:St}{n0:Nat}(js:List Nat)(h1:n0≤st2.h.length)(h2:Sub js n0 st st2):eW st2 n0 st:=⟨js,h1,h2⟩
def lK (D:Nat→σ→St)(n0 k:Nat)(st:St):ρ⊕σ→Prop
 | .inl _=>False
 | .inr s'=>eW (D (k+1) s') n0 st
def iz (exE:ρ→Ex)(outE:ρ→St)(n0:Nat)(e:Ex)(st:St):ρ⊕σ→Prop
 | .inl x=>exE x=e∧eW (outE x) n0 st
 | .inr _=>False
def cE (step:Nat→σ→ρ⊕σ)(n:Nat)(exE:ρ→Ex)(outE:ρ→St)(outN:σ→St)(D:Nat→σ→St)(n0 id k:Nat)(s:σ):Ex→St→Prop
 | .normal,st=>k<n∧lK D n0 k st (step k s)
 | .exit j,st=>bif Nat.beq j id then(n≤k→eW (outN s) n0 st)∧(k<n→iz exE outE n0 .normal st (step k s))else k<n∧iz exE outE n0 (.exit j) st (step k s)
 | .ret,st=>k<n∧iz exE outE n0 .ret st (step k s)
 | .pan x,st=>k<n∧iz exE outE n0 (.pan x) st (step k s)
variable {step:Nat→σ→ρ⊕σ}{n n0 id k j:Nat}{exE:ρ→Ex}{outE:ρ→St}{outN:σ→St}{D:Nat→σ→St}{s s':σ}{st:St}{x:Value}{e:Ex}{y:ρ}
@[go_sem] theorem Ma:lK (ρ:=ρ) D n0 k st (.inr s')=eW (D (k+1) s') n0 st:=(rfl)
@[go_sem] theorem NQ:iz (σ:=σ) exE outE n0 e st (.inl y)=(exE y=e∧eW (outE y) n0 st):=(rfl)
@[go_sem] theorem Mb:cE step n exE outE outN D n0 id k s .normal st=(k<n∧lK D n0 k st (step k s)):=(rfl)
@[go_sem] theorem Pz:cE step n exE outE outN D n0 id k s (.exit j) st=bif Nat.beq j id then(n≤k→eW (outN s) n0 st)∧(k<n→iz exE outE n0 .normal st (step k s))else k<n∧iz exE outE n0 (.exit j) st (step k s):=(rfl)
@[go_sem] theorem Qs:cE step n exE outE outN D n0 id k s .ret st=(k<n∧iz exE outE n0 .ret st (step k s)):=(rfl)
@[go_sem] theorem Qt:cE step n exE outE outN D n0 id k s (.pan x) st=(k<n∧iz exE outE n0 (.pan x) st (step k s)):=(rfl)
@[congr] theorem If {r r':ρ⊕σ}(h:r=r'):lK D n0 k st r=lK D n0 k st r':=by rw[h]
end
def d7 (p:Prop)(S:SV)(H:List Ob):HCon:= { α:=Unit,pre:=p,post:=fun _=>True,res:=fun _=>.ret S H}
def zN (n0:Nat)(S:SV)(H:List Ob)(h:List Ob):Option SV→Prop
 |some s=>eW ⟨[(0,S)],H⟩ n0 ⟨[(0,s)],h⟩
 |none=>False
def D5 (n0:Nat)(rs:List ResultVar)(ts:Tis)(S:SV)(H:List Ob):Ex→St→Prop
 | .exit _,_=>False
 | .normal,st=>zN n0 S H st.h (iS (g_ ts st rs))
 | .ret,st=>zN n0 S H st.h (iS (g_ ts st rs))
 | .pan _,_=>False
section
variable {P:Program}{ts:Tis}{G:Cons}{n0:Nat}{S s:SV}{H h:List Ob}{rs:List ResultVar}{st:St}{x:Value}{j:Nat}
@[go_sem] theorem Mc:zN n0 S H h (some s)=eW ⟨[(0,S)],H⟩ n0 ⟨[(0,s)],h⟩:=(rfl)
@[go_sem] theorem G1:D5 n0 rs ts S H .normal st=zN n0 S H st.h (iS (g_ ts st rs)):=(rfl)
@[go_sem] theorem Md:D5 n0 rs ts S H .ret st=zN n0 S H st.h (iS (g_ ts st rs)):=(rfl)
@[go_sem high] theorem JT {p:Prop}{ids:List Nat}{d:Option Nat}{K:St→Prop}{Z:Value→St→Prop}:o_ ids d st K Z (some (d7 p S H))=(p∧yS ids d st K Z (.ret S H)):=by
 show(p∧∀ r:Unit,True→yS ids d st K Z (.ret S H))=_
 simp
@[go_sem] theorem NR {nx:Nat}:fo G h nx .bad=none:=(rfl)
def hCR (t:Tag)(k:List t.T→Option HCon):List Ob→Option HCon
 | [.cells [.os 1],.row k' l] =>if h:k'=t then k (h▸l)else none
 |_=>none
open Classical in
noncomputable def pQ {α:Type 1}(X:SV)(k:List SV→Option α):List SV→Option α
 |s::r=>if s=X then k r else none
 | [] =>none
@[go_sem] theorem pQ_mk {α:Type 1}{X:SV}{k:List SV→Option α}{r:List SV}:pQ X k (X::r)=k r:=by simp[pQ]
theorem JU {α:Type 1}{X:SV}{k:List SV→Option α}{l:List SV}{c:α}(h:pQ X k l=some c):∃ r,l=X::r∧k r=some c:=by
 unfold pQ at h;split at h
 ·split at h
  ·rename_i e;subst e;exact⟨_,rfl,h⟩
  ·cases h
 ·cases h
def pXR {α:Type 1}(t:Tag)(k:List t.T→List SV→Option α):List SV→Option α
 | .ep [.rs k' l] 0::r=>uZ t k r k' l
 |_=>none
@[go_sem] theorem Qu {α:Type 1}{t:Tag}{k:List t.T→List SV→Option α}{l:List t.T}{r:List SV}:pXR t k (.ep [.rs t l] 0::r)=k l r:=by simp[pXR,uZ]
theorem G3 {α:Type 1}{t:Tag}{k:List t.T→List SV→Option α}{l:List SV}{c:α}(h:pXR t k l=some c):∃ x r,l=.ep [.rs t x] 0::r∧k x r=some c:=by
 unfold pXR at h;split at h
 ·rename_i k' l' r
  unfold uZ at h
  split at h
  ·rename_i e;subst e;exact⟨_,_,rfl,h⟩
  ·cases h
 ·cases h
theorem eX (hm:P.follows .mixedOrders=true) (hts:ts.ok P) (hG:ConsOk P G) {f:FuncId} {fn:Func} {c:Code} (hf:P.funcs[f]? =some fn) (hb:fn.body=some c) (hname:(fn.name== "runtime.NumGoroutine")=false)
  (hc:cd fn.ntmps c=true) {C:List SV→List Ob→Option HCon}
  (h:∀ l o con,C l o=some con→∃ p S H,con=d7 p S H∧(p→l.length≤fn.ntmps∧∃ L,aw P none fn.ntmps L c∧exec ts G L c ⟨ir 0 l,o⟩ (D5 o.length fn.results.toList ts S H))):FnOkO P f C:=by
 refine tp hm hts hG hf hb hname hc fun l o con hC hp=>?_
 obtain⟨p,S,H,rfl,h2⟩:=h l o con hC
 obtain⟨h3,L,h4,h5⟩:=h2 hp
 refine⟨h3,L,_,h4,fun e st hq=>?_,h5⟩
 cases e with
 |normal=>
  change zN _ _ _ _ _ at hq
  show pb _ _ _ _
  cases hs:iS (g_ ts st fn.results.toList)with
  |none=>rw[hs]at hq;exact hq.elim
  |some s=>rw[hs]at hq;obtain⟨js,q1,q2⟩:=hq;exact⟨(),S,H,js,trivial,rfl,q1,q2⟩
 |ret=>
  change zN _ _ _ _ _ at hq
  show pb _ _ _ _
  cases hs:iS (g_ ts st fn.results.toList)with
  |none=>rw[hs]at hq;exact hq.elim
  |some s=>rw[hs]at hq;obtain⟨js,q1,q2⟩:=hq;exact⟨(),S,H,js,trivial,rfl,q1,q2⟩
 |exit j=>exact hq.elim
 |pan x=>exact hq.elim
end
end Go.Sx
end
section
namespace Go.Sx
attribute [go_sem] true_imp_iff false_imp_iff Bool.false_eq_true Int.toNat_natCast Int.toNat_zero true_and and_true and_self implies_true forall_const
theorem cl {p:Prop}(h:p:=by(first|done|(repeat' (first|with_reducible refine And.intro ?_ ?_|((with_reducible show _≠_);first|assumption|omega|(simp_all [b8,cq];done) |grind) |with_reducible intro _)) <;>(first|done|with_reducible exact Empty.elim ‹Empty› |with_reducible assumption|rfl|omega|assumption|(simp only[*,cond_true,cond_false,Bool.not_true,Bool.not_false,go_sem,Nat.reduceBEq,Nat.reduceLeDiff,Nat.reduceAdd,Nat.reduceSub,Nat.reduceMul,Int.reduceLE,Int.reduceLT,Int.reduceToNat,Int.reduceNeg,reduceCtorEq];done) |(simp only[*,cond_true,cond_false,Bool.not_true,Bool.not_false,go_sem,Nat.reduceBEq,Nat.reduceLeDiff,Nat.reduceAdd,Nat.reduceSub,Nat.reduceMul,Int.reduceLE,Int.reduceLT,Int.reduceToNat,Int.reduceNeg,reduceCtorEq];(repeat' (first|with_reducible refine And.intro ?_ ?_|((with_reducible show _≠_);first|assumption|omega|(simp_all [b8,cq];done) |grind) |with_reducible intro _)) <;>(first|done|assumption|rfl|omega|(simp_all [b8,cq];done))) |(simp_all [okI,b8,cq];done) |grind))):p:=h
theorem cl2 {p:Prop}(h:p:=by(first|done|(repeat' (first|with_reducible refine And.intro ?_ ?_|((with_reducible show _≠_);first|assumption|omega|(simp_all [b8,cq];done) |grind) |with_reducible intro _)) <;>(first|done|with_reducible exact Empty.elim ‹Empty› |with_reducible assumption|rfl|omega|assumption|(simp only[*,go_sem,Nat.reduceBEq,Nat.reduceLeDiff,Nat.reduceAdd,Nat.reduceSub,Nat.reduceMul,Int.reduceLE,Int.reduceLT,Int.reduceToNat,Int.reduceNeg,reduceCtorEq];done) |(simp_all [b8,cq];done)))):p:=h
theorem fk {st2 st:St}{n0:Nat}(js:List Nat)(h1:n0≤st2.h.length:=by(first|(show _≤_;decide) |(simp only[*,go_sem,Nat.reduceBEq,Nat.reduceLeDiff,Nat.reduceAdd,Nat.reduceSub,Nat.reduceMul,Int.reduceLE,Int.reduceLT,Int.reduceToNat,Int.reduceNeg,reduceCtorEq];done) |(simp only[*,go_sem,Nat.reduceBEq,Nat.reduceLeDiff,Nat.reduceAdd,Nat.reduceSub,Nat.reduceMul,Int.reduceLE,Int.reduceLT,Int.reduceToNat,Int.reduceNeg,reduceCtorEq];(repeat' (first|with_reducible refine And.intro ?_ ?_|((with_reducible show _≠_);first|assumption|omega|(simp_all [b8,cq];done) |grind) |with_reducible intro _)) <;>(first|rfl|decide|assumption|omega|(simp_all [b8,cq];done)))))(h2:Sub js n0 st st2:=by(first|(show _≤_;decide) |(simp only[*,go_sem,Nat.reduceBEq,Nat.reduceLeDiff,Nat.reduceAdd,Nat.reduceSub,Nat.reduceMul,Int.reduceLE,Int.reduceLT,Int.reduceToNat,Int.reduceNeg,reduceCtorEq];done) |(simp only[*,go_sem,Nat.reduceBEq,Nat.reduceLeDiff,Nat.reduceAdd,Nat.reduceSub,Nat.reduceMul,Int.reduceLE,Int.reduceLT,Int.reduceToNat,Int.reduceNeg,reduceCtorEq];(repeat' (first|with_reducible refine And.intro ?_ ?_|((with_reducible show _≠_);first|assumption|omega|(simp_all [b8,cq];done) |grind) |with_reducible intro _)) <;>(first|rfl|decide|assumption|omega|(simp_all [b8,cq];done))))):eW st2 n0 st:=wp js h1 h2
theorem fk2 {st2 st:St}{n0:Nat}(js:List Nat)(h1:n0≤st2.h.length:=by(first|(show _≤_;decide) |(simp only[go_sem,Nat.reduceBEq,Nat.reduceLeDiff,Nat.reduceAdd,Nat.reduceSub,Nat.reduceMul,Int.reduceLE,Int.reduceLT,Int.reduceToNat,Int.reduceNeg,reduceCtorEq];(repeat' (first|with_reducible refine And.intro ?_ ?_|((with_reducible show _≠_);first|assumption|omega|(simp_all [b8,cq];done) |grind) |with_reducible intro _)) <;>(first|rfl|decide|assumption|omega|(simp_all [b8,cq];done)))))(h2:Sub js n0 st st2:=by(first|(show _≤_;decide) |(simp only[go_sem,Nat.reduceBEq,Nat.reduceLeDiff,Nat.reduceAdd,Nat.reduceSub,Nat.reduceMul,Int.reduceLE,Int.reduceLT,Int.reduceToNat,Int.reduceNeg,reduceCtorEq];(repeat' (first|with_reducible refine And.intro ?_ ?_|((with_reducible show _≠_);first|assumption|omega|(simp_all [b8,cq];done) |grind) |with_reducible intro _)) <;>(first|rfl|decide|assumption|omega|(simp_all [b8,cq];done))))):eW st2 n0 st:=wp js h1 h2
theorem cg0 {α:Type _}{p:α→Prop}:∀ x∈([]:List α),p x:=fun _ h=>by cases h
theorem cgc {α:Type _}{p:α→Prop}{a:α}{l:List α}(h:p a)(t:∀ x∈l,p x):∀ x∈a::l,p x:=fun x hx=>by
 rcases List.mem_cons.1 hx with rfl|hx
 ·exact h
 ·exact t x hx
attribute [go_sem] if_true
end Go.Sx
end
section
namespace Go.Sx
open Go.RowKit
section
variable {P:Program}
end
end Go.Sx
end
section
namespace Go.Sx
open Go.RowKit
def okL {ρ σ τ:Type}(step:τ→σ→ρ⊕σ)(p:τ→σ→Prop):List τ→σ→Prop
 | [],_=>True
 |x::l,s=>p x s∧∀ s',step x s=.inr s'→okL step p l s'
section
variable {ρ σ τ:Type}
def rgN (T:List (Nat×SV))(H:σ→List Ob)(n0:Nat)(st:St):ρ⊕σ→Prop
 | .inl _=>False
 | .inr s'=>eW ⟨T,H s'⟩ n0 ⟨T,st.h⟩
def rgX (exE:ρ→Ex)(T:List (Nat×SV))(Hy:ρ→List Ob)(n0:Nat)(e:Ex)(st:St):ρ⊕σ→Prop
 | .inl y=>exE y=e∧eW ⟨T,Hy y⟩ n0 ⟨T,st.h⟩
 | .inr _=>False
def rgQ (step:τ→σ→ρ⊕σ)(exE:ρ→Ex)(T:List (Nat×SV))(H:σ→List Ob)(Hy:ρ→List Ob)(n0 id:Nat)(x:τ)(s:σ):Ex→St→Prop
 | .normal,st=>rgN T H n0 st (step x s)
 | .exit j,st=>rgX exE T Hy n0 (bif Nat.beq j id then .normal else .exit j) st (step x s)
 | .ret,st=>rgX exE T Hy n0 .ret st (step x s)
 | .pan _,_=>False
variable {step:τ→σ→ρ⊕σ}{exE:ρ→Ex}{T:List (Nat×SV)}{H:σ→List Ob}{Hy:ρ→List Ob}{n0 id j:Nat}{x:τ}{s s':σ}{y:ρ}{st:St}{e:Ex}
@[go_sem] theorem PA:rgN (ρ:=ρ) T H n0 st (.inr s')=eW ⟨T,H s'⟩ n0 ⟨T,st.h⟩:=(rfl)
@[go_sem] theorem PB:rgX (σ:=σ) exE T Hy n0 e st (.inl y)=(exE y=e∧eW ⟨T,Hy y⟩ n0 ⟨T,st.h⟩):=(rfl)
@[go_sem] theorem JV:rgQ step exE T H Hy n0 id x s .normal st=rgN T H n0 st (step x s):=(rfl)
@[go_sem] theorem PC:rgQ step exE T H Hy n0 id x s .ret st=rgX exE T Hy n0 .ret st (step x s):=(rfl)
@[go_sem] theorem NS:rgQ step exE T H Hy n0 id x s (.exit j) st=rgX exE T Hy n0 (bif Nat.beq j id then .normal else .exit j) st (step x s):=(rfl)
@[congr] theorem Me {r r':ρ⊕σ}(h:r=r'):rgN T H n0 st r=rgN T H n0 st r':=by rw[h]
end
section
variable {P:Program}{ts:Tis}{G:Cons}{N:Nat}
theorem B_ (hm:P.follows .mixedOrders=true)(hts:ts.ok P)(hG:ConsOk P G){id:Nat}{g:Operand}{ps:Array Tmp}{assign body:Code}{C:St→Option LCon}
  (hpn:ps.toList.Nodup) (hpN:∀ p∈ps.toList,p<N) (hca:cd N assign=true) (hcb:cd N body=true)
  (h:∀ st lc,C st=some lc→lc.pre→∃ (f:FuncId) (caps:List SV) (τ ρ σ:Type) (l:List τ) (mk:τ→List SV) (step:τ→σ→ρ⊕σ) (p:τ→σ→Prop) (pre:Prop) (s0:σ) (exE:ρ→Ex) (outE:ρ→St) (outN:σ→St) (T:List (Nat×SV)) (H:σ→List Ob) (Hy:ρ→List Ob) (js:List Nat),
   raw st.t g=.fn f [] caps∧lc=LC pre (eT step l s0) exE outE outN∧okL step p l s0∧st.h.length≤(H s0).length∧Sub js st.h.length ⟨st.t,pz (i7 st caps) st.h⟩ ⟨T,H s0⟩∧
   zH P f (fun y=>y::caps.map (ren (zJ (i7 st caps)) 3)) (xV (i7 st caps) st.h) (l.map mk)∧
   (∀ x s,p x s→(mk x).length=ps.size∧∃ L,(∀ l,aw P (some l) N L assign)∧(∀ l,aw P (some l) N L body)∧exec ts G L assign ⟨psT ps.toList (mk x)++T,H s⟩ (fun e st1=>e=.normal∧exec ts G L body st1 (rgQ step exE T H Hy st.h.length id x s)))∧
   (∀ s,eW (outN s) st.h.length ⟨T,H s⟩)∧∀ y,eW (outE y) st.h.length ⟨T,Hy y⟩):gF P none N id (.rangeFunc g ps assign body) C:=by
 refine xW hm hts hG hpn hpN hca hcb fun st lc hC hp=>?_
 obtain⟨f,caps,τ,ρ,σ,l,mk,step,p,pre,s0,exE,outE,outN,T,H,Hy,js,h1,rfl,h2,h3,h4,h5,h6,h7,h8⟩:=h st lc hC hp
 refine⟨f,caps,l.map mk,σ⊕ρ,T,fun z=>match z with| .inl s=>H s| .inr y=>Hy y,fun k z=>match z with| .inl s=>eT step (l.drop k) s=eT step l s0∧okL step p (l.drop k) s| .inr _=>False,
  fun e z=>match z with| .inl _=>False| .inr y=>eT step l s0=.inl y∧(match e with| .ret=>exE y=.ret| .exit j=>exE y=(bif Nat.beq j id then .normal else .exit j) |_=>False),.inl s0,js,h1,⟨rfl,h2⟩,h3,h4,h5,?_,?_,?_,?_⟩
 ·rintro k z args hk hI
  cases z with
  |inr y=>exact hI.elim
  |inl s=>
   obtain⟨hrun,hok⟩:=hI
   rw[List.getElem?_map,Option.map_eq_some_iff]at hk
   obtain⟨x,hx,rfl⟩:=hk
   have hlt:=(List.getElem?_eq_some_iff.1 hx).1
   have hd:l.drop k=x::l.drop (k+1):=by
    rw[List.drop_eq_getElem_cons hlt];congr 1;exact(List.getElem?_eq_some_iff.1 hx).2
   rw[hd]at hrun hok
   obtain⟨hl,L,hla,hlb,hex⟩:=h6 x s hok.1
   refine⟨hl,L,_,hla,hlb,?_,hex⟩
   intro e st' hq
   have fin:∀ e',rgX exE T Hy st.h.length e' st' (step x s)→∃ y js,exE y=e'∧eT step l s0=.inl y∧st.h.length≤(Hy y).length∧Sub js st.h.length ⟨T,st'.h⟩ ⟨T,Hy y⟩:=by
    intro e' q
    cases hs:step x s with
    |inr s'=>rw[hs]at q;exact q.elim
    |inl y=>
     rw[hs]at q
     obtain⟨q1,js,q2,q3⟩:=q
     simp only[eT,hs]at hrun
     exact⟨y,js,q1,hrun.symm,q2,q3⟩
   cases e with
   |normal=>
    change rgN T H st.h.length st' (step x s)at hq
    cases hs:step x s with
    |inl y=>rw[hs]at hq;exact hq.elim
    |inr s'=>
     rw[hs]at hq
     obtain⟨js,q1,q2⟩:=hq
     simp only[eT,hs]at hrun
     exact⟨.inl s',js,⟨hrun,hok.2 s' hs⟩,q1,q2⟩
   |exit j=>
    obtain⟨y,js,q1,q2,q3,q4⟩:=fin _ hq
    exact⟨.inr y,js,⟨q2,q1⟩,q3,q4⟩
   |ret=>
    obtain⟨y,js,q1,q2,q3,q4⟩:=fin _ hq
    exact⟨.inr y,js,⟨q2,q1⟩,q3,q4⟩
   |pan x=>exact hq.elim
 ·intro z hI
  cases z with
  |inr y=>exact hI.elim
  |inl s=>
   obtain⟨js,q1,q2⟩:=h7 s
   have:=hI.1
   rw[List.length_map,List.drop_length]at this
   exact⟨.inr s,js,this,rfl,q1,q2⟩
 ·intro z hS
  cases z with
  |inl s=>exact hS.elim
  |inr y=>
   obtain⟨js,q1,q2⟩:=h8 y
   exact⟨.inl y,js,hS.1.symm,hS.2,q1,q2⟩
 ·intro j z hS
  cases z with
  |inl s=>exact hS.elim
  |inr y=>
   obtain⟨js,q1,q2⟩:=h8 y
   refine⟨.inl y,js,hS.1.symm,?_,q1,q2⟩
   have:=hS.2
   show exE y=_
   rw[this]
   by_cases hj:j=id
   ·rw[if_pos hj]
    have hb:Nat.beq j id=true:=by rw[hj];exact Nat.beq_refl id
    rw[hb];rfl
   ·rw[if_neg hj]
    cases hb:Nat.beq j id with
    |true=>exact absurd (Nat.eq_of_beq_eq_true hb) hj
    |false=>rfl
end
end Go.Sx
end
section
namespace Go.Sx
open Go.RowKit
section
variable {P:Program}{ρ σ τ:Type}
def oP:Ob→Option Nat
 | .mi _ _ _ c=>c
 |_=>none
def nxC (step:τ→σ→ρ⊕σ)(l:List τ)(d:τ)(D:List Nat→Option Nat→σ→St)(n0:Nat)(left:List Nat)(s:σ)(st:St):Option Nat→Prop
 |some j=>j∈left∧lK (fun _ s'=>D (left.erase j) (some j) s') n0 0 st (step (l.getD j d) s)
 |none=>False
def exC (step:τ→σ→ρ⊕σ)(l:List τ)(d:τ)(exE:ρ→Ex)(outE:ρ→St)(n0:Nat)(left:List Nat)(s:σ)(e:Ex)(st:St):Option Nat→Prop
 |some j=>j∈left∧iz exE outE n0 e st (step (l.getD j d) s)
 |none=>False
def cM (step:τ→σ→ρ⊕σ)(l:List τ)(d:τ)(exE:ρ→Ex)(outE:ρ→St)(outN:σ→St)(D:List Nat→Option Nat→σ→St)(n0 id it:Nat)(left:List Nat)(s:σ):Ex→St→Prop
 | .normal,st=>nxC step l d D n0 left s st (oP (ag st.h it))
 | .exit j,st=>bif Nat.beq j id then(left=[]→eW (outN s) n0 st)∧(left≠[]→exC step l d exE outE n0 left s .normal st (oP (ag st.h it)))else exC step l d exE outE n0 left s (.exit j) st (oP (ag st.h it))
 | .ret,st=>exC step l d exE outE n0 left s .ret st (oP (ag st.h it))
 | .pan x,st=>exC step l d exE outE n0 left s (.pan x) st (oP (ag st.h it))
variable {step:τ→σ→ρ⊕σ}{l:List τ}{d:τ}{n0 id it j:Nat}{exE:ρ→Ex}{outE:ρ→St}{outN:σ→St}{D:List Nat→Option Nat→σ→St}{left:List Nat}{s s':σ}{st:St}{x:Value}{e:Ex}{y:ρ}{t:List (Nat×SV)}{h:List Ob}
@[go_sem] theorem PD {m:Option Nat}{n:Nat}{left:List Nat}{c:Option Nat}:oP (.mi m n left c)=c:=(rfl)
@[go_sem] theorem NT:nxC step l d D n0 left s st (some j)=(j∈left∧lK (fun _ s'=>D (left.erase j) (some j) s') n0 0 st (step (l.getD j d) s)):=(rfl)
@[go_sem] theorem NU:exC step l d exE outE n0 left s e st (some j)=(j∈left∧iz exE outE n0 e st (step (l.getD j d) s)):=(rfl)
@[go_sem] theorem Mf:cM step l d exE outE outN D n0 id it left s .normal ⟨t,h⟩=nxC step l d D n0 left s ⟨t,h⟩ (oP (ag h it)):=(rfl)
@[go_sem] theorem PE:cM step l d exE outE outN D n0 id it left s (.exit j) ⟨t,h⟩=bif Nat.beq j id then(left=[]→eW (outN s) n0 ⟨t,h⟩)∧(left≠[]→exC step l d exE outE n0 left s .normal ⟨t,h⟩ (oP (ag h it)))else exC step l d exE outE n0 left s (.exit j) ⟨t,h⟩ (oP (ag h it)):=(rfl)
@[go_sem] theorem Qv:cM step l d exE outE outN D n0 id it left s .ret ⟨t,h⟩=exC step l d exE outE n0 left s .ret ⟨t,h⟩ (oP (ag h it)):=(rfl)
@[go_sem] theorem Qw:cM step l d exE outE outN D n0 id it left s (.pan x) ⟨t,h⟩=exC step l d exE outE n0 left s (.pan x) ⟨t,h⟩ (oP (ag h it)):=(rfl)
@[congr] theorem NV {st st':St}{e e':Ex}(h:st=st')(he:e=e'):cM step l d exE outE outN D n0 id it left s e st=cM step l d exE outE outN D n0 id it left s e' st':=by rw[h,he]
attribute [go_sem] CX
@[go_sem] theorem NW {t:List (Nat×SV)}{h:List Ob}{d:Nat}{s:SV}:St.put ⟨t,h⟩ (some d) s=⟨(d,s)::t,h⟩:=(rfl)
@[go_sem] theorem NX {t:List (Nat×SV)}{h:List Ob}{s:SV}:St.put ⟨t,h⟩ none s=⟨t,h⟩:=(rfl)
theorem tx (l:List τ)(d:τ):(List.range l.length).map (fun j=>l.getD j d)=l:=by
 apply List.ext_getElem
 ·simp
 ·intro i h1 h2
  simp only[List.length_map,List.length_range]at h1
  simp[List.getD_eq_getElem?_getD,List.getElem?_eq_getElem h1]
end
end Go.Sx
end
section
namespace Go.Sx
open Go.RowKit
inductive NLoc where
 |slot (i:Nat) (o:Ob)
 |cell (i j:Nat) (o:Ob)
def D6 (j n:Nat):Ob→Ob
 | .cells l=>.cells (l.set j (.os n))
 |o=>o
def G4 (j:Nat):Ob→Prop
 | .cells l=>nth l j=some (.v (.slice none 0 0))
 |_=>False
def tz:Ob→Prop
 | .row _ l=>l=[]
 | .grid _ l=>l=[]
 |_=>False
def Ca:SV→Ob→Prop
 | .v (.slice none 0 0),_=>True
 | .e0,.row _ _=>True
 |_,_=>False
def mkN:List NLoc→St→St
 | [],st=>st
 | .slot i o::r,⟨t,h⟩ =>mkN r ⟨(i,.os h.length)::t,h++[o]⟩
 | .cell i j o::r,⟨t,h⟩ =>mkN r ⟨t,bu h i (D6 j h.length (ag h i))++[o]⟩
def okN:List NLoc→St→Prop
 | [],_=>True
 | .slot i o::r,⟨t,h⟩ =>Ca (lk i t) o∧tz o∧okN r ⟨(i,.os h.length)::t,h++[o]⟩
 | .cell i j o::r,⟨t,h⟩ =>G4 j (ag h i)∧tz o∧okN r ⟨t,bu h i (D6 j h.length (ag h i))++[o]⟩
section
variable {i j m n:Nat}{o:Ob}{r:List NLoc}{t t2:List (Nat×SV)}{h h2:List Ob}{l:List SV}{ns:List NLoc}{js:List Nat}{st:St}
@[go_sem] theorem PG:mkN [] st=st:=(rfl)
@[go_sem] theorem NY:mkN (.slot i o::r) ⟨t,h⟩=mkN r ⟨(i,.os h.length)::t,h++[o]⟩:=(rfl)
@[go_sem] theorem NZ:mkN (.cell i j o::r) ⟨t,h⟩=mkN r ⟨t,bu h i (D6 j h.length (ag h i))++[o]⟩:=(rfl)
@[go_sem] theorem PH:okN [] st=True:=(rfl)
@[go_sem] theorem N0:okN (.slot i o::r) ⟨t,h⟩=(Ca (lk i t) o∧tz o∧okN r ⟨(i,.os h.length)::t,h++[o]⟩):=(rfl)
@[go_sem] theorem N1:okN (.cell i j o::r) ⟨t,h⟩=(G4 j (ag h i)∧tz o∧okN r ⟨t,bu h i (D6 j h.length (ag h i))++[o]⟩):=(rfl)
@[go_sem] theorem N2:Ca (.v (.slice none 0 0)) o=True:=by cases o <;>rfl
@[go_sem] theorem PI {k:Tag}{m:List k.T}:Ca .e0 (.row k m)=True:=(rfl)
@[go_sem] theorem JW:D6 j n (.cells l)=.cells (l.set j (.os n)):=(rfl)
@[go_sem] theorem JX:G4 j (.cells l)=(nth l j=some (.v (.slice none 0 0))):=(rfl)
theorem A3 (h:tz o):(∃ k,o=.row k [])∨∃ k,o=.grid k []:=by
 cases o <;>simp only[tz]at h
 ·subst h;exact .inl ⟨_,rfl⟩
 ·subst h;exact .inr ⟨_,rfl⟩
theorem D7 {s:SV}{o:Ob}(h:Ca s o):s=.v (.slice none 0 0)∨(s=.e0∧∃ k l,o=.row k l):=by
 unfold Ca at h
 split at h
 ·exact .inl rfl
 ·exact .inr ⟨rfl,_,_,rfl⟩
 ·exact h.elim
theorem oQ:∀ (ns:List NLoc) (st0 st:St),NilS st0 st→okN ns st→NilS st0 (mkN ns st)
 | [],_,_,hn,_=>hn
 | .slot i o::r,st0,⟨t,h⟩,hn,hk=>by
  rcases D7 hk.1 with e| ⟨e,k,l,ho⟩
  ·exact oQ r st0 _ (.slot o hn e (A3 hk.2.1)) hk.2.2
  ·have h2:=hk.2.1
   have h3:=hk.2.2
   rw[ho]at h2 h3
   simp only[tz]at h2
   subst h2
   subst ho
   exact oQ r st0 _ (.slotE k hn e) h3
 | .cell i j o::r,st0,⟨t,h⟩,hn,hk=>by
  refine oQ r st0 _ ?_ hk.2.2
  have h1:=hk.1
  cases ho:ag h i with
  |cells l=>
   rw[ho]at h1
   simp only[G4,dI]at h1
   exact .cell o hn ho h1 (A3 hk.2.1)
  |_=>rw[ho]at h1;exact h1.elim
def mn (m:Nat)(ns:List NLoc)(js:List Nat)(st d:St):Prop:=st.h.length=m∧okN ns st∧m≤d.h.length∧Sub js m (mkN ns st) d
@[go_sem] theorem Mg:mn m ns js ⟨t,h⟩ ⟨t2,h2⟩=(h.length=m∧okN ns ⟨t,h⟩∧m≤h2.length∧Sub js m (mkN ns ⟨t,h⟩) ⟨t2,h2⟩):=(rfl)
end
theorem an {P:Program}{ro:Option Nat}{N:Nat}(c:Code):aw P ro N L0 c:=by
 induction c with
 |seq a b ha hb=>exact⟨ha,hb⟩
 |cond _ a b ha hb=>exact⟨ha,hb⟩
 |block id c hc=>
  cases c with
  |loop c=>exact fun _ _ _ _ _ h=>by cases h
  |rangeFunc f ps a b=>exact fun _ _ _ _ _ h=>by cases h
  |_=>exact hc
 |_=>trivial
section
variable {ρ σ τ:Type}
def pT:Nat→σ→Prop:=fun _ _=>True
@[go_sem] theorem Qy {step:Nat→σ→ρ⊕σ}{n i:Nat}{s:σ}:okI step pT n i s=True:=eq_true (nM _ _ _ fun _ _ _ _=>trivial)
def LCR (m:Nat)(ns:List NLoc)(js:List Nat)(D:Nat→σ→St)(step:Nat→σ→ρ⊕σ)(p:Nat→σ→Prop)(n:Nat)(s0:σ)(B:Prop)(exE:ρ→Ex)(outE:ρ→St)(st:St):LCon:=
 LC (mn m ns js st (D 0 s0)∧B∧okI step p n 0 s0) (ay step n 0 s0) exE outE (D n)
def LCV (m:Nat)(ns:List NLoc)(js:List Nat)(D:Nat→σ→St)(step:Nat→σ→ρ⊕σ)(p:Nat→σ→Prop)(n:Nat)(s0:σ)(exE:ρ→Ex)(outE:ρ→St)(st:St):LCon:=
 LC (mn m ns js st (D 0 s0)∧okI step p n 0 s0∧∀ s,ay step n 0 s0≠ .inr s) (ay step n 0 s0) exE outE (D n)
variable {m:Nat}{ns:List NLoc}{js:List Nat}{step:Nat→σ→ρ⊕σ}{p:Nat→σ→Prop}{n:Nat}{s0:σ}{B:Prop}{exE:ρ→Ex}{outE:ρ→St}{outN:σ→St}{st:St}{Q:Ex→St→Prop}
@[go_sem] theorem Mh {D:Nat→σ→St}:kn Q (some (LCR m ns js D step p n s0 B exE outE st))=((mn m ns js st (D 0 s0)∧B∧okI step p n 0 s0)∧(∀ x,ay step n 0 s0=.inl x→Q (exE x) (outE x))∧∀ s,ay step n 0 s0=.inr s→Q .normal (D n s)):=xS
@[go_sem] theorem Mi {D:Nat→σ→St}:kn Q (some (LCV m ns js D step p n s0 exE outE st))=((mn m ns js st (D 0 s0)∧okI step p n 0 s0∧∀ s,ay step n 0 s0≠ .inr s)∧∀ x,ay step n 0 s0=.inl x→Q (exE x) (outE x)):=by
 refine xS.trans ?_
 apply propext
 constructor
 ·rintro⟨h1,h2,_⟩;exact⟨h1,h2⟩
 ·rintro⟨h1,h2⟩;exact⟨h1,h2,fun s hs=>absurd hs (h1.2.2 s)⟩
def cR (step:Nat→σ→ρ⊕σ)(exE:ρ→Ex)(outE:ρ→St)(D:Nat→σ→St)(m id k:Nat)(s:σ):Ex→St→Prop
 | .normal,st=>lK D m k st (step k s)
 | .exit j,st=>iz exE outE m (bif Nat.beq j id then .normal else .exit j) st (step k s)
 | .ret,st=>iz exE outE m .ret st (step k s)
 | .pan x,st=>iz exE outE m (.pan x) st (step k s)
def cZ (d:St)(m id:Nat):Ex→St→Prop
 | .exit j,st=>bif Nat.beq j id then eW d m st else False
 |_,_=>False
variable {D:Nat→σ→St}{id k j:Nat}{s:σ}{x:Value}{d:St}{e e':Ex}
@[go_sem] theorem Mj:cR step exE outE D m id k s .normal st=lK D m k st (step k s):=(rfl)
@[go_sem] theorem PJ:cR step exE outE D m id k s (.exit j) st=iz exE outE m (bif Nat.beq j id then .normal else .exit j) st (step k s):=(rfl)
@[go_sem] theorem Qz:cR step exE outE D m id k s .ret st=iz exE outE m .ret st (step k s):=(rfl)
@[go_sem] theorem QA:cR step exE outE D m id k s (.pan x) st=iz exE outE m (.pan x) st (step k s):=(rfl)
@[go_sem] theorem PK:cZ d m id (.exit j) st=bif Nat.beq j id then eW d m st else False:=(rfl)
@[congr] theorem N3 {st':St}(h:st=st')(he:e=e'):cR step exE outE D m id k s e st=cR step exE outE D m id k s e' st':=by rw[h,he]
@[congr] theorem N4 {st':St}(h:st=st')(he:e=e'):cZ d m id e st=cZ d m id e' st':=by rw[h,he]
@[congr] theorem Ig {r r':ρ⊕σ}(h:r=r')(he:e=e'):iz exE outE m e st r=iz exE outE m e' st r':=by rw[h,he]
end
section
variable {P:Program}{ρ σ τ:Type}{ts:Tis}{G:Cons}{ro:Option Nat}{N:Nat}{id:Nat}{c:Code}{C:St→Option LCon}{m:Nat}{ns:List NLoc}{js:List Nat}{step:Nat→σ→ρ⊕σ}{p:Nat→σ→Prop}{n:Nat}{s0:σ}{exE:ρ→Ex}{outE:ρ→St}{D:Nat→σ→St}
theorem D8 {n0:Nat}(hn0:n0=m){s:σ}{k:Nat}(hlt:k<n){I:Nat×σ→Prop}{μ:Nat×σ→Nat}{outN:σ→St}{pre:Prop}{run:ρ⊕σ}
  (hI:∀ s',step k s=.inr s'→I (k+1,s')∧μ (k+1,s') <μ (k,s)) (hx:∀ x,step k s=.inl x→run=.inl x):
  ∀ e st',cR step exE outE D m id k s e st'→mf (fun x:Nat×σ=>D x.1 x.2) I μ n0 (k,s) id (fun e st'=>∃ r js,(LC pre run exE outE outN).post r∧(LC pre run exE outE outN).ex r=e∧n0≤((LC pre run exE outE outN).out r).h.length∧Sub js n0 st' ((LC pre run exE outE outN).out r)) e st':=by
 subst hn0
 have hfin:∀ e st',iz exE outE n0 e st' (step k s)→∃ r js,(LC pre run exE outE outN).post r∧(LC pre run exE outE outN).ex r=e∧n0≤((LC pre run exE outE outN).out r).h.length∧Sub js n0 st' ((LC pre run exE outE outN).out r):=by
  intro e st' q
  cases hs:step k s with
  |inr s'=>rw[hs]at q;exact q.elim
  |inl x=>
   rw[hs]at q
   obtain⟨q2,js,q3,q4⟩:=q
   exact⟨.inl x,js,(hx x hs).symm,q2,q3,q4⟩
 intro e st' hq
 cases e with
 |normal=>
  change lK D n0 k st' (step k s)at hq
  cases hs:step k s with
  |inl x=>rw[hs]at hq;exact hq.elim
  |inr s'=>
   rw[hs]at hq
   obtain⟨js,q3,q4⟩:=hq
   obtain⟨i1,i2⟩:=hI s' hs
   exact⟨(k+1,s'),js,i1,i2,q3,q4⟩
 |exit j=>
  change iz exE outE n0 (bif Nat.beq j id then .normal else .exit j) st' (step k s)at hq
  show bif Nat.beq j id then _ else _
  cases hb:Nat.beq j id with
  |true=>rw[hb]at hq;exact hfin _ _ hq
  |false=>rw[hb]at hq;exact hfin _ _ hq
 |ret=>exact hfin _ _ hq
 |pan x=>exact hfin _ _ hq
theorem qN {B:Prop}(hm:P.follows .mixedOrders=true)(hts:ts.ok P)(hG:ConsOk P G)(hc:cd N c=true)(hC:∀ st,C st=some (LCR m ns js D step p n s0 B exE outE st))
  (h:B→∀ k s,k<n→p k s→∃ L Q,aw P ro N L c∧(∀ e st',Q e st'→cR step exE outE D m id k s e st')∧exec ts G L c (D k s) Q)
  (h2:B→∀ s,∃ Q,(∀ e st',Q e st'→cZ (D n s) m id e st')∧exec ts G L0 c (D n s) Q):gF P ro N id (.loop c) C:=by
 refine pA hm hts hG hc fun st lc hC' hp=>?_
 rw[hC st]at hC'
 cases hC'
 obtain⟨⟨hlen,hok,hle,hsub⟩,hB,h1⟩:=hp
 refine⟨Nat×σ,fun x=>D x.1 x.2,fun x=>x.1≤n∧okI step p (n - x.1) x.1 x.2∧ay step (n - x.1) x.1 x.2=ay step n 0 s0,fun x=>n - x.1,(0,s0),mkN ns st,js,⟨Nat.zero_le _,by simpa using h1,by simp⟩,oQ ns st st (.refl _) hok,by rw[hlen];exact hle,by rw[hlen];exact hsub,?_⟩
 rintro⟨k,s⟩ ⟨hk,hJ,hrun⟩
 simp only at hk hJ hrun
 rcases Nat.lt_or_ge k n with hlt|hge
 ·rw[show n - k=(n - k - 1)+1 by omega]at hrun hJ
  obtain⟨L,Q,hl,hQ,hex⟩:=h hB k s hlt hJ.1
  have hI:∀ s',step k s=.inr s'→okI step p (n - (k+1)) (k+1) s'∧ay step (n - (k+1)) (k+1) s'=ay step n 0 s0:=fun s' hs=>by
   have:=hJ.2 s' hs
   rw[show n - k - 1=n - (k+1) by omega]at this hrun
   simp only[ay,hs]at hrun
   exact⟨this,hrun⟩
  have hx:∀ x,step k s=.inl x→ay step n 0 s0=.inl x:=fun x hs=>by
   simp only[ay,hs]at hrun
   exact hrun.symm
  exact⟨L,Q,hl,fun e st' q=>D8 hlen hlt (fun s' hs=>⟨⟨hlt,hI s' hs⟩,by simp only;omega⟩) hx e st' (hQ e st' q),hex⟩
 ·have hkn:k=n:=by omega
  subst hkn
  obtain⟨Q,hQ,hex⟩:=h2 hB s
  refine⟨L0,Q,an c,fun e st' q=>?_,hex⟩
  have hq:=hQ e st' q
  simp only[Nat.sub_self,ay]at hrun
  cases e with
  |exit j=>
   change bif Nat.beq j id then eW (D k s) m st' else False at hq
   show bif Nat.beq j id then _ else _
   cases hb:Nat.beq j id with
   |true=>
    rw[hb]at hq
    obtain⟨js,q3,q4⟩:=hq
    exact⟨.inr s,js,hrun,rfl,by rw[hlen];exact q3,by rw[hlen];exact q4⟩
   |false=>rw[hb]at hq;exact hq.elim
  |_=>exact hq.elim
theorem dQ {B:Prop}(hm:P.follows .mixedOrders=true)(hts:ts.ok P)(hG:ConsOk P G)(hc:cd N c=true)(hC:∀ st,C st=some (LCR m ns js D step p n s0 B exE outE st))(M:Int)(hn:n=M.toNat)(hB:B→M<9223372036854775808)
  (h:B→∀ k s,k<n→p k s→IntKind.i64.wrap ((k:Int)+1)=((k+1:Nat):Int)→decide ((k:Int) <M)=true→∃ L,aw P ro N L c∧exec ts G L c (D k s) (cR step exE outE D m id k s))
  (h2:B→∀ s,decide ((n:Int) <M)=false→exec ts G L0 c (D n s) (cZ (D n s) m id)):gF P ro N id (.loop c) C:=by
 refine qN hm hts hG hc hC (fun b k s hlt hp=>?_) fun b s=>⟨_,fun _ _ q=>q,h2 b s ?_⟩
 ·obtain⟨L,h1,h3⟩:=h b k s hlt hp (DM (hn▸hlt) (hB b)) (decide_eq_true (by omega))
  exact⟨L,_,h1,fun _ _ q=>q,h3⟩
 ·rw[decide_eq_false_iff_not];omega
theorem tA (E:Prop)(hm:P.follows .mixedOrders=true)(hts:ts.ok P)(hG:ConsOk P G)(hc:cd N c=true)(hC:∀ st,C st=some (LCR m ns js D step p n s0 True exE outE st))(M:Int)(hn:n=M.toNat)(hE:E→M<9223372036854775808)
  (h:E→∀ k s,k<n→p k s→IntKind.i64.wrap ((k:Int)+1)=((k+1:Nat):Int)→decide ((k:Int) <M)=true→∃ L,aw P ro N L c∧exec ts G L c (D k s) (cR step exE outE D m id k s))
  (h2:E→∀ s,decide ((n:Int) <M)=false→exec ts G L0 c (D n s) (cZ (D n s) m id)) (h3:¬E→∀ k s,exec ts G L0 c (D k s) fun _ _=>False):gF P ro N id (.loop c) C:=by
 by_cases hb:E
 ·refine qN hm hts hG hc hC (fun b k s hlt hp=>?_) fun b s=>⟨_,fun _ _ q=>q,h2 hb s ?_⟩
  ·obtain⟨L,h1,h4⟩:=h hb k s hlt hp (DM (hn▸hlt) (hE hb)) (decide_eq_true (by omega))
   exact⟨L,_,h1,fun _ _ q=>q,h4⟩
  ·rw[decide_eq_false_iff_not];omega
 ·exact qN hm hts hG hc hC (fun _ k s _ _=>⟨L0,_,an c,fun _ _ q=>q.elim,h3 hb k s⟩) fun _ s=>⟨_,fun _ _ q=>q.elim,h3 hb n s⟩
theorem eY (hm:P.follows .mixedOrders=true)(hts:ts.ok P)(hG:ConsOk P G)(hc:cd N c=true)(hC:∀ st,C st=some (LCV m ns js D step p n s0 exE outE st))
  (h:∀ k s,p k s→∃ L,aw P ro N L c∧exec ts G L c (D k s) (cR step exE outE D m id k s)):gF P ro N id (.loop c) C:=by
 refine pA hm hts hG hc fun st lc hC' hp=>?_
 rw[hC st]at hC'
 cases hC'
 obtain⟨⟨hlen,hok,hle,hsub⟩,h1,hno⟩:=hp
 refine⟨Nat×σ,fun x=>D x.1 x.2,fun x=>x.1≤n∧okI step p (n - x.1) x.1 x.2∧ay step (n - x.1) x.1 x.2=ay step n 0 s0,fun x=>n - x.1,(0,s0),mkN ns st,js,⟨Nat.zero_le _,by simpa using h1,by simp⟩,oQ ns st st (.refl _) hok,by rw[hlen];exact hle,by rw[hlen];exact hsub,?_⟩
 rintro⟨k,s⟩ ⟨hk,hJ,hrun⟩
 simp only at hk hJ hrun
 have hlt:k<n:=by
  rcases Nat.lt_or_ge k n with h|h
  ·exact h
  ·have hkn:k=n:=by omega
   subst hkn
   simp only[Nat.sub_self,ay]at hrun
   exact absurd hrun.symm (hno s)
 rw[show n - k=(n - k - 1)+1 by omega]at hrun hJ
 obtain⟨L,hl,hex⟩:=h k s hJ.1
 have hI:∀ s',step k s=.inr s'→okI step p (n - (k+1)) (k+1) s'∧ay step (n - (k+1)) (k+1) s'=ay step n 0 s0:=fun s' hs=>by
  have:=hJ.2 s' hs
  rw[show n - k - 1=n - (k+1) by omega]at this hrun
  simp only[ay,hs]at hrun
  exact⟨this,hrun⟩
 have hx:∀ x,step k s=.inl x→ay step n 0 s0=.inl x:=fun x hs=>by
  simp only[ay,hs]at hrun
  exact hrun.symm
 exact⟨L,_,hl,fun e st' q=>D8 hlen hlt (fun s' hs=>⟨⟨hlt,hI s' hs⟩,by simp only;omega⟩) hx e st' q,hex⟩
theorem lL {α:Type}{l:List α}(h:l.length≤cp):(l.length:Int) <9223372036854775808:=by unfold cp at h;omega
end
section
universe u
variable {α:Type u}{G:List SV→α→Prop}{r:List SV}
theorem d8 {k:Int→List SV→Option α}(h:∀ n l c,k n l=some c→G (.v (.int .i64 n)::l) c):∀ l c,pI k l=some c→G l c:=fun l c hc=>by
 obtain⟨n,r,rfl,h1⟩:=JB hc;exact h n r c h1
theorem JY {k:Bool→List SV→Option α}(h:∀ n l c,k n l=some c→G (.v (.bool n)::l) c):∀ l c,pB k l=some c→G l c:=fun l c hc=>by
 obtain⟨n,r,rfl,h1⟩:=JD hc;exact h n r c h1
theorem fX {t:Tag}{k:List t.T→List SV→Option α}(h:∀ n l c,k n l=some c→G (.rs t n::l) c):∀ l c,pR t k l=some c→G l c:=fun l c hc=>by
 obtain⟨n,r,rfl,h1⟩:=JE hc;exact h n r c h1
theorem cF {t:Tag}{k:t.T→List SV→Option α}(h:∀ n l c,k n l=some c→G (.agg (cellsOf t n)::l) c):∀ l c,pD t k l=some c→G l c:=fun l c hc=>by
 obtain⟨n,r,rfl,h1⟩:=JG hc;exact h n r c h1
theorem wq {t:Tag}{k:t.T→List SV→Option α}(h:∀ n l c,k n l=some c→G (.ep (cellsOf t n) 0::l) c):∀ l c,pX t k l=some c→G l c:=fun l c hc=>by
 obtain⟨n,r,rfl,h1⟩:=JF hc;exact h n r c h1
theorem JZ {t t2:Tag}{k:List (t.T×t2.T)→List SV→Option α}(h:∀ n l c,k n l=some c→G (.rm t t2 n::l) c):∀ l c,pM t t2 k l=some c→G l c:=fun l c hc=>by
 obtain⟨n,r,rfl,h1⟩:=DH hc;exact h n r c h1
theorem bH {c0:α}(h:G [] c0):∀ l c,pE c0 l=some c→G l c:=fun l c hc=>by
 obtain⟨rfl,rfl⟩:=zG hc;exact h
end
end Go.Sx
end
section
namespace Go.Sx
open Go.RowKit
section
universe u
variable {α:Type u}{G:List SV→α→Prop}
def apO:Option (List SV→Option α)→List SV→Option α
 |some q,r=>q r
 |none,_=>none
@[go_sem] theorem N5 {q:List SV→Option α}{r:List SV}:apO (some q) r=q r:=(rfl)
@[go_sem] theorem N6 {r:List SV}:apO (α:=α) none r=none:=(rfl)
def pFn (f:Nat)(k:List SV→Option (List SV→Option α)):List SV→Option α
 | .fn g [] caps::r=>bif Nat.beq g f then apO (k caps) r else none
 |_=>none
def pXF (f:Nat)(k:List SV→Option (List SV→Option α)):List SV→Option α
 | .ep [.fn g [] caps] 0::r=>bif Nat.beq g f then apO (k caps) r else none
 |_=>none
@[go_sem] theorem QB {f g:Nat}{k:List SV→Option (List SV→Option α)}{caps r:List SV}:pFn f k (.fn g [] caps::r)=bif Nat.beq g f then apO (k caps) r else none:=(rfl)
@[go_sem] theorem QC {f g:Nat}{k:List SV→Option (List SV→Option α)}{caps r:List SV}:pXF f k (.ep [.fn g [] caps] 0::r)=bif Nat.beq g f then apO (k caps) r else none:=(rfl)
theorem G5 {o:Option (List SV→Option α)}{r:List SV}{c:α}(h:apO o r=some c):∃ q,o=some q∧q r=some c:=by
 cases o with
 |none=>cases h
 |some q=>exact⟨q,rfl,h⟩
theorem pC {f:Nat}{k:List SV→Option (List SV→Option α)}(h:∀ caps q,k caps=some q→∀ l c,q l=some c→G (.fn f [] caps::l) c):∀ l c,pFn f k l=some c→G l c:=fun l c hc=>by
 unfold pFn at hc
 split at hc
 ·rename_i g caps r
  cases hb:Nat.beq g f with
  |false=>rw[hb]at hc;cases hc
  |true=>
   rw[hb]at hc
   obtain⟨q,h1,h2⟩:=G5 hc
   have:=Nat.eq_of_beq_eq_true hb
   subst this
   exact h caps q h1 r c h2
 ·cases hc
def pFB (f:Nat)(k:List SV→Option (List SV→Option α)):List SV→Option α
 | .fn g caps []::r=>bif Nat.beq g f then apO (k caps) r else none
 |_=>none
def N7 (f:Nat)(k:List SV→Option (List SV→Option α)):List SV→Option α
 | .ep [.fn g caps []] 0::r=>bif Nat.beq g f then apO (k caps) r else none
 |_=>none
@[go_sem] theorem QD {f g:Nat}{k:List SV→Option (List SV→Option α)}{caps r:List SV}:pFB f k (.fn g caps []::r)=bif Nat.beq g f then apO (k caps) r else none:=(rfl)
@[go_sem] theorem PL {f g:Nat}{k:List SV→Option (List SV→Option α)}{caps r:List SV}:N7 f k (.ep [.fn g caps []] 0::r)=bif Nat.beq g f then apO (k caps) r else none:=(rfl)
@[go_sem] theorem QE {f g:Nat}{k:List SV→Option (List SV→Option α)}{b c r:List SV}{x:SV}:pFB f k (.fn g b (x::c)::r)=none:=(rfl)
@[go_sem] theorem PM {f g:Nat}{k:List SV→Option (List SV→Option α)}{b c r:List SV}{x:SV}:N7 f k (.ep [.fn g b (x::c)] 0::r)=none:=(rfl)
@[go_sem] theorem QF {f g:Nat}{k:List SV→Option (List SV→Option α)}{b c r:List SV}{x:SV}:pFn f k (.fn g (x::b) c::r)=none:=(rfl)
@[go_sem] theorem QG {f g:Nat}{k:List SV→Option (List SV→Option α)}{b c r:List SV}{x:SV}:pXF f k (.ep [.fn g (x::b) c] 0::r)=none:=(rfl)
end
def pXX {α:Type 1}(t:Tag)(k:t.T→List SV→Option α):List SV→Option α
 | .ep [s] 0::r=>pX t k (s::r)
 |_=>none
@[go_sem] theorem N8 {α:Type 1}{t:Tag}{k:t.T→List SV→Option α}{s:SV}{r:List SV}:pXX t k (.ep [s] 0::r)=pX t k (s::r):=(rfl)
theorem G6 {α:Type 1}{G:List SV→α→Prop}{t:Tag}{k:List t.T→List SV→Option α}(h:∀ n l c,k n l=some c→G (.ep [.rs t n] 0::l) c):∀ l c,pXR t k l=some c→G l c:=fun l c hc=>by
 obtain⟨n,r,rfl,h1⟩:=G3 hc;exact h n r c h1
theorem cl3 {p:Prop}(h:p:=by((repeat' (first|with_reducible refine And.intro ?_ ?_|((with_reducible show _≠_);first|assumption|omega|(simp_all [b8,cq];done) |grind) |with_reducible intro _)) <;>(first|done|assumption|rfl|omega|exact cl|(simp_all only[DK,DL,Sum.inr.injEq,Sum.inl.injEq,forall_eq',forall_const,true_imp_iff,cond_true,cond_false,and_self];done)))):p:=h
def G7 (k:Tag)(K:List k.T→Option HCon):List Ob→Option HCon
 | [.row k' l] =>if h:k'=k then K (h▸l)else none
 |_=>none
theorem D9 {k:Tag}{K:List k.T→Option HCon}{h:List Ob}{c:HCon}(hh:G7 k K h=some c):∃ l,h=[.row k l]∧K l=some c:=by
 unfold G7 at hh;split at hh
 ·split at hh
  ·rename_i e;subst e;exact⟨_,rfl,hh⟩
  ·cases hh
 ·cases hh
end Go.Sx
end
section
namespace Go.Sx
open Go.Proofs
set_option maxRecDepth 100000
set_option linter.unusedSimpArgs false
theorem czl {p:Prop}(h:p:=by first|(simp only[*,cond_true,cond_false,Bool.not_true,Bool.not_false,go_sem,Nat.reduceBEq,Nat.reduceLeDiff,Nat.reduceLT,decide_true,Nat.reduceAdd,Nat.reduceSub,Nat.reduceMul,Int.reduceLE,Int.reduceLT,Int.reduceToNat,Int.reduceNeg,reduceCtorEq];done) |fail):p:=h
theorem fH {p:Prop}(h:p:=by(first|done|(repeat' (first|with_reducible refine And.intro ?_ ?_|((with_reducible show _≠_);first|assumption|omega|(simp_all [b8,cq];done) |grind) |with_reducible intro _)) <;>(first|done|with_reducible exact Empty.elim ‹Empty› |with_reducible assumption|rfl|omega|assumption|decide|exact fk [0] |exact czl|(simp only[*,cond_true,cond_false,Bool.not_true,Bool.not_false,go_sem,Nat.reduceBEq,Nat.reduceLeDiff,Nat.reduceLT,decide_true,Nat.reduceAdd,Nat.reduceSub,Nat.reduceMul,Int.reduceLE,Int.reduceLT,Int.reduceToNat,Int.reduceNeg,reduceCtorEq];(repeat' (first|with_reducible refine And.intro ?_ ?_|((with_reducible show _≠_);first|assumption|omega|(simp_all [b8,cq];done) |grind) |with_reducible intro _)) <;>(first|done|assumption|rfl|omega|decide|exact fk [0] |(simp_all [b8,cq];done))) |(simp_all [okI,b8,cq];done) |(simp_all [b8,cq];(first|done|exact fk2 [0])) |exact fk2 [0]))):p:=h
theorem ky {p:Prop}(h:p:=by simp only[go_sem,Nat.reduceBEq,Nat.reduceLeDiff,Nat.reduceLT,decide_true,Nat.reduceAdd,Nat.reduceSub,Nat.reduceMul,Int.reduceLE,Int.reduceLT,Int.reduceToNat,Int.reduceNeg,reduceCtorEq,hc,hw];all_goals exact fH):p:=h
theorem kz {p:Prop}(h:p:=by simp only[go_sem,Nat.reduceBEq,Nat.reduceLeDiff,Nat.reduceLT,decide_true,Nat.reduceAdd,Nat.reduceSub,Nat.reduceMul,Int.reduceLE,Int.reduceLT,Int.reduceToNat,Int.reduceNeg,reduceCtorEq,hc];all_goals exact fH):p:=h
def fK (x:Int):Bool:=false
@[go_sem] def mC:List SV→Option Con:=(pI fun x=>(pE (.det True (.v (.bool (fK x))))))
theorem qO:FnOk Tryz.prog 62 mC:=by
 have hG:ConsOk Tryz.prog (mkG [] []):=a_ cg0 cg0
 refine cr [.o] mixed aH hG (fn:=Tryz.f62) (c:=ae Tryz.f62) (by kernel_rfl) (by kernel_rfl) (by kernel_rfl) (by kernel_rfl) (d8 fun x=>(bH (fun hp=>?_)))
 dsimp only[bp]at hp
 refine⟨Nat.le_of_ble_eq_true rfl,L0,an _,?_⟩
 ·unfold ae Tryz.f62
  try unfold fK
  simp only[go_sem,Nat.reduceBEq,Nat.reduceLeDiff,Nat.reduceLT,decide_true,Nat.reduceAdd,Nat.reduceSub,Nat.reduceMul,Int.reduceLE,Int.reduceLT,Int.reduceToNat,Int.reduceNeg,reduceCtorEq]
  all_goals exact cl
def cX (x:Int)(y:Int):Int:=(bif(fK x)then(bif(fK y)then 0 else(-1))else(bif(fK y)then 1 else(bif(decide (x<y))then(-1)else(bif(decide (x > y))then 1 else 0))))
@[go_sem] def eI:List SV→Option Con:=(pI fun x=>(pI fun y=>(pE (.det True (.v (.int .i64 (cX x y)))))))
theorem fz:FnOk Tryz.prog 38 eI:=by
 have hG:ConsOk Tryz.prog (mkG [(62,mC)] []):=a_ (cgc qO cg0) cg0
 refine cr [.o] mixed aH hG (fn:=Tryz.f38) (c:=ae Tryz.f38) (by kernel_rfl) (by kernel_rfl) (by kernel_rfl) (by kernel_rfl) (d8 fun x=>(d8 fun y=>(bH (fun hp=>?_))))
 dsimp only[bp]at hp
 refine⟨Nat.le_of_ble_eq_true rfl,L0,an _,?_⟩
 ·unfold ae Tryz.f38
  try unfold cX
  simp only[go_sem,Nat.reduceBEq,Nat.reduceLeDiff,Nat.reduceLT,decide_true,Nat.reduceAdd,Nat.reduceSub,Nat.reduceMul,Int.reduceLE,Int.reduceLT,Int.reduceToNat,Int.reduceNeg,reduceCtorEq]
  all_goals exact cl
def ai (n:Int):Int:=(bif(decide (n<0))then(IntKind.u64.wrap (0 - (IntKind.u64.wrap n)))else(IntKind.u64.wrap n))
@[go_sem] def iA:List SV→Option Con:=(pI fun n=>(pE (.det True (.v (.int .u64 (ai n))))))
theorem kA:FnOk Tryz.prog 89 iA:=by
 have hG:ConsOk Tryz.prog (mkG [] []):=a_ cg0 cg0
 refine cr [.o] mixed aH hG (fn:=Tryz.f89) (c:=ae Tryz.f89) (by kernel_rfl) (by kernel_rfl) (by kernel_rfl) (by kernel_rfl) (d8 fun n=>(bH (fun hp=>?_)))
 dsimp only[bp]at hp
 refine⟨Nat.le_of_ble_eq_true rfl,L0,an _,?_⟩
 ·unfold ae Tryz.f89
  try unfold ai
  simp only[go_sem,Nat.reduceBEq,Nat.reduceLeDiff,Nat.reduceLT,decide_true,Nat.reduceAdd,Nat.reduceSub,Nat.reduceMul,Int.reduceLE,Int.reduceLT,Int.reduceToNat,Int.reduceNeg,reduceCtorEq]
  all_goals exact cl
def bA (a:Ratio):Int:=(bif(((((decide (a.d<1)) ||(decide (a.d > 1073741824))) ||(decide (a.n< (-1073741824)))) ||(decide (a.n > 1073741824))) ||(((n8 (Int.toNat (ai a.n)) (Int.toNat (IntKind.u64.wrap a.d)):Nat):Int) !=1))then 120 else 0)
def ot (a:Ratio):Prop:=(((((decide (a.d<1)) ||(decide (a.d > 1073741824))) ||(decide (a.n< (-1073741824)))) ||(decide (a.n > 1073741824)))=false→(0≤(ai a.n)∧0≤(IntKind.u64.wrap a.d)))
theorem tB (n:Int):0≤IntKind.u64.wrap n:=by
 simp[IntKind.wrap,IntKind.bits,IntKind.signed];omega
theorem qP (n:Int):0≤ai n:=by
 unfold ai
 cases decide (n<0) <;>exact tB _
theorem tC (a:Ratio):ot a:=fun _=>⟨qP _,tB _⟩
@[go_sem] def jk:List SV→Option Con:=(pD .ratio fun a=>(pE (.det True (.v (.int .i64 (bA a))))))
theorem kB:FnOk Tryz.prog 60 jk:=by
 have hG:ConsOk Tryz.prog (mkG [(88,C83),(89,iA)] []):=a_ (cgc D3 (cgc kA cg0)) cg0
 refine cr [.o] mixed aH hG (fn:=Tryz.f60) (c:=ae Tryz.f60) (by kernel_rfl) (by kernel_rfl) (by kernel_rfl) (by kernel_rfl) (cF fun a=>(bH (fun hp=>?_)))
 dsimp only[bp]at hp
 have hp:=tC a
 unfold ot at hp
 refine⟨Nat.le_of_ble_eq_true rfl,L0,an _,?_⟩
 ·unfold ae Tryz.f60
  try unfold bA
  simp only[go_sem,Nat.reduceBEq,Nat.reduceLeDiff,Nat.reduceLT,decide_true,Nat.reduceAdd,Nat.reduceSub,Nat.reduceMul,Int.reduceLE,Int.reduceLT,Int.reduceToNat,Int.reduceNeg,reduceCtorEq,C83]
  all_goals exact cl
def lM (a:Ratio)(b:Ratio):Int×Int:=(bif(((bA a) !=0) ||((bA b) !=0))then(0,120)else((cX (IntKind.i64.wrap (a.n*b.d)) (IntKind.i64.wrap (b.n*a.d))),0))
@[go_sem] def rC:List SV→Option Con:=(pD .ratio fun a=>(pD .ratio fun b=>(pE (.det True (.tup [.v (.int .i64 ((lM a b).1)),.v (.int .i64 ((lM a b).2))])))))
theorem wr:FnOk Tryz.prog 141 rC:=by
 have hG:ConsOk Tryz.prog (mkG [(38,eI),(60,jk)] []):=a_ (cgc fz (cgc kB cg0)) cg0
 refine cr [.o,.o] mixed aH hG (fn:=Tryz.f141) (c:=ae Tryz.f141) (by kernel_rfl) (by kernel_rfl) (by kernel_rfl) (by kernel_rfl) (cF fun a=>(cF fun b=>(bH (fun hp=>?_))))
 dsimp only[bp]at hp
 refine⟨Nat.le_of_ble_eq_true rfl,L0,an _,?_⟩
 ·unfold ae Tryz.f141
  try unfold lM
  simp only[go_sem,Nat.reduceBEq,Nat.reduceLeDiff,Nat.reduceLT,decide_true,Nat.reduceAdd,Nat.reduceSub,Nat.reduceMul,Int.reduceLE,Int.reduceLT,Int.reduceToNat,Int.reduceNeg,reduceCtorEq]
  all_goals exact cl
def uf (ok:Bool)(e:Int):Unit:=(bif(!ok)then default else())
def cg (ok:Bool)(e:Int):Bool:=(bif(!ok)then false else true)
@[go_sem] def jP:List SV→Option Con:=(pB fun ok=>(pI fun e=>(pE (.may (cg ok e) (.tup []) (.iface 135 (.int .i64 e))))))
theorem lN:FnOk Tryz.prog 58 jP:=by
 have hG:ConsOk Tryz.prog (mkG [] []):=a_ cg0 cg0
 refine cr [] mixed aH hG (fn:=Tryz.f58) (c:=ae Tryz.f58) (by kernel_rfl) (by kernel_rfl) (by kernel_rfl) (by kernel_rfl) (JY fun ok=>(d8 fun e=>(bH (fun hp=>?_))))
 dsimp only[bp]at hp
 refine⟨Nat.le_of_ble_eq_true rfl,L0,an _,?_⟩
 ·unfold ae Tryz.f58
  try unfold uf
  try unfold cg
  simp only[go_sem,Nat.reduceBEq,Nat.reduceLeDiff,Nat.reduceLT,decide_true,Nat.reduceAdd,Nat.reduceSub,Nat.reduceMul,Int.reduceLE,Int.reduceLT,Int.reduceToNat,Int.reduceNeg,reduceCtorEq]
  all_goals exact cl
@[go_sem] def bD (l_:List Int)(k_0:Nat)(s_0:Unit):Unit⊕Unit:=(bif(decide ((l_.getD (Int.toNat ((k_0:Int)+1)) (0:Int)) < (l_.getD (Int.toNat (IntKind.i64.wrap (((k_0:Int)+1) - 1))) (0:Int))))then .inl ()else .inr ())
def fA (l_:List Int)(k_0:Nat)(s_0:Unit):Prop:=(l_.length≤cp→((0≤((k_0:Int)+1)∧((k_0:Int)+1) < (l_.length:Int))∧(0≤(IntKind.i64.wrap (((k_0:Int)+1) - 1))∧(IntKind.i64.wrap (((k_0:Int)+1) - 1)) < (l_.length:Int))))
def ar (l_:List Int):Bool:=(match ay (bD l_) (l_.length - 1) 0 ()with| .inl x_0_0=>false| .inr s_0=>true)
def mD (l_:List Int):Prop:=okI (bD l_) (fA l_) (l_.length - 1) 0 ()
theorem qQ (l_:List Int):mD l_:=nM _ _ _ fun j s h1 h2 hm=>by
 unfold cp at hm
 rw[bK (by omega) (by omega)]
 omega
@[go_sem] def g7:List SV→Option Con:=(pR .int fun l_=>(pE (.det True (.v (.bool (ar l_))))))
theorem i9:FnOk Tryz.prog 84 g7:=by
 have hG:ConsOk Tryz.prog (mkG [] []):=a_ cg0 cg0
 refine cr [.o] mixed aH hG (fn:=Tryz.f84) (c:=ae Tryz.f84) (by kernel_rfl) (by kernel_rfl) (by kernel_rfl) (by kernel_rfl) (fX fun l_=>(bH (fun hp=>?_)))
 dsimp only[bp]at hp
 have hp:=qQ l_
 unfold mD at hp
 refine⟨Nat.le_of_ble_eq_true rfl,(fun id st=>bif Nat.beq id 0 then some (LC (ρ:=Unit) (σ:=Unit) (lk 0 st.t=.rs .int l_∧lk 3 st.t=.v (.int .i64 1)∧st.h=[]∧okI (bD l_) (fA l_) (l_.length - 1) 0 ()) (ay (bD l_) (l_.length - 1) 0 ()) (fun _=>.ret) (fun x_0_0=>⟨[(2,.v (.bool false))],[]⟩) (fun s_0=>⟨[],[]⟩))else none),?_,?_⟩
 ·unfold ae Tryz.f84
  simp only[aw,true_and,and_true]
  ·refine B7 mixed aH hG (by kernel_rfl) fun st lc hC hp=>?_
   simp only[go_sem,Nat.reduceBEq,Option.some.injEq]at hC
   subst hC
   obtain⟨t,h⟩:=st
   dsimp only[LC]at hp
   obtain⟨e0_0,e0_1,rfl,hok0⟩:=hp
   refine⟨_,_,_,(bD l_),(fA l_),(l_.length - 1),(),_,_,_,(fun k_0 s_0=>⟨[(0,.rs .int l_),(3,.v (.int .i64 ((k_0:Int)+1)))],[]⟩),[],rfl,hok0,Nat.le_refl _,?_,fun k_0 s_0 hk0 hp0=>?_⟩
   ·simp only[go_sem,Nat.reduceBEq,Nat.reduceLeDiff,Nat.reduceLT,decide_true,Nat.reduceAdd,Nat.reduceSub,Nat.reduceMul,Int.reduceLE,Int.reduceLT,Int.reduceToNat,Int.reduceNeg,reduceCtorEq,e0_0,e0_1]
    all_goals (first|done|decide|(repeat' (first|refine And.intro ?_ ?_|rfl|decide)))
   refine⟨L0,?_,?_⟩
   ·simp only[aw,and_self,true_and,and_true]
   ·by_cases hb0:l_.length≤cp
    rotate_left
    ·simp only[go_sem,Nat.reduceBEq,Nat.reduceLeDiff,Nat.reduceLT,decide_true,Nat.reduceAdd,Nat.reduceSub,Nat.reduceMul,Int.reduceLE,Int.reduceLT,Int.reduceToNat,Int.reduceNeg,reduceCtorEq,hb0]
    ·by_cases hlt0:k_0< (l_.length - 1)
     ·have hw0:IntKind.i64.wrap (((k_0:Nat):Int)+1+1)=((k_0+1:Nat):Int)+1:=by(have hbb:=hb0;have hll:=hlt0;try unfold cp at hbb);rw[bK (by omega) (by omega)];omega
      have hq0:=hp0 hlt0
      unfold fA at hq0
      replace hq0:=hq0 hb0
      try simp only[hw0,Int.toNat_natCast]at hq0
      have hc0:decide (((k_0:Int)+1) < (l_.length:Int))=true:=by simp only[decide_eq_true_eq];omega
      simp only[go_sem,Nat.reduceBEq,Nat.reduceLeDiff,Nat.reduceLT,decide_true,Nat.reduceAdd,Nat.reduceSub,Nat.reduceMul,Int.reduceLE,Int.reduceLT,Int.reduceToNat,Int.reduceNeg,reduceCtorEq,bD,hc0,hw0]
      all_goals exact cl
     ·have hc0:decide (((k_0:Int)+1) < (l_.length:Int))=false:=by simp only[decide_eq_false_iff_not];omega
      simp only[go_sem,Nat.reduceBEq,Nat.reduceLeDiff,Nat.reduceLT,decide_true,Nat.reduceAdd,Nat.reduceSub,Nat.reduceMul,Int.reduceLE,Int.reduceLT,Int.reduceToNat,Int.reduceNeg,reduceCtorEq,hc0]
      all_goals exact cl2
 ·unfold ae Tryz.f84
  try unfold ar
  simp only[go_sem,Nat.reduceBEq,Nat.reduceLeDiff,Nat.reduceLT,decide_true,Nat.reduceAdd,Nat.reduceSub,Nat.reduceMul,Int.reduceLE,Int.reduceLT,Int.reduceToNat,Int.reduceNeg,reduceCtorEq]
  all_goals exact cl
def ct (i:Int)(n:Int):Bool:=((decide (i≥0))&&(decide (i<n)))
@[go_sem] def iB:List SV→Option Con:=(pI fun i=>(pI fun n=>(pE (.det True (.v (.bool (ct i n)))))))
theorem jQ:FnOk Tryz.prog 86 iB:=by
 have hG:ConsOk Tryz.prog (mkG [] []):=a_ cg0 cg0
 refine cr [.o] mixed aH hG (fn:=Tryz.f86) (c:=ae Tryz.f86) (by kernel_rfl) (by kernel_rfl) (by kernel_rfl) (by kernel_rfl) (d8 fun i=>(d8 fun n=>(bH (fun hp=>?_))))
 dsimp only[bp]at hp
 refine⟨Nat.le_of_ble_eq_true rfl,L0,an _,?_⟩
 ·unfold ae Tryz.f86
  try unfold ct
  simp only[go_sem,Nat.reduceBEq,Nat.reduceLeDiff,Nat.reduceLT,decide_true,Nat.reduceAdd,Nat.reduceSub,Nat.reduceMul,Int.reduceLE,Int.reduceLT,Int.reduceToNat,Int.reduceNeg,reduceCtorEq]
  all_goals exact cl
def jZ (x:Ratio×Ratio):Bool:=(((((lM x.1 x.2).2==0)&&(decide (x.1.n≥0)))&&(decide ((lM x.1 x.2).1≤0)))&&(decide (x.2.n≤x.2.d)))
@[go_sem] def nj:List SV→Option Con:=(pD .ratio2 fun x=>(pE (.det True (.v (.bool (jZ x))))))
theorem rS:FnOk Tryz.prog 115 nj:=by
 have hG:ConsOk Tryz.prog (mkG [(141,rC)] []):=a_ (cgc wr cg0) cg0
 refine cr [.o] mixed aH hG (fn:=Tryz.f115) (c:=ae Tryz.f115) (by kernel_rfl) (by kernel_rfl) (by kernel_rfl) (by kernel_rfl) (cF fun x=>(bH (fun hp=>?_)))
 dsimp only[bp]at hp
 refine⟨Nat.le_of_ble_eq_true rfl,L0,an _,?_⟩
 ·unfold ae Tryz.f115
  try unfold jZ
  simp only[go_sem,Nat.reduceBEq,Nat.reduceLeDiff,Nat.reduceLT,decide_true,Nat.reduceAdd,Nat.reduceSub,Nat.reduceMul,Int.reduceLE,Int.reduceLT,Int.reduceToNat,Int.reduceNeg,reduceCtorEq]
  all_goals exact cl
def iC (i:Int)(x:Reach):Bool:=(bif(decide (i > 0))then((((((ct x.up i)&&(ar ([1,x.delay,16])))&&(ar ([0,x.siphon,x.cap,1073741824])))&&(ar ([0,x.siphon,x.bank,1099511627776])))&&(ar ([0,x.evap.lo,x.evap.hi,1073741824])))&&(jZ x.seep))else((((((x.up==(-1))&&(ar ([1,x.delay,16])))&&(ar ([0,x.siphon,x.cap,1073741824])))&&(ar ([0,x.siphon,x.bank,1099511627776])))&&(ar ([0,x.evap.lo,x.evap.hi,1073741824])))&&(jZ x.seep)))
@[go_sem] def nk:List SV→Option Con:=(pI fun i=>(pD .reach fun x=>(pE (.det True (.v (.bool (iC i x)))))))
theorem rT:FnOk Tryz.prog 85 nk:=by
 have hG:ConsOk Tryz.prog (mkG [(84,fun l=>g7 (dN [.sl .int] l)),(86,iB),(115,nj)] []):=a_ (cgc (i9.norm [.sl .int]) (cgc jQ (cgc rS cg0))) cg0
 refine cr [.o] mixed aH hG (fn:=Tryz.f85) (c:=ae Tryz.f85) (by kernel_rfl) (by kernel_rfl) (by kernel_rfl) (by kernel_rfl) (d8 fun i=>(cF fun x=>(bH (fun hp=>?_))))
 dsimp only[bp]at hp
 refine⟨Nat.le_of_ble_eq_true rfl,L0,an _,?_⟩
 ·unfold ae Tryz.f85
  try unfold iC
  simp only[go_sem,Nat.reduceBEq,Nat.reduceLeDiff,Nat.reduceLT,decide_true,Nat.reduceAdd,Nat.reduceSub,Nat.reduceMul,Int.reduceLE,Int.reduceLT,Int.reduceToNat,Int.reduceNeg,reduceCtorEq]
  all_goals exact cl
def gn (a0:District)(a1:Right):Bool:=(bif(((!(ct a1.farm (a0.farms.length:Int))) ||(!(ct a1.reach (a0.reaches.length:Int)))) ||(!(ar ([0,a1.since,a1.to,(IntKind.i64.wrap (a0.hours - 1))]))))then false else(bif(a1.kind==1)then((((a1.reach==0)&&(ar ([0,a1.rank,1048576])))&&(ar ([1,a1.litres,1073741824])))&&(ar ([1,a1.length,a1.every,a0.hours])))else(bif(a1.kind==2)then((a1.name==a1.name)&&((a1.kind==a1.kind)&&((a1.farm==a1.farm)&&((a1.reach==a1.reach)&&((a1.rank==0)&&((a1.litres==0)&&((a1.since==0)&&((a1.to==(IntKind.i64.wrap (a0.hours - 1)))&&((a1.every==0)&&(a1.length==0))))))))))else(bif(a1.kind==3)then((a1.name==a1.name)&&((a1.kind==a1.kind)&&((a1.farm==a1.farm)&&((a1.reach==a1.reach)&&((a1.rank==0)&&((a1.litres==0)&&((a1.since==a1.since)&&((a1.to==a1.to)&&((a1.every==0)&&(a1.length==0))))))))))else false))))
@[go_sem] def nq:List SV→Option Con:=(pD .district fun a0=>(pD .right fun a1=>(pE (.det True (.v (.bool (gn a0 a1)))))))
theorem rU:FnOk Tryz.prog 87 nq:=by
 have hG:ConsOk Tryz.prog (mkG [(84,fun l=>g7 (dN [.sl .int] l)),(86,iB)] []):=a_ (cgc (i9.norm [.sl .int]) (cgc jQ cg0)) cg0
 refine cr [.o] mixed aH hG (fn:=Tryz.f87) (c:=ae Tryz.f87) (by kernel_rfl) (by kernel_rfl) (by kernel_rfl) (by kernel_rfl) (cF fun a0=>(cF fun a1=>(bH (fun hp=>?_))))
 dsimp only[bp]at hp
 refine⟨Nat.le_of_ble_eq_true rfl,L0,an _,?_⟩
 ·unfold ae Tryz.f87
  try unfold gn
  simp only[go_sem,Nat.reduceBEq,Nat.reduceLeDiff,Nat.reduceLT,decide_true,Nat.reduceAdd,Nat.reduceSub,Nat.reduceMul,Int.reduceLE,Int.reduceLT,Int.reduceToNat,Int.reduceNeg,reduceCtorEq]
  all_goals exact cl
@[go_sem] def dW (a0:District)(a1:Int)(k_0:Nat)(s_0:Unit):Unit⊕Unit:=(bif(cg (iC (k_0:Int) (a0.reaches.getD k_0 (default:Reach))) a1)then .inr ()else .inl ())
@[go_sem] def eJ (a0:District)(a1:Int)(k_1:Nat)(s_1:Unit):Unit⊕Unit:=(bif(cg (ar ([0,(a0.crops.getD k_1 (default:Crop)).need,1048576])) a1)then .inr ()else .inl ())
@[go_sem] def dX (a0:District)(a1:Int)(k_2:Nat)(s_2:Unit):Unit⊕Unit:=(bif(decide ((a0.farms.getD k_2 (default:Farm)).area > 0))then(bif(cg (((ct ((a0.farms.getD k_2 (default:Farm)).crop) (a0.crops.length:Int))&&(ct ((a0.farms.getD k_2 (default:Farm)).reach) (a0.reaches.length:Int)))&&(ar ([0,(a0.farms.getD k_2 (default:Farm)).area,1048576]))) a1)then .inr ()else .inl ())else(bif(cg ((((a0.farms.getD k_2 (default:Farm)).crop==(-1))&&(ct ((a0.farms.getD k_2 (default:Farm)).reach) (a0.reaches.length:Int)))&&(ar ([0,(a0.farms.getD k_2 (default:Farm)).area,1048576]))) a1)then .inr ()else .inl ()))
@[go_sem] def dY (a0:District)(a1:Int)(k_3:Nat)(s_3:Unit):Unit⊕Unit:=(bif(cg (gn a0 (a0.rights.getD k_3 (default:Right))) a1)then .inr ()else .inl ())
@[go_sem] def eK (a0:District)(a1:Int)(k_4:Nat)(s_4:Unit):Unit⊕Unit:=(bif(cg (((ct ((a0.duties.getD k_4 (default:Duty)).farm) (a0.farms.length:Int))&&(ct ((a0.duties.getD k_4 (default:Duty)).reach) (a0.reaches.length:Int)))&&(ar ([0,(a0.duties.getD k_4 (default:Duty)).due,a0.hours]))) a1)then .inr ()else .inl ())
def tD (a0:District)(a1:Int):Unit:=(bif(cg (((ar ([1,a0.hours,4096]))&&(ar ([0,a0.tank.start,a0.tank.cap,1099511627776])))&&(decide ((a0.reaches.length:Int) > 0))) a1)then(match ay (dW a0 a1) a0.reaches.length 0 ()with| .inl x_0_0=>default| .inr s_0=>(match ay (eJ a0 a1) a0.crops.length 0 ()with| .inl x_1_0=>default| .inr s_1=>(match ay (dX a0 a1) a0.farms.length 0 ()with| .inl x_2_0=>default| .inr s_2=>(match ay (dY a0 a1) a0.rights.length 0 ()with| .inl x_3_0=>default| .inr s_3=>(match ay (eK a0 a1) a0.duties.length 0 ()with| .inl x_4_0=>default| .inr s_4=>())))))else default)
def dg (a0:District)(a1:Int):Bool:=(bif(cg (((ar ([1,a0.hours,4096]))&&(ar ([0,a0.tank.start,a0.tank.cap,1099511627776])))&&(decide ((a0.reaches.length:Int) > 0))) a1)then(match ay (dW a0 a1) a0.reaches.length 0 ()with| .inl x_0_0=>false| .inr s_0=>(match ay (eJ a0 a1) a0.crops.length 0 ()with| .inl x_1_0=>false| .inr s_1=>(match ay (dX a0 a1) a0.farms.length 0 ()with| .inl x_2_0=>false| .inr s_2=>(match ay (dY a0 a1) a0.rights.length 0 ()with| .inl x_3_0=>false| .inr s_3=>(match ay (eK a0 a1) a0.duties.length 0 ()with| .inl x_4_0=>false| .inr s_4=>true)))))else false)
@[go_sem] def lO:List SV→Option Con:=(pD .district fun a0=>(pI fun a1=>(pE (.may (dg a0 a1) (.tup []) (.iface 135 (.int .i64 a1))))))
theorem pF:FnOk Tryz.prog 59 lO:=by
 have hG:ConsOk Tryz.prog (mkG [(58,jP),(84,fun l=>g7 (dN [.sl .int] l)),(85,nk),(86,iB),(87,fun l=>nq (dN [.st .district,.st .right] l))] []):=a_ (cgc lN (cgc (i9.norm [.sl .int]) (cgc rT (cgc jQ (cgc (rU.norm [.st .district,.st .right]) cg0))))) cg0
 refine cr [] mixed aH hG (fn:=Tryz.f59) (c:=ae Tryz.f59) (by kernel_rfl) (by kernel_rfl) (by kernel_rfl) (by kernel_rfl) (cF fun a0=>(d8 fun a1=>(bH (fun hp=>?_))))
 dsimp only[bp]at hp
 refine⟨Nat.le_of_ble_eq_true rfl,(fun id st=>bif Nat.beq id 0 then some (LCR (ρ:=Unit) (σ:=Unit) 1 [] [0] (fun k_0 s_0=>⟨[(1,.v (.int .i64 a1)),(2,.ptr 0 0),(38,.rs .reach a0.reaches),(39,.v (.int .i64 (a0.reaches.length:Int))),(40,.v (.int .i64 (k_0:Int)))],[.cells (cellsOf .district a0)]⟩) (dW a0 a1) pT a0.reaches.length () (a0.reaches.length≤cp) (fun _=>.pan (.iface 135 (.int .i64 a1))) (fun x_0_0=>⟨[],[.dead]⟩) st)else bif Nat.beq id 2 then some (LCR (ρ:=Unit) (σ:=Unit) 1 [] [0] (fun k_1 s_1=>⟨[(1,.v (.int .i64 a1)),(2,.ptr 0 0),(52,.rs .crop a0.crops),(53,.v (.int .i64 (a0.crops.length:Int))),(54,.v (.int .i64 (k_1:Int)))],[.cells (cellsOf .district a0)]⟩) (eJ a0 a1) pT a0.crops.length () (a0.crops.length≤cp) (fun _=>.pan (.iface 135 (.int .i64 a1))) (fun x_1_0=>⟨[],[.dead]⟩) st)else bif Nat.beq id 4 then some (LCR (ρ:=Unit) (σ:=Unit) 1 [] [0] (fun k_2 s_2=>⟨[(1,.v (.int .i64 a1)),(2,.ptr 0 0),(66,.rs .farm a0.farms),(67,.v (.int .i64 (a0.farms.length:Int))),(68,.v (.int .i64 (k_2:Int)))],[.cells (cellsOf .district a0)]⟩) (dX a0 a1) pT a0.farms.length () (a0.farms.length≤cp) (fun _=>.pan (.iface 135 (.int .i64 a1))) (fun x_2_0=>⟨[],[.dead]⟩) st)else bif Nat.beq id 6 then some (LCR (ρ:=Unit) (σ:=Unit) 1 [] [0] (fun k_3 s_3=>⟨[(1,.v (.int .i64 a1)),(2,.ptr 0 0),(103,.rs .right a0.rights),(104,.v (.int .i64 (a0.rights.length:Int))),(105,.v (.int .i64 (k_3:Int)))],[.cells (cellsOf .district a0)]⟩) (dY a0 a1) pT a0.rights.length () (a0.rights.length≤cp) (fun _=>.pan (.iface 135 (.int .i64 a1))) (fun x_3_0=>⟨[],[.dead]⟩) st)else bif Nat.beq id 8 then some (LCR (ρ:=Unit) (σ:=Unit) 1 [] [0] (fun k_4 s_4=>⟨[(1,.v (.int .i64 a1)),(2,.ptr 0 0),(116,.rs .duty a0.duties),(117,.v (.int .i64 (a0.duties.length:Int))),(118,.v (.int .i64 (k_4:Int)))],[.cells (cellsOf .district a0)]⟩) (eK a0 a1) pT a0.duties.length () (a0.duties.length≤cp) (fun _=>.pan (.iface 135 (.int .i64 a1))) (fun x_4_0=>⟨[],[.dead]⟩) st)else none),?_,?_⟩
 ·unfold ae Tryz.f59
  simp only[aw,true_and,and_true]
  refine⟨?_,?_,?_,?_,?_⟩
  ·refine dQ mixed aH hG (by kernel_rfl) (fun _=>rfl) (a0.reaches.length:Int) rfl lL (fun hb0 k_0 s_0 hlt0 _ hw hc=>⟨L0,an _,?_⟩) (fun hb0 s_0 hc=>?_)
   ·exact ky
   ·exact kz
  ·refine dQ mixed aH hG (by kernel_rfl) (fun _=>rfl) (a0.crops.length:Int) rfl lL (fun hb1 k_1 s_1 hlt1 _ hw hc=>⟨L0,an _,?_⟩) (fun hb1 s_1 hc=>?_)
   ·exact ky
   ·exact kz
  ·refine dQ mixed aH hG (by kernel_rfl) (fun _=>rfl) (a0.farms.length:Int) rfl lL (fun hb2 k_2 s_2 hlt2 _ hw hc=>⟨L0,an _,?_⟩) (fun hb2 s_2 hc=>?_)
   ·exact ky
   ·exact kz
  ·refine dQ mixed aH hG (by kernel_rfl) (fun _=>rfl) (a0.rights.length:Int) rfl lL (fun hb3 k_3 s_3 hlt3 _ hw hc=>⟨L0,an _,?_⟩) (fun hb3 s_3 hc=>?_)
   ·exact ky
   ·exact kz
  ·refine dQ mixed aH hG (by kernel_rfl) (fun _=>rfl) (a0.duties.length:Int) rfl lL (fun hb4 k_4 s_4 hlt4 _ hw hc=>⟨L0,an _,?_⟩) (fun hb4 s_4 hc=>?_)
   ·exact ky
   ·exact kz
 ·unfold ae Tryz.f59
  try unfold tD
  try unfold dg
  simp only[go_sem,Nat.reduceBEq,Nat.reduceLeDiff,Nat.reduceLT,decide_true,Nat.reduceAdd,Nat.reduceSub,Nat.reduceMul,Int.reduceLE,Int.reduceLT,Int.reduceToNat,Int.reduceNeg,reduceCtorEq]
  all_goals exact cl
def bf (d:District):Int:=(bif(cg (((((decide ((d.reaches.length:Int)≤64))&&(decide ((d.farms.length:Int)≤600)))&&(decide ((d.crops.length:Int)≤32)))&&(decide ((d.rights.length:Int)≤256)))&&(decide ((d.duties.length:Int)≤256))) 2)then(bif(dg d 191)then 0 else 191)else 2)
@[go_sem] def kC:List SV→Option Con:=(pD .district fun d=>(pE (.det True (.v (.int .i64 (bf d))))))
theorem mE:FnOk Tryz.prog 24 kC:=by
 have hG:ConsOk Tryz.prog (mkG [(58,jP),(59,fun l=>lO (dN [.st .district,.o] l))] []):=a_ (cgc lN (cgc (pF.norm [.st .district,.o]) cg0)) cg0
 refine JL DZ [.o] mixed aH hG (fn:=Tryz.f24) (c0:=B9 (ae Tryz.f24)) (c1:=zL (zL (ae Tryz.f24))) (i1:=regI (B9 (zL (ae Tryz.f24)))) (o1:=NP 0 (B9 (zL (ae Tryz.f24)))) (o2:=NP 1 (B9 (zL (ae Tryz.f24)))) (t3:=3) (q:=2) (tys:= #[]) (by kernel_rfl) (by kernel_rfl) (by kernel_rfl) (by refine⟨?_,?_,?_⟩ <;>kernel_rfl) (by refine⟨?_,?_,?_⟩ <;>kernel_rfl) (Nat.le_of_ble_eq_true rfl) (by kernel_rfl) (by kernel_rfl) (cF fun d=>(bH (fun hp=>?_)))
 dsimp only[bp]at hp
 refine⟨Nat.le_of_ble_eq_true rfl,L0,L0,1,?_,?_,?_⟩
 ·unfold ae Tryz.f24
  simp only[B9,aw,and_self,true_and,and_true]
 ·unfold ae Tryz.f24
  simp only[zL]
  simp only[aw,and_self,true_and,and_true]
 ·unfold ae Tryz.f24
  try unfold bf
  simp only[go_sem,Nat.reduceBEq,Nat.reduceLeDiff,Nat.reduceLT,decide_true,Nat.reduceAdd,Nat.reduceSub,Nat.reduceMul,Int.reduceLE,Int.reduceLT,Int.reduceToNat,Int.reduceNeg,reduceCtorEq,B9,zL,JQ]
  all_goals exact cl
end Go.Sx
end
section
namespace Go.Sx
open Go.Proofs
set_option maxRecDepth 100000
set_option linter.unusedSimpArgs false
def nN (d:District):Bool:=((((((decide ((d.reaches.length:Int)≤100))&&(decide ((d.farms.length:Int)≤700)))&&(decide ((d.crops.length:Int)≤100)))&&(decide ((d.rights.length:Int)≤300)))&&(decide ((d.duties.length:Int)≤300)))&&(decide ((d.wells.length:Int)≤100)))
@[go_sem] def rD:List SV→Option Con:=(pD .district fun d=>(pE (.det True (.v (.bool (nN d))))))
theorem wu:FnOk Tryz.prog 35 rD:=by
 have hG:ConsOk Tryz.prog (mkG [] []):=a_ cg0 cg0
 refine cr [.o] mixed aH hG (fn:=Tryz.f35) (c:=ae Tryz.f35) (by kernel_rfl) (by kernel_rfl) (by kernel_rfl) (by kernel_rfl) (cF fun d=>(bH (fun hp=>?_)))
 dsimp only[bp]at hp
 refine⟨Nat.le_of_ble_eq_true rfl,L0,an _,?_⟩
 ·unfold ae Tryz.f35
  try unfold nN
  simp only[go_sem,Nat.reduceBEq,Nat.reduceLeDiff,Nat.reduceLT,decide_true,Nat.reduceAdd,Nat.reduceSub,Nat.reduceMul,Int.reduceLE,Int.reduceLT,Int.reduceToNat,Int.reduceNeg,reduceCtorEq]
  all_goals exact cl
end Go.Sx
end
