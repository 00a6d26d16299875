/- Part of the proof that the law RegisterDivided returns true and leaves its arguments as they were, for all arguments of bulk at most 1048576 (the Upto form). -/
import Derived.Test.YthcbieoehjhjfaaGreatC602
import Derived.Laws.IdiomRangeMap
set_option linter.all false
set_option maxHeartbeats 4000000
section
namespace Go.Sx
open Go.RowKit
section
variable {κ υ:Type}[DecidableEq κ]
def gl:List (κ×υ)→κ→Option Nat
 | [],_=>none
 |(a,_)::r,x=>if x=a then some 0 else(gl r x).map (· +1)
theorem lE {x:κ}:∀ {l:List (κ×υ)},gl l x=none→ez l x=none∧(∀ y,oY l x y=l++[(x,y)])∧yH l x=l.length
 | [],_=>⟨rfl,fun _=>rfl,rfl⟩
 |(a,b)::r,h=>by
  simp only[gl]at h
  split at h
  ·cases h
  ·rename_i hne
   have h':gl r x=none:=by cases hm:gl r x with
    |none=>rfl
    |some i=>rw[hm]at h;cases h
   obtain⟨h1,h2,h3⟩:=lE h'
   exact⟨by simp[ez,hne,h1],fun y=>by simp[oY,hne,h2],by simp[yH,hne,h3]⟩
theorem j_ {x:κ}:∀ {l:List (κ×υ)} {i:Nat},gl l x=some i→∃ y,l[i]? =some (x,y)∧ez l x=some y∧(∀ z,oY l x z=l.set i (x,z))∧yH l x=i
 | [],i,h=>by simp[gl]at h
 |(a,b)::r,i,h=>by
  simp only[gl]at h
  split at h
  ·rename_i he
   simp at h;subst h;subst he
   exact⟨b,rfl,by simp[ez],fun z=>by simp[oY],by simp[yH]⟩
  ·rename_i hne
   cases hm:gl r x with
   |none=>rw[hm]at h;cases h
   |some j=>
    rw[hm]at h
    simp only[Option.map_some,Option.some.injEq]at h
    subst h
    obtain⟨y,h1,h2,h3,h4⟩:=j_ hm
    exact⟨y,by simpa using h1,by simp[ez,hne,h2],fun z=>by simp[oY,hne,h3],by simp[yH,hne,h4]⟩
end
section
variable {P:Program}{F:Nat→Prop}{own:Own}{w:World}
theorem vT (a b:ByteArray):(a==b)=true↔a=b:=by
 obtain⟨x⟩:=a
 obtain⟨y⟩:=b
 show(x==y)=true↔_
 simp
theorem mh (k:Tag)(x:k.T):ln (cJ k) (cellsOf k x)=true:=by
 cases k <;>first|rfl|(cases x <;>rfl)
theorem sN:∀ {a b:List Nat},sh a b=true→a=b
 | [],[],_=>rfl
 |x::a,y::b,h=>by simp only[sh,Bool.and_eq_true]at h;rw[Nat.eq_of_beq_eq_true h.1,sN h.2]
 | [],_::_,h=>by simp[sh]at h
 |_::_,[],h=>by simp[sh]at h
theorem xr:∀ {ks:List Kd} {l m:List SV},ln ks l=true→ln ks m=true→(∀ c∈ks.map ei,c≠0)→∃ b,eqL (ks.map ei) l m=some b∧(b=true↔l=m)
 | [],l,m,h1,h2,_=>by
  have e1:=lD h1;have e2:=lD h2
  subst e1;subst e2
  exact⟨true,rfl,by simp⟩
 |k::ks,l,m,h1,h2,hc=>by
  obtain⟨x,r,rfl,f1,f2⟩:=iY h1
  obtain⟨y,s,rfl,g1,g2⟩:=iY h2
  obtain⟨b,e1,e2⟩:=xr f2 g2 (fun c hcm=>hc c (by simp[hcm]))
  have hk:=hc (ei k) (by simp)
  have:∃ b1,eqV (ei k) x y=some b1∧(b1=true↔x=y):=by
   cases k with
   |s=>
    have hx:=uD f1;have hy:=uD g1
    rw[←hx,←hy]
    refine⟨toS x==toS y,by simp[eqV,ei],by simp[vT]⟩
   |b=>
    have hx:=uE f1;have hy:=uE g1
    rw[←hx,←hy]
    refine⟨toB x==toB y,by simp[eqV,ei],by simp⟩
   |n k=>
    have hx:=uF f1;have hy:=uF g1
    rw[←hx,←hy]
    refine⟨toI x==toI y,by simp[eqV,ei],by simp⟩
   |r k=>simp[ei]at hk
   |m a b=>simp[ei]at hk
   |f=>simp[ei]at hk
  obtain⟨b1,e3,e4⟩:=this
  refine⟨b1&&b,by simp[eqL,e3,e1,oz],?_⟩
  simp only[Bool.and_eq_true,e4,e2,List.cons.injEq]
theorem qF {t:TypeId}{k:Tag}(h:wZ P t=some k):∃ i d,P.info? t=some i∧oe P t i=some k∧P.underlying t=some d∧fu P t=ip k∧
  ((fu P t=true∧(cJ k).map ei=g9 P t d∧g9 P t d≠[])∨(fu P t=false∧(cJ k).map ei=[bC (some d)]∧bC (some d)≠0)):=by
 unfold wZ at h
 cases ht:wY P t with
 |none=>rw[ht]at h;cases h
 |some k'=>
  rw[ht]at h
  simp only at h
  cases hf:yG P t k' with
  |false=>rw[hf]at h;cases h
  |true=>
   rw[hf]at h
   simp only[cond_true,Option.some.injEq]at h
   subst h
   obtain⟨i,hi,htag⟩:=qE ht
   unfold yG at hf
   split at hf
   ·rename_i d hd
    refine⟨i,d,hi,htag,hd,(pj (F:=fun _=>False) (own:=ce) (w:=default) htag).2.2.1,?_⟩
    cases ha:fu P t with
    |true=>
     rw[ha]at hf
     simp only[cond_true,Bool.and_eq_true]at hf
     have e:=sN hf.1
     refine .inl ⟨rfl,e,fun hn=>?_⟩
     rw[hn]at e
     have:=Nat.le_of_ble_eq_true hf.2
     rw[List.map_eq_nil_iff]at e
     rw[e]at this;simp at this
    |false=>
     rw[ha]at hf
     simp only[cond_false,Bool.and_eq_true]at hf
     exact .inr ⟨rfl,sN hf.1,by have:=Nat.le_of_ble_eq_true hf.2;omega⟩
   ·cases hf
theorem sO {t:TypeId}{d:TypeDesc}(c:Nat)(h:c∈g9 P t d):c≠0:=by
 unfold g9 at h
 split at h
 ·rename_i fs
  cases hb:!P.stoodInHeld t&& !P.eqGuardType P.depth t&&eqFields P 0 fs.toList with
  |false=>rw[hb]at h;cases h
  |true=>
   rw[hb]at h
   simp only[cond_true]at h
   simp only[Bool.and_eq_true]at hb
   have:∀ (l:List Field) (n:Nat),eqFields P n l=true→c∈l.map (fun f=>bC (P.underlying f.type))→c≠0:=by
    intro l
    induction l with
    |nil=>intro n _ h;simp at h
    |cons f l ih=>
     intro n hf hm
     simp only[eqFields,Bool.and_eq_true]at hf
     simp only[List.map_cons,List.mem_cons]at hm
     rcases hm with rfl|hm
     ·have:=Nat.le_of_ble_eq_true hf.1.2;omega
     ·exact ih (n+1) hf.2 hm
   exact this _ _ hb.2 h
 ·rename_i n e
  cases hb:!P.eqGuardType P.depth t&&Nat.blt 0 (bC (P.underlying e))&&Nat.beq (gM P e) 1 with
  |false=>rw[hb]at h;cases h
  |true=>
   rw[hb]at h
   simp only[cond_true]at h
   simp only[Bool.and_eq_true]at hb
   have:=List.eq_of_mem_replicate h
   have h2:=Nat.le_of_ble_eq_true hb.1.2
   omega
 ·cases h
theorem sP {d:Nat}{e:TypeId}(hc:bC (P.underlying e)≠0):∀ (n m:Nat) (lx ly:List SV) (xs ys:Array Value) (b:Bool),eqL (List.replicate n (bC (P.underlying e))) lx ly=some b→m+lx.length≤xs.size→m+ly.length≤ys.size→
  (∀ (j:Nat) (s:SV),lx[j]? =some s→Rel F own w s (xs.getD (m+j) undef))→(∀ (j:Nat) (s:SV),ly[j]? =some s→Rel F own w s (ys.getD (m+j) undef))→
  (Op.eqItems (d+1) e 1 xs ys (List.range' m n)).run P w=.ok b w
 |0,m,lx,ly,xs,ys,b,h,_,_,_,_=>by
  cases lx <;>cases ly <;>simp[eqL]at h
  subst h
  simp[Op.eqItems]
 |n+1,m,lx,ly,xs,ys,b,h,h1,h2,h3,h4=>by
  cases lx with
  |nil=>simp[eqL,List.replicate_succ]at h
  |cons x lx=>
   cases ly with
   |nil=>simp[eqL,List.replicate_succ]at h
   |cons y ly=>
    simp only[List.replicate_succ,eqL]at h
    cases hv:eqV (bC (P.underlying e)) x y with
    |none=>rw[hv]at h;simp[oz]at h
    |some b1=>
     cases hl:eqL (List.replicate n (bC (P.underlying e))) lx ly with
     |none=>rw[hv,hl]at h;simp[oz]at h
     |some b2=>
      rw[hv,hl]at h
      simp only[oz,Option.some.injEq]at h
      subst h
      simp only[List.length_cons]at h1 h2
      have e1:=kV (P:=P) (w:=w) hc (xs:=xs) (n:=m) (by omega)
      have e2:=kV (P:=P) (w:=w) hc (xs:=ys) (n:=m) (by omega)
      have e3:=y6 (P:=P) (h3 0 x rfl) (h4 0 y rfl) hv d
      simp only[Nat.add_zero]at e3
      rw[List.range'_succ]
      simp only[Op.eqItems,Nat.mul_one,Sem.run_bind,e1,e2,Result.andThen_ok,e3]
      cases b1 with
      |false=>simp
      |true=>
       have ih:=sP (d:=d) hc n (m+1) lx ly xs ys b2 hl (by omega) (by omega) (fun j s hj=>by have:=h3 (j+1) s (by simpa using hj);rwa[show m+(j+1)=m+1+j by omega]at this) (fun j s hj=>by have:=h4 (j+1) s (by simpa using hj);rwa[show m+(j+1)=m+1+j by omega]at this)
       simp only[Bool.not_true,Bool.false_eq_true,if_false,Bool.true_and]
       exact ih
theorem xu {t:TypeId}{d:TypeDesc}(hd:P.underlying t=some d){lx ly:List SV}{xs ys:Array Value}(hx:RelL F own w lx xs)(hy:RelL F own w ly ys){b:Bool}
  (hc:g9 P t d≠[]) (h:eqL (g9 P t d) lx ly=some b):(Op.equal t (.agg xs) (.agg ys)).run P w=.ok b w∧P.eqGuardType P.depth t=false:=by
 cases d with
 |struct fs=>exact xo hd hx hy hc h
 |array n e=>
  simp only[g9]at hc h
  cases hb:!P.eqGuardType P.depth t&&Nat.blt 0 (bC (P.underlying e))&&Nat.beq (gM P e) 1 with
  |false=>rw[hb]at hc;exact absurd rfl hc
  |true=>
   rw[hb]at h
   simp only[cond_true]at h
   simp only[Bool.and_eq_true,Bool.not_eq_true']at hb
   obtain⟨⟨q1,q2⟩,q3⟩:=hb
   refine⟨?_,q1⟩
   have h1:=Nat.eq_of_beq_eq_true q3
   have hi:∃ i,P.info? e=some i∧i.size=1:=by
    unfold gM at h1
    cases hi:P.info? e with
    |none=>rw[hi]at h1;simp at h1
    |some i=>rw[hi]at h1;exact⟨i,rfl,h1⟩
   obtain⟨i,hi,his⟩:=hi
   unfold Op.equal Op.maxDepth
   rw[run_equalIn_array (w:=w) 9999 xs ys hd hi]
   have hco:P.cellsOf e=1:=by unfold Program.cellsOf;rw[hi];exact his
   rw[hco,List.range_eq_range']
   exact sP (d:=9998) (by have:=Nat.le_of_ble_eq_true q2;omega) n 0 lx ly xs ys b h (by rw[hx.1];omega) (by rw[hy.1];omega) (fun j s hj=>by simpa using hx.2 j s hj) (fun j s hj=>by simpa using hy.2 j s hj)
 |_=>exact absurd rfl hc
theorem nH {k:Tag}{x:k.T}(h:ip k=true):svT k x=.agg (cellsOf k x):=by unfold svT;rw[h];rfl
theorem kW {l:List SV}{v:Value}(h:Rel F own w (.agg l) v):∃ vs,v=.agg vs∧RelL F own w l vs:=by
 cases h with|agg h0 h1=>exact⟨_,rfl,h0,h1⟩
theorem pl {k:Tag}{x:k.T}(h:ip k=false){s:SV}(hs:cellsOf k x=[s]):svT k x=s:=by unfold svT;rw[h,hs];rfl
theorem y9 {d:TypeDesc}{k:Kd}{sx sy:SV}(hc:ei k=bC (some d))(h0:ei k≠0)(fx:fit k sx=true)(fy:fit k sy=true){vx vy:Value}(hx:Rel F own w sx vx)(hy:Rel F own w sy vy):
  ∃ b,Instr.sameNow d vx vy=some b∧(b=true↔sx=sy)∧(b=true→vx=vy):=by
 cases k with
 |s=>
  have e1:=uD fx;have e2:=uD fy
  rw[←e1]at hx ⊢;rw[←e2]at hy ⊢
  have:=bV hx;have:=bV hy
  subst vx;subst vy
  cases d <;>simp[ei,bC]at hc
  exact⟨toS sx==toS sy,rfl,by simp[vT],by simp[vT]⟩
 |b=>
  have e1:=uE fx;have e2:=uE fy
  rw[←e1]at hx ⊢;rw[←e2]at hy ⊢
  have:=bV hx;have:=bV hy
  subst vx;subst vy
  cases d <;>simp[ei,bC]at hc
  exact⟨toB sx==toB sy,rfl,by simp,by simp⟩
 |n k=>
  have e1:=uF fx;have e2:=uF fy
  rw[←e1]at hx ⊢;rw[←e2]at hy ⊢
  have:=bV hx;have:=bV hy
  subst vx;subst vy
  cases d <;>simp[ei,bC]at hc
  exact⟨toI sx==toI sy,by simp[Instr.sameNow],by simp,by simp⟩
 |r k=>simp[ei]at h0
 |m a b=>simp[ei]at h0
 |f=>simp[ei]at h0
theorem ol {kk vk:Tag}{kt:TypeId}{vx:Value}{x:kk.T}:∀ (es:List MapEntry) (l:List (kk.T×vk.T)) (n:Nat),es.length=l.length→(∀ (i:Nat) (p:kk.T×vk.T),l[i]? =some p→∃ e:MapEntry,es[i]? =some e∧∃ b,(Op.equal kt vx e.key).run P w=.ok b w∧(b=true↔x=p.1))→
  (Instr.findAsking kt vx es n).run P w=.ok ((gl l x).bind fun i=>(es[i]?).map fun e=>(n+i,e.val)) w
 | [],[],n,_,_=>by simp[Instr.findAsking,gl]
 | [],_::_,_,h,_=>by simp at h
 |_::_,[],_,h,_=>by simp at h
 |e::es,(a,c)::l,n,hl,h=>by
  obtain⟨e',e1,b,e2,e3⟩:=h 0 _ rfl
  simp at e1;subst e1
  have ih:=ol es l (n+1) (by simpa using hl) (fun i p hp=>by
   obtain⟨e',q1,q2⟩:=h (i+1) p (by simpa using hp)
   exact⟨e',by simpa using q1,q2⟩)
  simp only[Instr.findAsking,Sem.run_bind,e2,Result.andThen_ok]
  cases b with
  |true=>
   have:=e3.1 rfl
   simp only[gl,this,if_true,Sem.run_pure]
   simp
  |false=>
   have hne:¬x=a:=fun hx=>by have:=e3.2 hx;cases this
   simp only[Bool.false_eq_true,if_false,gl,hne]
   rw[ih]
   cases gl l x with
   |none=>rfl
   |some i=>simp[Nat.add_assoc,Nat.add_comm 1 i]
theorem sQ {kk vk:Tag}{d:TypeDesc}{vx:Value}{x:kk.T}:∀ (es:List MapEntry) (l:List (kk.T×vk.T)) (n:Nat),es.length=l.length→(∀ (i:Nat) (p:kk.T×vk.T),l[i]? =some p→∃ e:MapEntry,es[i]? =some e∧∃ b,Instr.sameNow d vx e.key=some b∧(b=true↔x=p.1))→
  Instr.findNow d vx es n=some ((gl l x).bind fun i=>(es[i]?).map fun e=>(n+i,e.val))
 | [],[],n,_,_=>by simp[Instr.findNow,gl]
 | [],_::_,_,h,_=>by simp at h
 |_::_,[],_,h,_=>by simp at h
 |e::es,(a,c)::l,n,hl,h=>by
  obtain⟨e',e1,b,e2,e3⟩:=h 0 _ rfl
  simp at e1;subst e1
  have ih:=sQ es l (n+1) (by simpa using hl) (fun i p hp=>by
   obtain⟨e',q1,q2⟩:=h (i+1) p (by simpa using hp)
   exact⟨e',by simpa using q1,q2⟩)
  simp only[Instr.findNow,e2]
  cases b with
  |true=>
   have:=e3.1 rfl
   simp[gl,this]
  |false=>
   have hne:¬x=a:=fun hx=>by have:=e3.2 hx;cases this
   simp only[gl,hne,if_false]
   rw[ih]
   cases gl l x with
   |none=>rfl
   |some i=>simp[Nat.add_assoc,Nat.add_comm 1 i]
theorem qG {k:Tag}{c:Nat}(h:(cJ k).map ei=[c])(x:k.T):∃ κ s,cJ k=[κ]∧ei κ=c∧cellsOf k x=[s]∧fit κ s=true:=by
 have hf:=mh k x
 cases hk:cJ k with
 |nil=>rw[hk]at h;cases h
 |cons κ r=>
  rw[hk]at h hf
  simp only[List.map_cons,List.cons.injEq,List.map_eq_nil_iff]at h
  obtain⟨h1,rfl⟩:=h
  obtain⟨s,r,hs,f1,f2⟩:=iY hf
  have:=lD f2
  subst this
  exact⟨κ,s,rfl,h1,hs,f1⟩
theorem mj {kk vk:Tag}{kt:TypeId}(hk:wZ P kt=some kk){vx:Value}{x:kk.T}(hx:Rel F own w (svT kk x) vx){l:List (kk.T×vk.T)}{es:Array MapEntry}(hl:es.size=l.length)(hes:∀ (i:Nat) (p:kk.T×vk.T),l[i]? =some p→∃ e,es[i]? =some e∧Rel F own w (svT kk p.1) e.key):
  (Instr.findKey kt vx es.toList).run P w=.ok ((gl l x).bind fun i=>(es[i]?).map fun e=>(i,e.val)) w:=by
 obtain⟨i,d,hi,htag,hd,ha,hcase⟩:=qF hk
 unfold Instr.findKey
 simp only[Sem.run_bind,run_underlying hd,Result.andThen_ok]
 rcases hcase with⟨h1,h2,h3⟩ | ⟨h1,h2,h3⟩
 ·rw[h1]at ha
  rw[nH ha.symm]at hx
  obtain⟨xs,rfl,hxs⟩:=kW hx
  have heq:∀ (i:Nat) (p:kk.T×vk.T),l[i]? =some p→∃ e:MapEntry,es.toList[i]? =some e∧∃ b,(Op.equal kt (.agg xs) e.key).run P w=.ok b w∧(b=true↔x=p.1):=fun i p hp=>by
   obtain⟨e,e1,e2⟩:=hes i p hp
   rw[nH ha.symm]at e2
   obtain⟨ys,hy1,hy2⟩:=kW e2
   refine⟨e,by simpa using e1,?_⟩
   obtain⟨b,q1,q2⟩:=xr (mh kk x) (mh kk p.1) (fun c hc=>by rw[h2]at hc;exact sO c hc)
   rw[h2]at q1
   rw[hy1]
   exact⟨b,(xu hd hxs hy2 h3 q1).1,by rw[q2];exact⟨fun h=>rl h,fun h=>by rw[h]⟩⟩
  have hfa:=ol (P:=P) (w:=w) es.toList l 0 (by simpa using hl) heq
  simp only[Nat.zero_add,Array.getElem?_toList]at hfa
  have hnow:Instr.findNow d (.agg xs) es.toList 0=none∨es.toList=[]:=by
   cases hel:es.toList with
   |nil=>exact .inr rfl
   |cons e r=>
    left
    simp only[Instr.findNow]
    have:Instr.sameNow d (.agg xs) e.key=none:=by cases d <;>rfl
    rw[this]
  rcases hnow with hnow|hnil
  ·rw[hnow];exact hfa
  ·rw[hnil]at hfa ⊢
   simp only[Instr.findNow,Sem.run_pure]
   simp only[Instr.findAsking,Sem.run_pure]at hfa
   exact hfa
 ·rw[h1]at ha
  obtain⟨κ,s,k1,k2,k3,k4⟩:=qG h2 x
  rw[pl ha.symm k3]at hx
  have heq:∀ (i:Nat) (p:kk.T×vk.T),l[i]? =some p→∃ e:MapEntry,es.toList[i]? =some e∧∃ b,Instr.sameNow d vx e.key=some b∧(b=true↔x=p.1):=fun i p hp=>by
   obtain⟨e,e1,e2⟩:=hes i p hp
   obtain⟨κ',s',m1,m2,m3,m4⟩:=qG h2 p.1
   rw[k1]at m1;cases m1
   rw[pl ha.symm m3]at e2
   obtain⟨b,q1,q2,_⟩:=y9 k2 (by rw[k2];exact h3) k4 m4 hx e2
   exact⟨e,by simpa using e1,b,q1,by rw[q2];exact⟨fun h=>rl (by rw[k3,m3,h]),fun h=>by rw[h,m3]at k3;simpa using k3.symm⟩⟩
  have hfn:=sQ (d:=d) es.toList l 0 (by simpa using hl) heq
  simp only[Nat.zero_add,Array.getElem?_toList]at hfn
  rw[hfn];rfl
theorem mZ {em:Bool}{xs:Array Value}:∀ (fs:List Field) (n:Nat),eqFields P n fs=true→n+fs.length≤xs.size→
  (forIn fs PUnit.unit (fun f (_:PUnit) =>do
   if f.name≠ "_" then Instr.checkKey em 9999 f.type (←part f.type xs f.offset)
   pure (ForInStep.yield PUnit.unit)):Sem PUnit).run P w=.ok PUnit.unit w
 | [],n,_,_=>by simp
 |f::fs,n,hf,hle=>by
  simp only[eqFields,Bool.and_eq_true]at hf
  obtain⟨⟨⟨q1,q2⟩,q3⟩,q4⟩:=hf
  have hn:f.name≠ "_":=by simpa using q1
  have ho:f.offset=n:=Nat.eq_of_beq_eq_true q2
  have hc:bC (P.underlying f.type)≠0:=by have:=Nat.le_of_ble_eq_true q3;omega
  simp only[List.length_cons]at hle
  have e1:=kV (P:=P) (w:=w) hc (xs:=xs) (n:=n) (by omega)
  have e2:(Instr.checkKey em 9999 f.type (xs.getD n undef)).run P w=.ok () w:=by
   unfold Instr.checkKey
   cases hu:P.underlying f.type with
   |none=>rw[hu]at hc;simp[bC]at hc
   |some d=>
    rw[hu]at hc
    simp only[Sem.run_bind,run_underlying hu,Result.andThen_ok]
    cases d <;>simp[bC]at hc <;>simp
  have ih:=mZ (em:=em) (xs:=xs) fs (n+1) q4 (by omega)
  rw[List.forIn_cons]
  simp only[if_pos hn,ho,Sem.run_bind,e1,Result.andThen_ok,e2,Sem.run_pure]
  exact ih
theorem oo {em:Bool}{e:TypeId}(hc:bC (P.underlying e)≠0)(hs:(sizeOf e).run P w=.ok 1 w){xs:Array Value}:∀ (n m:Nat),m+n≤xs.size→
  (forIn (List.range' m n) PUnit.unit (fun i (_:PUnit) =>do
   Instr.checkKey em 9999 e (←part e xs (i*(←sizeOf e)))
   pure (ForInStep.yield PUnit.unit)):Sem PUnit).run P w=.ok PUnit.unit w
 |0,m,_=>by simp
 |n+1,m,hle=>by
  have e1:=kV (P:=P) (w:=w) hc (xs:=xs) (n:=m) (by omega)
  have e2:(Instr.checkKey em 9999 e (xs.getD m undef)).run P w=.ok () w:=by
   unfold Instr.checkKey
   cases hu:P.underlying e with
   |none=>rw[hu]at hc;simp[bC]at hc
   |some d=>
    rw[hu]at hc
    simp only[Sem.run_bind,run_underlying hu,Result.andThen_ok]
    cases d <;>simp[bC]at hc <;>simp
  have ih:=oo (em:=em) hc hs (xs:=xs) n (m+1) (by omega)
  rw[List.range'_succ,List.forIn_cons]
  simp only[Sem.run_bind,hs,Result.andThen_ok,Nat.mul_one,e1,e2,Sem.run_pure]
  exact ih
theorem kX {kk:Tag}{kt:TypeId}(hk:wZ P kt=some kk){vx:Value}{x:kk.T}(hx:Rel F own w (svT kk x) vx)(em:Bool):(Instr.checkKey em 10000 kt vx).run P w=.ok () w:=by
 obtain⟨i,d,hi,htag,hd,ha,hcase⟩:=qF hk
 rcases hcase with⟨h1,h2,h3⟩ | ⟨h1,h2,h3⟩
 ·rw[h1]at ha
  rw[nH ha.symm]at hx
  obtain⟨xs,rfl,hxs⟩:=kW hx
  have hlen:(g9 P kt d).length=xs.size:=by
   rw[hxs.1,←h2,List.length_map,ba]
   have:(cJ kk).length=(cellsOf kk x).length:=by cases kk <;>rfl
   rw[this,ba]
  unfold Instr.checkKey
  simp only[Sem.run_bind,run_underlying hd,Result.andThen_ok]
  cases d with
  |struct fs=>
   simp only[g9]at h3 hlen
   cases hb:!P.stoodInHeld kt&& !P.eqGuardType P.depth kt&&eqFields P 0 fs.toList with
   |false=>rw[hb]at h3;exact absurd rfl h3
   |true=>
    rw[hb]at hlen
    simp only[Bool.and_eq_true]at hb
    have:=mZ (P:=P) (w:=w) (em:=em) (xs:=xs) fs.toList 0 hb.2 (by simp at hlen;simp;omega)
    rw[Array.forIn_toList]at this
    simpa[Sem.run_bind]using this
  |array n e=>
   simp only[g9]at h3 hlen
   cases hb:!P.eqGuardType P.depth kt&&Nat.blt 0 (bC (P.underlying e))&&Nat.beq (gM P e) 1 with
   |false=>rw[hb]at h3;exact absurd rfl h3
   |true=>
    rw[hb]at hlen
    simp only[Bool.and_eq_true]at hb
    have hs1:=Nat.eq_of_beq_eq_true hb.2
    have hs:(sizeOf e).run P w=.ok 1 w:=by
     unfold gM at hs1
     cases hi:P.info? e with
     |none=>rw[hi]at hs1;simp at hs1
     |some i=>rw[hi]at hs1;rw[cL hi];exact congrArg (fun n=>Result.ok n w) hs1
    have:=oo (P:=P) (w:=w) (em:=em) (xs:=xs) (e:=e) (by have:=Nat.le_of_ble_eq_true hb.1.2;omega) hs n 0 (by simp at hlen;omega)
    simp only[Std.Legacy.Range.forIn_eq_forIn_range',Std.Legacy.Range.size,Nat.sub_zero,Nat.add_one_sub_one,Nat.div_one]
    simpa[Sem.run_bind]using this
  |_=>exact absurd rfl h3
 ·unfold Instr.checkKey
  simp only[Sem.run_bind,run_underlying hd,Result.andThen_ok]
  cases d <;>simp[bC]at h3 <;>simp
end
end Go.Sx
end
section
namespace Go.Sx
open Go.RowKit
def pm (w:World)(b:Nat)(o:Obj):World:= { w with heap:=w.heap.setIfInBounds b o}
theorem y_ {w:World}{b k:Nat}{o:Obj}(h:k≠b):(pm w b o).heap[k]? =w.heap[k]?:=by
 simp only[pm,Array.getElem?_setIfInBounds]
 rw[if_neg fun e=>h e.symm]
section
variable {P:Program}{F:Nat→Prop}{own:Own}{w:World}
theorem za {z:Value}(h:sg z=true):z=.agg z.cells:=by
 cases z <;>first|rfl|simp[sg]at h
theorem xv {t:TypeId}{i:TypeInfo}{k:Tag}(h:oe P t i=some k){z:Value}(hz:i.zero=some z):Rel F own w (svT k (dq k)) z:=by
 obtain⟨t1,t2,t3,t4⟩:=pj (F:=F) (own:=own) (w:=w) h
 obtain⟨q1,q2⟩:=t4 z hz
 cases ha:ip k with
 |true=>
  rw[nH ha,za (q2.trans ha)]
  exact .agg q1.1 q1.2
 |false=>
  have hc:z.cells= #[z]:=by cases z <;>first|rfl|(rw[ha]at q2;simp[sg]at q2)
  rw[hc]at q1
  have hl:(cellsOf k (dq k)).length=1:=by rw[←q1.1];rfl
  obtain⟨s,hs⟩:∃ s,cellsOf k (dq k)=[s]:=by
   cases hcc:cellsOf k (dq k)with
   |nil=>rw[hcc]at hl;cases hl
   |cons s r=>rw[hcc]at hl;cases r with
    |nil=>exact⟨s,rfl⟩
    |cons _ _=>simp at hl
  rw[pl ha hs]
  have:=q1.2 0 s (by rw[hs];rfl)
  simpa using this
theorem C_ {s:SV}{l:List SV}(h:qw s=some l):l=[s]:=by
 unfold qw at h
 split at h
 ·cases h
 ·cases h
 ·rename_i h1 h2
  cases s <;>first|(simp[iQ]at h;exact h.symm) |(simp[iQ]at h;done) |(exact(h1 _ rfl).elim) |skip
  rename_i x
  cases x <;>first|(simp[iQ]at h;exact h.symm) |(simp[iQ]at h;done) |(exact(h2 _ rfl).elim)
theorem jX {k:Tag}{s:SV}{v:Value}(hr:Rel F own w s v){x:k.T}(h:unT k s=some x):Rel F own w (svT k x) v:=by
 unfold unT at h
 cases ha:ip k with
 |true=>
  rw[ha]at h
  simp only[cond_true]at h
  rw[nH ha]
  cases hr with
  |agg h0 h1=>
   simp only[oZ,rf]at h
   have:=sK h ⟨h0,h1⟩
   exact .agg this.1 this.2
  |v y=>
   cases v with
   |agg cs=>
    simp only[oZ,rf]at h
    have:=sK h (vs:=cs) (nE (F:=F) (own:=own) (w:=w) (.agg cs))
    exact .agg this.1 this.2
   |_=>simp[oZ,rf]at h
  |_=>simp[oZ,rf]at h
 |false=>
  rw[ha]at h
  simp only[cond_false]at h
  cases hl:qw s with
  |none=>rw[hl]at h;cases h
  |some l=>
   rw[hl]at h
   have:=C_ hl
   subst this
   simp only[rf]at h
   have hc:=gk h
   have hlen:=y5 h
   have hk:(cJ k).length=1:=by
    have:(cJ k).length=aa k:=by cases k <;>rfl
    rw[this,←hlen];rfl
   cases hkk:cJ k with
   |nil=>rw[hkk]at hk;cases hk
   |cons κ r=>
    rw[hkk]at hc
    simp only[nW]at hc
    cases r with
    |nil=>
     rw[pl ha hc]
     exact iw hr
    |cons _ _=>rw[hkk]at hk;simp at hk
theorem g6 {a:Tag}{o:Option Tag}(h:fm a o=true):o=some a:=by
 cases o with
 |none=>cases h
 |some b=>rw[pe (k:=a) (k':=b) h]
theorem oH {t:TypeId}{ti:TI}(ht:cB P t=some ti){kk vk:Tag}(hk:ti.mkt=some kk)(hv:ti.mvt=some vk):∃ kt e,P.underlying t=some (.map kt e)∧wZ P kt=some kk∧wY P e=some vk:=by
 obtain⟨i,d,z,hi,hd,hz,hq,rfl⟩:=bj ht
 cases d <;>simp[cA]at hk hv
 exact⟨_,_,hd,hk,hv⟩
theorem BN {kk vk:Tag}(l:List (kk.T×vk.T))(p:Option (Nat×Option kk.T))(x:kk.T):(ez (cC kk vk l p) x).getD (dq vk)=(ez l x).getD (dq vk):=by
 match p with
 |none=>rfl
 |some (_,none) =>rfl
 |some (_,some y) =>
  simp only[cC]
  split
  ·rfl
  ·rename_i hn
   have:∀ (l:List (kk.T×vk.T)),ez (l++[(y,dq vk)]) x=match ez l x with|some v=>some v|none=>if x=y then some (dq vk)else none:=by
    intro l
    induction l with
    |nil=>simp[ez]
    |cons a l ih=>obtain⟨a,b⟩:=a;simp only[List.cons_append,ez];split <;>simp[ih]
   rw[this]
   cases ez l x with
   |some v=>rfl
   |none=>simp only;split <;>rfl
theorem pn {t:TypeId}{kt e:TypeId}{kk vk:Tag}(hd:P.underlying t=some (.map kt e))(hk:wZ P kt=some kk)(hv:wY P e=some vk){m vx:Value}{x:kk.T}(hx:Rel F own w (svT kk x) vx){L:List (kk.T×vk.T)}{es:Array MapEntry}
  (hm:(m=.map none∧es= #[])∨∃ b clock,m=.map (some b)∧w.heap[b]? =some (.map es clock)) (hl:es.size=L.length) (hes:∀ (i:Nat) (p:kk.T×vk.T),L[i]? =some p→∃ e,es[i]? =some e∧Rel F own w (svT kk p.1) e.key∧Rel F own w (svT vk p.2) e.val) (ok:Bool):
  ∃ v,(Instr.lookup t m vx ok).run P w=.ok (if ok then .tuple #[v,.bool (ez L x).isSome]else v) w∧Rel F own w (svT vk ((ez L x).getD (dq vk))) v:=by
 obtain⟨i,hi,htag⟩:=qE hv
 have hz:∃ z,i.zero=some z:=by
  have:=qD htag
  simp only[qu,Bool.and_eq_true]at this
  cases hz:i.zero with
  |none=>rw[hz]at this;simp at this
  |some z=>exact⟨z,rfl⟩
 obtain⟨z,hz⟩:=hz
 have hck:=kX hk hx es.isEmpty
 have hfk:=mj hk hx hl (fun i p hp=>by obtain⟨e,e1,e2,_⟩:=hes i p hp;exact⟨e,e1,e2⟩)
 have hzr:=xv (F:=F) (own:=own) (w:=w) htag hz
 have hzv:(zeroValue e).run P w=.ok z w:=by simp[zeroValue,typeInfo,hi,hz]
 have hget:∃ v,((∃ j,((gl L x).bind fun i=>(es[i]?).map fun e=>(i,e.val))=some (j,v)∧(ez L x).isSome=true)∨(((gl L x).bind fun i=>(es[i]?).map fun e=>(i,e.val))=none∧v=z∧(ez L x).isSome=false))∧Rel F own w (svT vk ((ez L x).getD (dq vk))) v:=by
  cases hmi:gl L x with
  |none=>
   have:=(lE hmi).1
   exact⟨z,.inr ⟨rfl,rfl,by rw[this];rfl⟩,by rw[this];exact hzr⟩
  |some i=>
   obtain⟨y,h1,h2,_,_⟩:=j_ hmi
   obtain⟨e,e1,e2,e3⟩:=hes i _ h1
   exact⟨e.val,.inl ⟨i,by simp[e1],by rw[h2];rfl⟩,by rw[h2];exact e3⟩
 obtain⟨v,h1,h2⟩:=hget
 refine⟨v,?_,h2⟩
 rcases hm with⟨rfl,rfl⟩ | ⟨b,clock,rfl,hb⟩
 ·rcases h1 with⟨j,h1,h3⟩ | ⟨h1,rfl,h3⟩
  ·rw[h1]at hfk
   simp only[Instr.lookup,Sem.run_bind,run_underlying hd,Result.andThen_ok,Sem.run_pure,hck,hfk,h3]
  ·rw[h1]at hfk
   simp only[Instr.lookup,Sem.run_bind,run_underlying hd,Result.andThen_ok,Sem.run_pure,hck,hfk,h3,hzv]
 ·have hg:(getObj b).run P w=.ok (.map es clock) w:=by simp[getObj,Sem.run,hb]
  rcases h1 with⟨j,h1,h3⟩ | ⟨h1,rfl,h3⟩
  ·rw[h1]at hfk
   simp only[Instr.lookup,Sem.run_bind,run_underlying hd,Result.andThen_ok,hg,Sem.run_pure,hck,hfk,h3]
  ·rw[h1]at hfk
   simp only[Instr.lookup,Sem.run_bind,run_underlying hd,Result.andThen_ok,hg,Sem.run_pure,hck,hfk,h3,hzv]
theorem sR {kk vk:Tag}{l:List (kk.T×vk.T)}{ok:Bool}{o:Option kk.T}{r:OR}(he:sw kk vk l ok o=r)(hne:r≠ .bad):∃ x,o=some x∧r=.val (bif ok then .tup [svT vk (cn kk vk l x),.b (mP kk vk l x)]else svT vk (cn kk vk l x)):=by
 unfold sw at he
 split at he
 ·rename_i x
  refine⟨x,rfl,?_⟩
  cases ok <;>exact he.symm
 ·exact absurd he.symm hne
theorem pr {vk:Tag}{y:vk.T}{b:Bool}{v:Value}(h:Rel F own w (svT vk y) v)(ok:Bool):Rel F own w (bif ok then .tup [svT vk y,.b b]else svT vk y) (if ok then .tuple #[v,.bool b]else v):=by
 cases ok with
 |false=>exact h
 |true=>
  refine .tup rfl fun j s hj=>?_
  cases j with
  |zero=>simp at hj;subst hj;simpa using h
  |succ j=>
   cases j with
   |zero=>simp at hj;subst hj;exact .v _
   |succ j=>simp at hj
theorem Da {h:List Ob}(hp:Hp F own w h){t:TypeId}{ti:TI}(ht:cB P t=some ti){s sk:SV}{v vx:Value}(hr:Rel F own w s v)(hrk:Rel F own w sk vx){ok:Bool}{r:OR}(he:kP ti h ok sk s=r)(hne:r≠ .bad):
  ∃ s',r=.val s'∧∃ u,(Instr.lookup t v vx ok).run P w=.ok u w∧Rel F own w s' u:=by
 unfold kP at he
 split at he
 ·rename_i id
  obtain⟨hdd,h1,rfl,h2⟩:=eA hr
  cases ho:ag h id with
  |mp kk vk l pend=>
   rw[ho]at he
   simp only[xa]at he
   cases hc:fm kk ti.mkt&&fm vk ti.mvt&&(!ok||noE pend)with
   |false=>rw[hc]at he;exact absurd he.symm hne
   |true=>
    rw[hc]at he;simp only[cond_true]at he
    simp only[Bool.and_eq_true]at hc
    obtain⟨x,hx,rfl⟩:=sR he hne
    obtain⟨kt,e,q1,q2,q3⟩:=oH ht (g6 hc.1.1) (g6 hc.1.2)
    obtain⟨hd',e0,b,es,clk,m1,m2,m3,m4,_⟩:=hp.at ho rfl
    rw[h1]at e0;cases e0
    obtain⟨u,k1,k2⟩:=pn (P:=P) q1 q2 q3 (jX hrk hx) (m:=hdd.v) (.inr ⟨b,_,m1,m3⟩) m4.1 (fun i p hp=>by obtain⟨e,e1,e2,e3⟩:=m4.2 i p hp;exact⟨e,e1,e3⟩) ok
    rw[BN]at k2
    refine⟨_,rfl,_,k1,?_⟩
    have hsome:ok=true→(ez (cC kk vk l pend) x).isSome=mP kk vk l x:=fun hok=>by
     have:=hc.2
     rw[hok]at this
     rw[fw (by simpa using this)];rfl
    have:=pr (b:=mP kk vk l x) k2 ok
    cases ok with
    |false=>exact this
    |true=>rw[hsome rfl];exact this
  |_=>rw[ho]at he;exact absurd he.symm hne
 ·rename_i kk vk l
  cases hc:fm kk ti.mkt&&fm vk ti.mvt with
  |false=>rw[hc]at he;exact absurd he.symm hne
  |true=>
   rw[hc]at he;simp only[cond_true]at he
   simp only[Bool.and_eq_true]at hc
   obtain⟨x,hx,rfl⟩:=sR he hne
   obtain⟨kt,e,q1,q2,q3⟩:=oH ht (g6 hc.1) (g6 hc.2)
   cases hr with
   |rm ck cv es clock h0 h1 h2 h3 h4 h5=>
    rename_i b
    obtain⟨u,k1,k2⟩:=pn (P:=P) q1 q2 q3 (jX hrk hx) (m:=.map (some b)) (.inr ⟨b,_,rfl,h1⟩) h2 (fun i p hp=>by obtain⟨n,e1⟩:=h3 i p hp;exact⟨_,e1,h4 i p hp,h5 i p hp⟩) ok
    exact⟨_,rfl,_,k1,pr k2 ok⟩
   |rm0=>
    obtain⟨u,k1,k2⟩:=pn (P:=P) q1 q2 q3 (jX hrk hx) (m:=.map none) (.inl ⟨rfl,rfl⟩) rfl (fun i p hp=>by simp at hp) ok (L:=[])
    exact⟨_,rfl,_,k1,pr k2 ok⟩
 ·have:=bV hr
  subst this
  unfold Aq at he
  split at he
  ·rename_i kk vk hk hv
   obtain⟨x,hx,rfl⟩:=sR he hne
   obtain⟨kt,e,q1,q2,q3⟩:=oH ht hk hv
   obtain⟨u,k1,k2⟩:=pn (P:=P) q1 q2 q3 (jX hrk hx) (m:=.map none) (.inl ⟨rfl,rfl⟩) rfl (fun i p hp=>by simp at hp) ok (L:=[])
   exact⟨_,rfl,_,k1,pr k2 ok⟩
  ·exact absurd he.symm hne
 ·exact absurd he.symm hne
theorem oq {κ:Kd}{s:SV}{v u:Value}(hk:ei κ≠0)(hf:fit κ s=true)(hv:Rel F own w s v)(hu:Rel F own w s u)(n:Nat):u=v∧Instr.sameBits n v u=true:=by
 cases κ with
 |s=>have e:=uD hf;rw[←e]at hv hu;rw[bV hv,bV hu];exact⟨rfl,by cases n <;>simp[Instr.sameBits,vT]⟩
 |b=>have e:=uE hf;rw[←e]at hv hu;rw[bV hv,bV hu];exact⟨rfl,by cases n <;>simp[Instr.sameBits]⟩
 |n k=>have e:=uF hf;rw[←e]at hv hu;rw[bV hv,bV hu];exact⟨rfl,by cases n <;>simp[Instr.sameBits]⟩
 |r k=>simp[ei]at hk
 |m a b=>simp[ei]at hk
 |f=>simp[ei]at hk
theorem xw:∀ {ks:List Kd} {l:List SV} {j:Nat} {s:SV},ln ks l=true→l[j]? =some s→∃ κ,κ∈ks∧fit κ s=true
 | [],l,j,s,h,hj=>by have:=lD h;subst this;simp at hj
 |k::ks,l,j,s,h,hj=>by
  obtain⟨x,r,rfl,f1,f2⟩:=iY h
  cases j with
  |zero=>simp at hj;subst hj;exact⟨k,by simp,f1⟩
  |succ j=>simp at hj;obtain⟨κ,h1,h2⟩:=xw f2 hj;exact⟨κ,by simp[h1],h2⟩
theorem AB {kt:TypeId}{kk:Tag}(hk:wZ P kt=some kk){x:kk.T}{v u:Value}(hv:Rel F own w (svT kk x) v)(hu:Rel F own w (svT kk x) u):(Instr.keyThatStays v u).run P w=.ok u w:=by
 obtain⟨i,d,hi,htag,hd,ha,hcase⟩:=qF hk
 have:Instr.sameBits 10000 v u=true:=by
  rcases hcase with⟨h1,h2,h3⟩ | ⟨h1,h2,h3⟩
  ·rw[h1]at ha
   rw[nH ha.symm]at hv hu
   obtain⟨xs,rfl,hxs⟩:=kW hv
   obtain⟨ys,rfl,hys⟩:=kW hu
   have hsz:xs.size=ys.size:=hxs.1.trans hys.1.symm
   have key:∀ (j:Nat),j<xs.size→ys.getD j undef=xs.getD j undef∧Instr.sameBits 9999 (xs.getD j undef) (ys.getD j undef)=true:=fun j hj=>by
    have hjc:j< (cellsOf kk x).length:=by rw[←hxs.1];exact hj
    obtain⟨κ,q1,q2⟩:=xw (mh kk x) (List.getElem?_eq_getElem hjc)
    have hc:ei κ≠0:=by
     have:ei κ∈(cJ kk).map ei:=List.mem_map.2 ⟨κ,q1,rfl⟩
     rw[h2]at this
     exact sO _ this
    exact oq hc q2 (hxs.2 j _ (List.getElem?_eq_getElem hjc)) (hys.2 j _ (List.getElem?_eq_getElem hjc)) 9999
   simp only[Instr.sameBits,Bool.and_eq_true,beq_iff_eq,hsz,true_and,List.all_eq_true]
   rintro⟨a,b⟩ hm
   obtain⟨j,hj⟩:=List.getElem?_of_mem hm
   rw[List.getElem?_zip_eq_some]at hj
   obtain⟨j1,j2⟩:=hj
   have hjl:j<xs.size:=by have:=(List.getElem?_eq_some_iff.1 j1).1;simpa using this
   have:=(key j hjl).2
   simp only[Array.getElem?_toList]at j1 j2
   simpa[Array.getD_eq_getD_getElem?,j1,j2]using this
  ·rw[h1]at ha
   obtain⟨κ,s,k1,k2,k3,k4⟩:=qG h2 x
   rw[pl ha.symm k3]at hv hu
   exact(oq (by rw[k2];exact h3) k4 hv hu 10000).2
 simp[Instr.keyThatStays,this]
theorem MpAt.upd {own':Own}{w':World}(g:Goes F own w own' w'){kk vk:Tag}{l:List (kk.T×vk.T)}{es:Array MapEntry}(h:MpAt F own w kk vk l es){i:Nat}{x:kk.T}{y:vk.T}{vx vy:Value}(hx:Rel F own w (svT kk x) vx)(hy:Rel F own w (svT vk y) vy)(hi:i<l.length):
  MpAt F own' w' kk vk (l.set i (x,y)) (es.modify i fun e=>{ e with key:=vx,val:=vy}):=by
 refine⟨by simp[h.1],fun j p hp=>?_⟩
 rw[List.getElem?_set]at hp
 by_cases hij:i=j
 ·subst hij
  rw[if_pos rfl,if_pos hi]at hp
  simp only[Option.some.injEq]at hp
  subst hp
  obtain⟨e,e1,e2,_⟩:=h.2 i _ (List.getElem?_eq_getElem hi)
  exact⟨{ e with key:=vx,val:=vy},by simp[Array.getElem?_modify,e1],e2,hx.mono g,hy.mono g⟩
 ·rw[if_neg hij]at hp
  obtain⟨e,e1,e2,e3,e4⟩:=h.2 j p hp
  exact⟨e,by simp[Array.getElem?_modify,hij,e1],e2,e3.mono g,e4.mono g⟩
theorem MpAt.push {own':Own}{w':World}(g:Goes F own w own' w'){kk vk:Tag}{l:List (kk.T×vk.T)}{es:Array MapEntry}(h:MpAt F own w kk vk l es){x:kk.T}{y:vk.T}{vx vy:Value}(hx:Rel F own w (svT kk x) vx)(hy:Rel F own w (svT vk y) vy)(c:Nat):
  MpAt F own' w' kk vk (l++[(x,y)]) (es.push ⟨vx,vy,c⟩):=by
 refine⟨by simp[h.1],fun j p hp=>?_⟩
 rw[List.getElem?_append]at hp
 split at hp
 ·rename_i hlt
  obtain⟨e,e1,e2,e3,e4⟩:=h.2 j p hp
  exact⟨e,by rw[Array.getElem?_push_lt (by rw[h.1];exact hlt)];simpa[h.1,hlt]using e1,e2,e3.mono g,e4.mono g⟩
 ·rename_i hlt
  have hj:j=l.length:=by
   have:=(List.getElem?_eq_some_iff.1 hp).1
   simp at this;omega
  subst hj
  simp at hp
  subst hp
  exact⟨⟨vx,vy,c⟩,by rw[←h.1];simp,trivial,hx.mono g,hy.mono g⟩
theorem MpAt.erase {own':Own}{w':World}(g:Goes F own w own' w'){kk vk:Tag}{l:List (kk.T×vk.T)}{es:Array MapEntry}(h:MpAt F own w kk vk l es)(i:Nat):
  MpAt F own' w' kk vk (l.eraseIdx i) (es.eraseIdxIfInBounds i):=by
 have hz:es.toList.length=l.length:=by simpa using h.1
 refine⟨?_,fun j p hp=>?_⟩
 ·rw[←Array.length_toList,Array.toList_eraseIdxIfInBounds,List.length_eraseIdx,List.length_eraseIdx,hz]
 ·rw[←Array.getElem?_toList,Array.toList_eraseIdxIfInBounds,List.getElem?_eraseIdx]
  rw[List.getElem?_eraseIdx]at hp
  split at hp
  ·rename_i hlt
   obtain⟨e,e1,e2,e3,e4⟩:=h.2 _ p hp
   exact⟨e,by rw[if_pos hlt,Array.getElem?_toList];exact e1,e2,e3.mono g,e4.mono g⟩
  ·rename_i hlt
   obtain⟨e,e1,e2,e3,e4⟩:=h.2 _ p hp
   exact⟨e,by rw[if_neg hlt,Array.getElem?_toList];exact e1,e2,e3.mono g,e4.mono g⟩
theorem vU (es:Array MapEntry)(i:Nat)(f:MapEntry→MapEntry)(hf:∀ e,(f e).born=e.born):d6 (es.modify i f)=d6 es:=by
 unfold d6
 refine List.ext_getElem? fun j=>?_
 simp only[List.getElem?_map,Array.getElem?_toList,Array.getElem?_modify]
 split <;>cases es[j]? <;>simp[hf]
theorem Stamped.modify {es:Array MapEntry}{c i:Nat}{f:MapEntry→MapEntry}(h:Stamped es c)(hf:∀ e,(f e).born=e.born):Stamped (es.modify i f) c:=by
 unfold Stamped;rw[vU es i f hf];exact h
theorem Stamped.push {es:Array MapEntry}{c:Nat}(h:Stamped es c)(vx vy:Value):Stamped (es.push ⟨vx,vy,c⟩) (c+1):=by
 have e:d6 (es.push ⟨vx,vy,c⟩)=d6 es++[c]:=by simp[d6]
 unfold Stamped;rw[e]
 refine⟨List.nodup_append.2 ⟨h.1,by simp,fun a ha b hb=>?_⟩,fun n hn=>?_⟩
 ·simp at hb;subst hb;have:=h.2 a ha;omega
 ·rcases List.mem_append.1 hn with hn|hn
  ·have:=h.2 n hn;omega
  ·simp at hn;omega
theorem Stamped.erase {es:Array MapEntry}{c:Nat}(h:Stamped es c)(i:Nat):Stamped (es.eraseIdxIfInBounds i) c:=by
 have e:(d6 (es.eraseIdxIfInBounds i)).Sublist (d6 es):=by
  unfold d6;rw[Array.toList_eraseIdxIfInBounds];exact(List.eraseIdx_sublist _ _).map _
 exact⟨h.1.sublist e,fun n hn=>h.2 n (e.subset hn)⟩
theorem uH {κ υ:Type}[DecidableEq κ]{x:κ}:∀ {l:List (κ×υ)},gl l x=none→qv l x=l
 | [],_=>rfl
 |(a,b)::r,h=>by
  simp only[gl]at h
  split at h
  ·cases h
  ·rename_i hne
   simp only[qv,if_neg hne]
   rw[uH (by cases hm:gl r x with
    |none=>rfl
    |some i=>rw[hm]at h;cases h)]
theorem uI {κ υ:Type}[DecidableEq κ]{x:κ}:∀ {l:List (κ×υ)} {i:Nat},gl l x=some i→qv l x=l.eraseIdx i
 | [],i,h=>by simp[gl]at h
 |(a,b)::r,i,h=>by
  simp only[gl]at h
  split at h
  ·rename_i he
   cases h
   simp[qv,he]
  ·rename_i hne
   cases hm:gl r x with
   |none=>rw[hm]at h;cases h
   |some j=>
    rw[hm]at h
    simp at h
    subst h
    simp[qv,hne,uI hm]
theorem lF {h:List Ob}(hp:Hp F own w h){id:Nat}{hd:Hd}(h1:own id=some hd){b:Nat}(hb:hd.bs=[b])(hv:hd.v=.map (some b)){es:Array MapEntry}{c:Nat}(hh:w.heap[b]? =some (.map es c))(es':Array MapEntry)(c':Nat){kk vk:Tag}{l':List (kk.T×vk.T)}{p':Option (Nat×Option kk.T)}
  (hm:∀ own' w',Goes F own w own' w'→MpAt F own' w' kk vk (cC kk vk l' p') es') (hs:Stamped es' c') (hpd:PendOk own kk vk l' es' c' p'):Step F own w (bu h id (.mp kk vk l' p')) own (pm w b (.map es' c')):=by
 refine iX hp h1 (b:=b) (by simp[hb]) (by simp[pm]) (fun k hk=>y_ hk) rfl rfl rfl _ fun g=>⟨b,es',c',hv,hb,?_,hm _ _ g,hs,hpd⟩
 have:=jf hh
 simp[pm,this]
theorem AC {h:List Ob}(hp:Hp F own w h){t:TypeId}{ti:TI}(ht:cB P t=some ti){s sk sv:SV}{v vx vy:Value}(hr:Rel F own w s v)(hrk:Rel F own w sk vx)(hrv:Rel F own w sv vy){r:OR}(he:rO ti h sk sv s=r)(hne:r≠ .bad):
  ∃ ups,r=.eff True True ups .any∧∃ w',(Instr.mapUpdate t v vx vy).run P w=.ok () w'∧Step F own w (aQ h ups) own w':=by
 unfold rO at he
 split at he
 ·rename_i id
  obtain⟨hdd,h1,rfl,h2⟩:=eA hr
  cases ho:ag h id with
  |mp kk vk l pend=>
   rw[ho]at he
   simp only[Iu]at he
   cases hc:fm kk ti.mkt&&fm vk ti.mvt&&noE pend with
   |false=>rw[hc]at he;exact absurd he.symm hne
   |true=>
    rw[hc]at he;simp only[cond_true]at he
    simp only[Bool.and_eq_true]at hc
    unfold It at he
    split at he
    ·rename_i x y hx hy
     subst he
     obtain⟨kt,e,q1,q2,q3⟩:=oH ht (g6 hc.1.1) (g6 hc.1.2)
     obtain⟨hd',e0,b,es,clk,m1,m2,m3,m4,m5,_⟩:=hp.at ho rfl
     rw[h1]at e0;cases e0
     rw[fw hc.2]at m4
     have rx:=jX hrk hx
     have ry:=jX hrv hy
     have hg:(getObj b).run P w=.ok (.map es clk) w:=by simp[getObj,Sem.run,m3]
     have hset:∀ o,(setObj b o).run P w=.ok () (pm w b o):=fun o=>by simp[setObj,Sem.run,m3,pm]
     have hck:=kX q2 rx false
     have hfk:=mj q2 rx m4.1 (fun i p hp=>by obtain⟨e,e1,e2,e3,_⟩:=m4.2 i p hp;exact⟨e,e1,e3⟩)
     refine⟨_,rfl,?_⟩
     simp only[aQ]
     cases hmi:gl l x with
     |none=>
      obtain⟨_,n2,_⟩:=lE hmi
      have:=lF hp h1 m2 m1 m3 (es.push ⟨vx,vy,clk⟩) (clk+1) (l':=d_ kk vk l x y) (p':=none) (fun own' w' g=>by
       simp only[cC,d_,n2]
       exact MpAt.push g m4 rx ry clk) (m5.push vx vy) trivial
      refine⟨_,?_,this⟩
      rw[hmi]at hfk
      simp only[m1,Instr.mapUpdate,Sem.run_bind,run_underlying q1,Result.andThen_ok,hg,hck,hfk,Option.bind_none,hset]
     |some i=>
      obtain⟨y',n1,n2,n3,_⟩:=j_ hmi
      obtain⟨e',k1,k2,k3,k4⟩:=m4.2 i _ n1
      have:=lF hp h1 m2 m1 m3 (es.modify i fun e=>{ e with key:=vx,val:=vy}) clk (l':=d_ kk vk l x y) (p':=none) (fun own' w' g=>by
       simp only[cC,d_,n3]
       exact MpAt.upd g m4 rx ry (List.getElem?_eq_some_iff.1 n1).1) (m5.modify fun _=>rfl) trivial
      refine⟨_,?_,this⟩
      rw[hmi]at hfk
      have hst:=AB q2 k3 rx
      simp only[m1,Instr.mapUpdate,Sem.run_bind,run_underlying q1,Result.andThen_ok,hg,hck,hfk,Option.bind_some,k1,Option.map_some,Option.getD_some,hst,hset]
    ·exact absurd he.symm hne
  |_=>rw[ho]at he;exact absurd he.symm hne
 ·exact absurd he.symm hne
theorem FB {h:List Ob}(hp:Hp F own w h){t:TypeId}{ti:TI}(ht:cB P t=some ti){l:List SV}{vs:Array Value}(hl:RelL F own w l vs){r:OR}(he:oB ti h l=r)(hne:r≠ .bad){tys:Array TypeId}(hty:tys[0]? =some t)(ty:TypeId):
  ∃ ups,r=.eff True True ups .any∧∃ u w',(Builtin.delete_ tys ty vs).run P w=.ok u w'∧Step F own w (aQ h ups) own w':=by
 unfold oB at he
 split at he
 ·rename_i id sk
  obtain⟨vs⟩:=vs
  have hsz:=hl.1
  match vs,hsz with
  | [v0,vx],_=>
  have hr:Rel F own w (.os id) v0:=hl.2 0 _ rfl
  have hrk:Rel F own w sk vx:=hl.2 1 _ rfl
  obtain⟨hdd,h1,rfl,h2⟩:=eA hr
  cases ho:ag h id with
  |mp kk vk l pend=>
   rw[ho]at he
   simp only[Ix]at he
   cases hc:fm kk ti.mkt&&fm vk ti.mvt&&noE pend with
   |false=>rw[hc]at he;exact absurd he.symm hne
   |true=>
    rw[hc]at he;simp only[cond_true]at he
    simp only[Bool.and_eq_true]at hc
    unfold Iw at he
    split at he
    ·rename_i x hx
     subst he
     obtain⟨kt,e,q1,q2,q3⟩:=oH ht (g6 hc.1.1) (g6 hc.1.2)
     obtain⟨hd',e0,b,es,clk,m1,m2,m3,m4,m5,_⟩:=hp.at ho rfl
     rw[h1]at e0;cases e0
     rw[fw hc.2]at m4
     have rx:=jX hrk hx
     have hg:(getObj b).run P w=.ok (.map es clk) w:=by simp[getObj,Sem.run,m3]
     have hset:∀ o,(setObj b o).run P w=.ok () (pm w b o):=fun o=>by simp[setObj,Sem.run,m3,pm]
     have hck:=kX q2 rx es.isEmpty
     have hfk:=mj q2 rx m4.1 (fun i p hp=>by obtain⟨e,e1,e2,e3,_⟩:=m4.2 i p hp;exact⟨e,e1,e3⟩)
     refine⟨_,rfl,?_⟩
     simp only[aQ]
     cases hmi:gl l x with
     |none=>
      have:=lF hp h1 m2 m1 m3 es clk (l':=jo kk vk l x) (p':=none) (fun own' w' g=>by
       simp only[cC,jo,uH hmi]
       exact m4.carry g.carries) m5 trivial
      refine⟨.tuple #[],_,?_,this⟩
      rw[hmi]at hfk
      simp only[m1,Builtin.delete_,hty,List.getElem?_toArray,List.getElem?_cons_zero,List.getElem?_cons_succ,Sem.run_bind,run_underlying q1,Result.andThen_ok,hg,hck,hfk,Option.bind_none,hset,Sem.run_pure]
     |some i=>
      obtain⟨y',n1,n2,n3,_⟩:=j_ hmi
      obtain⟨e',k1,k2,k3,k4⟩:=m4.2 i _ n1
      have:=lF hp h1 m2 m1 m3 (es.eraseIdxIfInBounds i) clk (l':=jo kk vk l x) (p':=none) (fun own' w' g=>by
       simp only[cC,jo,uI hmi]
       exact MpAt.erase g m4 i) (m5.erase i) trivial
      refine⟨.tuple #[],_,?_,this⟩
      rw[hmi]at hfk
      simp only[m1,Builtin.delete_,hty,List.getElem?_toArray,List.getElem?_cons_zero,List.getElem?_cons_succ,Sem.run_bind,run_underlying q1,Result.andThen_ok,hg,hck,hfk,Option.bind_some,k1,Option.map_some,hset,Sem.run_pure]
    ·exact absurd he.symm hne
  |_=>rw[ho]at he;exact absurd he.symm hne
 ·exact absurd he.symm hne
theorem zb {es:Array MapEntry}{i:Nat}{e':MapEntry}(k1:es[i]? =some e')(vx:Value):(es.modify i fun e=>{ e with key:=vx})=es.modify i fun e=>{ e with key:=vx,val:=e'.val}:=by
 apply Array.ext
 ·simp
 ·intro j h1 h2
  simp only[Array.getElem_modify]
  split
  ·rename_i hij
   subst hij
   have hle:i<es.size:=by simpa using h1
   have:es[i]=e':=by rw[Array.getElem?_eq_getElem hle]at k1;simpa using k1
   rw[this]
  ·rfl
theorem FC {h:List Ob}(hp:Hp F own w h){nx:Nat}(hn:NxOk own h nx){t:TypeId}{ti:TI}(ht:cB P t=some ti){s sk:SV}{v vx:Value}(hr:Rel F own w s v)(hrk:Rel F own w sk vx){r:OR}(he:nX ti nx h sk s=r)(hne:r≠ .bad):
  rz F own w h ((Instr.mapEntry t v vx).run P w) r:=by
 unfold nX at he
 split at he
 ·rename_i id
  obtain⟨hdd,h1,rfl,h2⟩:=eA hr
  cases ho:ag h id with
  |mp kk vk l pend=>
   rw[ho]at he
   simp only[Bo]at he
   cases hc:fm kk ti.mkt&&fm vk ti.mvt&&noE pend with
   |false=>rw[hc]at he;exact absurd he.symm hne
   |true=>
    rw[hc]at he;simp only[cond_true]at he
    simp only[Bool.and_eq_true]at hc
    unfold Bn at he
    split at he
    ·rename_i x hx
     subst he
     obtain⟨kt,e,q1,q2,q3⟩:=oH ht (g6 hc.1.1) (g6 hc.1.2)
     obtain⟨hd',e0,b,es,clk,m1,m2,m3,m4,m5,_⟩:=hp.at ho rfl
     rw[h1]at e0;cases e0
     rw[fw hc.2]at m4
     have rx:=jX hrk hx
     obtain⟨i,hi,htag⟩:=qE q3
     have hz:∃ z,i.zero=some z:=by
      have:=qD htag
      simp only[qu,Bool.and_eq_true]at this
      cases hz:i.zero with
      |none=>rw[hz]at this;simp at this
      |some z=>exact⟨z,rfl⟩
     obtain⟨z,hz⟩:=hz
     have hzr:=xv (F:=F) (own:=own) (w:=w) htag hz
     have hzv:(zeroValue e).run P w=.ok z w:=by simp[zeroValue,typeInfo,hi,hz]
     have hg:(getObj b).run P w=.ok (.map es clk) w:=by simp[getObj,Sem.run,m3]
     have hset:∀ o,(setObj b o).run P w=.ok () (pm w b o):=fun o=>by simp[setObj,Sem.run,m3,pm]
     have hck:=kX q2 rx false
     have hfk:=mj q2 rx m4.1 (fun i p hp=>by obtain⟨e,e1,e2,e3,_⟩:=m4.2 i p hp;exact⟨e,e1,e3⟩)
     have hidn:id≠nx:=fun e=>by rw[e,hn.none]at h1;cases h1
     have st1:∀ n:Nat,Step F own w (bu h nx (.fwd none)) (own.move [] nx ⟨none,.int .i64 n,[],[]⟩) w:=fun n=>
      fJ (nx:=nx) hp hn [] (by simp) ⟨none,.int .i64 n,[],[]⟩ (.fwd none) (fun b hb=>by simp at hb) (fun _ _ _=>rfl) (Nat.le_refl _) rfl rfl rfl fun own' g i hi=>by cases hi
     have go:∀ n:Nat,(own.move [] nx ⟨none,.int .i64 n,[],[]⟩) id=some hdd:=fun n=>by simp[Own.move,hidn,h1]
     have gx:∀ n:Nat,(own.move [] nx ⟨none,.int .i64 n,[],[]⟩) nx=some ⟨none,.int .i64 n,[],[]⟩:=fun n=>by simp[Own.move]
     have fin:∀ (n:Nat) (es':Array MapEntry) (c':Nat),(∀ own' w',Goes F own w own' w'→MpAt F own' w' kk vk (cC kk vk l (some (nx,some x))) es')→Stamped es' c'→(∃ e,es'[jT kk vk l x]? =some e∧e.born=n)→
       Step F own w (aQ h [(nx,.fwd none),(id,.mp kk vk l (some (nx,some x)))]) (own.move [] nx ⟨none,.int .i64 n,[],[]⟩) (pm w b (.map es' c')):=fun n es' c' hm hs hpd=>by
      obtain⟨e1,p1,p2⟩:=hpd
      have s1:=st1 n
      have s2:=lF s1.hp (go n) m2 m1 m3 es' c' (l':=l) (p':=some (nx,some x)) (fun own' w' g=>hm _ _ ⟨fun id hd h=>by obtain⟨hd',a,b⟩:=s1.fr.goes.ids (F:=F) id hd h;obtain⟨hd2,a2,b2⟩:=g.ids _ _ a;exact⟨hd2,a2,b.trans b2⟩,fun b hb hn=>by
       obtain⟨a1,a2⟩:=s1.fr.goes.keep b hb hn
       obtain⟨a3,a4⟩:=g.keep b hb a1
       exact⟨a3,a4⟩,g.size⟩) hs ⟨_,e1,gx n,p1,by rw[p2]⟩
      refine⟨s2.hp,s1.fr.trans s2.fr,fun j hj hd=>?_⟩
      have hd2:b9 (ag (bu (bu h nx (.fwd none)) id (.mp kk vk l (some (nx,some x)))) j)=true:=hd
      rw[ci,ci]at hd2
      by_cases e:j=nx
      ·subst e;rw[if_neg hidn,if_pos rfl]at hd2;cases hd2
      ·simp[Own.move,e,hj]
     cases hmi:gl l x with
     |none=>
      obtain⟨n1,n2,n3⟩:=lE hmi
      have hpos:jT kk vk l x=es.size:=by rw[m4.1];simp[jT,n3]
      have:=fin clk (es.push ⟨vx,z,clk⟩) (clk+1) (fun own' w' g=>by
       simp only[cC,n1,Option.isSome_none,Bool.false_eq_true,if_false]
       exact MpAt.push g m4 rx hzr clk) (m5.push vx z) ⟨⟨vx,z,clk⟩,by rw[hpos];simp,rfl⟩
      refine⟨_,_,_,_,rfl,fun _=>⟨trivial,.tuple #[z,.int .i64 clk],_,_,?_,.tup rfl fun j s hj=>?_,this⟩⟩
      ·rw[hmi]at hfk
       simp only[m1,Instr.mapEntry,Sem.run_bind,run_underlying q1,Result.andThen_ok,hg,hck,hfk,Option.bind_none,hzv,hset]
       simp[goInt]
      ·match j,hj with
       |0,hj=>cases hj;have:=hzr.mono this.fr.goes;simpa[cn,n1]using this
       |1,hj=>cases hj;exact .os (gx clk) rfl
     |some i=>
      obtain⟨y',n1,n2,n3,n4⟩:=j_ hmi
      obtain⟨e',k1,k2,k3,k4⟩:=m4.2 i _ n1
      have hes':=zb k1 vx
      have hpos:jT kk vk l x=i:=n4
      have:=fin e'.born (es.modify i fun e=>{ e with key:=vx}) clk (fun own' w' g=>by
       simp only[cC,n2,Option.isSome_some,if_true]
       rw[hes']
       have:=MpAt.upd g m4 rx k4 (List.getElem?_eq_some_iff.1 n1).1
       rwa[show l.set i (x,y')=l by
        apply List.ext_getElem?
        intro j
        rw[List.getElem?_set]
        by_cases hij:i=j
        ·subst hij;rw[if_pos rfl,if_pos (List.getElem?_eq_some_iff.1 n1).1,n1]
        ·rw[if_neg hij]]at this) (m5.modify fun _=>rfl) ⟨{ e' with key:=vx},by rw[hpos];simp[Array.getElem?_modify,k1],rfl⟩
      refine⟨_,_,_,_,rfl,fun _=>⟨trivial,.tuple #[e'.val,.int .i64 e'.born],_,_,?_,.tup rfl fun j s hj=>?_,this⟩⟩
      ·rw[hmi]at hfk
       have hst:=AB q2 k3 rx
       simp only[m1,Instr.mapEntry,Sem.run_bind,run_underlying q1,Result.andThen_ok,hg,hck,hfk,Option.bind_some,k1,Option.map_some,Option.getD_some,hst,hset]
       simp[goInt]
      ·match j,hj with
       |0,hj=>cases hj;have:=k4.mono this.fr.goes;simpa[cn,n2]using this
       |1,hj=>cases hj;exact .os (gx _) rfl
    ·exact absurd he.symm hne
  |_=>rw[ho]at he;exact absurd he.symm hne
 ·exact absurd he.symm hne
theorem Db {es:Array MapEntry}{i:Nat}{e:MapEntry}(hb:(d6 es).Nodup)(hi:es[i]? =some e):es.findIdx? (fun x=>(x.born:Int) ==(e.born:Int))=some i:=by
 obtain⟨hn,he⟩:=Array.getElem?_eq_some_iff.1 hi
 rw[Array.findIdx?_eq_some_iff_getElem]
 refine⟨hn,by simp[he],fun j hj=>?_⟩
 simp only[beq_iff_eq]
 intro hc
 have hjl:j< (d6 es).length:=by simp[d6];omega
 have hil:i< (d6 es).length:=by simp[d6];omega
 have hlt:=List.pairwise_iff_getElem.1 hb j i hjl hil hj
 apply hlt
 simp only[d6,List.getElem_map,Array.getElem_toList,he]
 omega
theorem FD {h:List Ob}(hp:Hp F own w h){t:TypeId}{ti:TI}(ht:cB P t=some ti){s ss sv:SV}{v vs vy:Value}(hr:Rel F own w s v)(hrs:Rel F own w ss vs)(hrv:Rel F own w sv vy){r:OR}(he:vI ti h sv s ss=r)(hne:r≠ .bad):
  ∃ c ups,r=.eff c True ups .any∧(c→∃ w',(Instr.entryStore t v vs vy).run P w=.ok () w'∧Step F own w (aQ h ups) own w'):=by
 unfold vI at he
 split at he
 ·rename_i id n
  obtain⟨hdd,h1,rfl,h2⟩:=eA hr
  obtain⟨hds,s1,rfl,_⟩:=eA hrs
  cases ho:ag h id with
  |mp kk vk l pend=>
   rw[ho]at he
   cases pend with
   |none=>exact absurd he.symm hne
   |some q=>
   obtain⟨n',q⟩:=q
   cases q with
   |none=>exact absurd he.symm hne
   |some x=>
   simp only[Fk]at he
   cases hc:fm kk ti.mkt&&fm vk ti.mvt&&Nat.beq n' n with
   |false=>rw[hc]at he;exact absurd he.symm hne
   |true=>
    rw[hc]at he;simp only[cond_true]at he
    simp only[Bool.and_eq_true]at hc
    have hnn:=Nat.eq_of_beq_eq_true hc.2
    subst hnn
    unfold Iv at he
    split at he
    ·rename_i y hy
     subst he
     obtain⟨hd',e0,b,es,clk,m1,m2,m3,m4,m5,hd2,e',t1,k1,t3⟩:=hp.at ho rfl
     rw[h1]at e0;cases e0
     rw[s1]at t1;cases t1
     have ry:=jX hrv hy
     refine⟨_,_,rfl,fun _=>?_⟩
     simp only[aQ]
     have hg:(getObj b).run P w=.ok (.map es clk) w:=by simp[getObj,Sem.run,m3]
     have hset:∀ o,(setObj b o).run P w=.ok () (pm w b o):=fun o=>by simp[setObj,Sem.run,m3,pm]
     have hpos:∃ y0,(cC kk vk l (some (n',some x)))[jT kk vk l x]? =some (x,y0)∧d_ kk vk l x y=(cC kk vk l (some (n',some x))).set (jT kk vk l x) (x,y):=by
      cases hmi:gl l x with
      |none=>
       obtain⟨n1,n2,n3⟩:=lE hmi
       refine⟨dq vk,?_,?_⟩
       ·simp[cC,n1,jT,n3]
       ·simp[cC,n1,jT,n3,d_,n2]
      |some i=>
       obtain⟨y',n1,n2,n3,n4⟩:=j_ hmi
       exact⟨y',by simp[cC,n2,jT,n4,n1],by simp[cC,n2,jT,n4,d_,n3]⟩
     obtain⟨y0,p1,p2⟩:=hpos
     obtain⟨e'',k1',k2,k3,k4⟩:=m4.2 _ _ p1
     rw[k1]at k1';cases k1'
     have hlt:jT kk vk l x<es.size:=(Array.getElem?_eq_some_iff.1 k1).1
     have hes':(es.modify (jT kk vk l x) fun e=>{ e with val:=vy})=es.modify (jT kk vk l x) fun e=>{ e with key:=e'.key,val:=vy}:=by
      apply Array.ext
      ·simp
      ·intro j h1 h2
       simp only[Array.getElem_modify]
       split
       ·rename_i hij
        subst hij
        have:es[jT kk vk l x]=e':=by rw[Array.getElem?_eq_getElem (by simpa using h1)]at k1;simpa using k1
        rw[this]
       ·rfl
     have:=lF hp h1 m2 m1 m3 (es.modify (jT kk vk l x) fun e=>{ e with val:=vy}) clk (l':=d_ kk vk l x y) (p':=none) (fun own' w' g=>by
      simp only[cC]
      rw[hes',p2]
      exact MpAt.upd g m4 k3 ry (by rw[←m4.1];exact hlt)) (m5.modify fun _=>rfl) trivial
     refine⟨_,?_,this⟩
     have hfi:=Db m5.1 k1
     simp only[m1,t3,Instr.entryStore,Sem.run_bind,hg,Result.andThen_ok,asInt,kU,hfi,hset,Sem.run_pure]
    ·exact absurd he.symm hne
  |_=>rw[ho]at he;exact absurd he.symm hne
 ·exact absurd he.symm hne
end
end Go.Sx
end
section
namespace Go.Sx
open Go.RowKit
section
variable {P:Program}{F:Nat→Prop}{own:Own}{w:World}
theorem GridIn.swap {k:Tag}{m:List k.T}{v:Value}{bn:List Nat}(h1:jq v=true)(hm:RowRel F own w k m v bn):∀ {l:List (List k.T)} {vs:List Value} {bs:List Nat} {i:Nat},GridIn F own w k l vs bs→i<l.length→bs.Nodup→bn.Nodup→(∀ b∈bs,b ∉ bn)→
  ∃ bs',GridIn F own w k (l.set i m) (vs.set i v) bs'∧(∀ b∈bs',b∈bs∨b∈bn)∧bs'.Nodup
 |l::ls,u::vs,bs,0,⟨b1,b2,e,h0,h2,h3⟩,_,hn,hbn,hd=>by
  subst e
  have hn':=List.nodup_append.1 hn
  refine⟨bn++b2,⟨bn,b2,rfl,h1,hm,h3⟩,fun b hb=>?_,List.nodup_append.2 ⟨hbn,hn'.2.1,fun a ha b hb e=>hd b (List.mem_append_right _ hb) (e▸ha)⟩⟩
  rcases List.mem_append.1 hb with q|q
  ·exact .inr q
  ·exact .inl (List.mem_append_right _ q)
 |l::ls,u::vs,bs,i+1,⟨b1,b2,e,h0,h2,h3⟩,hi,hn,hbn,hd=>by
  subst e
  have hn':=List.nodup_append.1 hn
  obtain⟨bs',q1,q2,q3⟩:=GridIn.swap h1 hm h3 (by simpa using hi) hn'.2.1 hbn fun b hb=>hd b (List.mem_append_right _ hb)
  refine⟨b1++bs',⟨b1,bs',rfl,h0,h2,q1⟩,fun b hb=>?_,List.nodup_append.2 ⟨hn'.1,q3,fun a ha b hb e=>?_⟩⟩
  ·rcases List.mem_append.1 hb with q|q
   ·exact .inl (List.mem_append_left _ q)
   ·exact(q2 b q).imp (List.mem_append_right _) id
  ·rcases q2 b hb with q|q
   ·exact hn'.2.2 a ha b q e
   ·exact hd a (List.mem_append_left _ ha) (e▸q)
 | [],_,_,_,_,hi,_,_,_=>absurd hi (Nat.not_lt_zero _)
 |_::_,[],_,_,h,_,_,_,_=>h.elim
theorem Step.fwd {h1:List Ob}{own1:Own}{w1:World}(s:Step F own w h1 own1 w1){id nx:Nat}{hd0 hd':Hd}(hid:own1 id=some hd0)(hb:hd0.bs=[])(hnx:own1 nx=some hd')(hv:hd'.v=hd0.v)(h0:jq hd0.v=true)(hl:id<h1.length)(ho:own id≠none):
  Step F own w (bu h1 id (.fwd (some nx))) own1 w1:=by
 have hat:∀ j,ag (bu h1 id (.fwd (some nx))) j=if id=j then .fwd (some nx)else ag h1 j:=fun j=>ci ..
 have hlen:(bu h1 id (.fwd (some nx))).length=h1.length:=by rw[bN,if_pos hl]
 refine⟨s.hp.upd (Goes.refl _ _ _) (fun j=>j=id) (by rw[hlen];exact Nat.le_refl _) (fun j hj=>⟨rfl,by rw[hat,if_neg (fun e=>hj e.symm)],fun _ _ _ _=>rfl⟩) (fun j hd hj e=>?_) (fun j hj _=>?_),s.fr,fun j hj hd=>?_⟩
 ·subst hj
  rw[hid]at e;cases e
  exact⟨by rw[hlen];exact hl,fun b q=>by rw[hb]at q;cases q⟩
 ·subst hj
  refine⟨hd0,hid,?_⟩
  rw[hat,if_pos rfl]
  intro i e;cases e
  exact⟨hd',hnx,hv,h0⟩
 ·have hne:id≠j:=fun e=>ho (e▸hj)
  rw[hat,if_neg hne]at hd
  exact s.fresh j hj hd
theorem BO {h:List Ob}(hp:Hp F own w h){nx:Nat}(hn:NxOk own h nx){t:TypeId}{ti:TI}(ht:cB P t=some ti){id rid:Nat}{i:Int}{k:Tag}{l:List (List k.T)}{m:List k.T}{v vx:Value}(hr:Rel F own w (.rp 1 id i 0) v)(hrx:Rel F own w (.os rid) vx)(hne:id≠rid)(hsz:ti.size=1)
  (ho:ag h id=.grid k l) (ho2:ag h rid=.row k m):∃ own' w',(Instr.storeAt t v vx).run P w=.ok () w'∧Step F own w (aQ h [(id,.dead),(rid,.dead),(nx,.grid k (l.set i.toNat m)),(id,.fwd (some nx))]) own' w':=by
 cases hr with
 |rp h1 h2 h3=>
 rename_i n cap b o hd
 obtain⟨hd2,g1,rfl,g2⟩:=eA hrx
 obtain⟨hd',e0,e⟩:=hp.at ho rfl
 rw[h1]at e0;cases e0
 obtain⟨hd2',e0,hm⟩:=hp.at ho2 rfl
 rw[g1]at e0;cases e0
 rcases e with⟨q,_⟩ | ⟨b',o',cap',cs,ty,bs,e1,e2,e3,e4,e5,e6,e7,e8,e9⟩
 ·rw[h2]at q;cases q
 have e1':=e1
 rw[h2]at e1
 simp only[Value.slice.injEq,Option.some.injEq,Addr.mk.injEq]at e1
 obtain⟨⟨rfl,rfl,_⟩,rfl,rfl⟩:=e1
 obtain⟨cs',w',q1,q2,q3,q4,q5⟩:=nG (P:=P) ht hrx (xs:=[.os rid]) rfl (by rw[hsz];rfl) (fun j s hj v hv=>by
  cases j with
  |zero=>simp at hj;subst hj;obtain⟨hd3,_,rfl,k2⟩:=eA hv;exact gj k2
  |succ j=>simp at hj) (off:=o+i.toNat) e4 (by simp;omega)
 have hnd:bs.Nodup∧b ∉ bs:=by rw[e2,List.nodup_cons]at e3;exact⟨e3.2,e3.1⟩
 have hbb:b∈hd.bs:=by rw[e2];exact List.mem_cons_self
 have hdis:∀ c∈hd.bs,c ∉ hd2.bs:=fun c hc hc2=>hne (hp.inj id rid hd hd2 c h1 g1 hc hc2)
 have hnd2:hd2.bs.Nodup:=by rcases hm.blocks with e| ⟨c,e⟩ <;>rw[e] <;>simp
 obtain⟨bs',r1,r2,r3⟩:=e9.swap (i:=i.toNat) g2 hm h3 hnd.1 hnd2 (fun c hc=>hdis c (by rw[e2];exact List.mem_cons_of_mem _ hc))
 have hb':b ∉ bs':=fun hm=>by
  rcases r2 b hm with q|q
  ·exact hnd.2 q
  ·exact hdis b hbb q
 have hK:∀ id'∈[id,rid],∃ hd,own id'=some hd:=by simp;exact⟨⟨_,h1⟩,⟨_,g1⟩⟩
 have hKl:id<h.length:=hp.dom _ _ h1
 have hnk:nx ∉ [id,rid]:=fun hm=>by obtain⟨hd,e⟩:=hK nx hm;rw[hn.none]at e;cases e
 have hu:cs'[o+i.toNat]? =some hd2.v:=by
  obtain⟨u,k1,k2⟩:=q4 (o+i.toNat) (Nat.le_refl _) (by simp)
  obtain⟨hd3,k3,k4,_⟩:=eA (k2 (.os rid) (by simp))
  rw[g1]at k3;cases k3
  rw[k1,k4]
 have st:=fJ (w':=w') hp hn [id,rid] hK ⟨none,hd.v,hd.vs.set i.toNat hd2.v,b::bs'⟩ (.grid k (l.set i.toNat m)) (fun c hc=>by
   left
   rcases List.mem_cons.1 hc with rfl|hc
   ·exact⟨id,by simp,hd,h1,hbb⟩
   ·rcases r2 c hc with q|q
    ·exact⟨id,by simp,hd,h1,by rw[e2];exact List.mem_cons_of_mem _ q⟩
    ·exact⟨rid,by simp,hd2,g1,q⟩)
  (fun c _ hno=>q2.other c fun e=>hno ⟨id,by simp,hd,h1,e▸hbb⟩) (by rw[q2.size];exact Nat.le_refl _) q2.os q2.tape q2.output
  (fun own' g=>.inr ⟨b,o,cap,cs',ty,bs',by simpa using e1',rfl,List.nodup_cons.2 ⟨hb',r3⟩,q2.here,by rw[q3];exact e5,by simpa using e6,by simpa using e7,fun j u hj=>by
    rw[List.getElem?_set]at hj
    by_cases hji:i.toNat=j
    ·subst hji
     rw[if_pos rfl]at hj
     split at hj
     ·cases hj;exact hu
     ·cases hj
    ·rw[if_neg hji]at hj
     rw[q5 (o+j) (by simp;omega)]
     exact e8 j u hj,r1.carry g.carries fun c hc=>q2.other c fun e=>hb' (e▸hc)⟩)
 have hmv:=ft nx (.grid k (l.set i.toNat m)) [id,rid] h 0 hnk (fun j hj=>by obtain⟨hd,e⟩:=hK j hj;exact hp.dom _ _ e)
 have hidn:id≠nx:=fun e=>hnk (e▸by simp)
 have:=st.fwd (id:=id) (nx:=nx) (hd0:= { hd with bs:=[]}) (hd':=⟨none,hd.v,hd.vs.set i.toNat hd2.v,b::bs'⟩) (by simp[Own.move,hidn,h1]) rfl (by simp[Own.move]) rfl (by show jq hd.v=true;rw[h2];rfl) (Nat.lt_of_lt_of_le hKl hmv.2.1) (by rw[h1];simp)
 exact⟨_,w',by simpa using q1,this⟩
theorem sS {k:Tag}(a:Option Addr):∀ n:Nat,GridIn F own w k (List.replicate n []) (List.replicate n (.slice a 0 0)) []
 |0=>rfl
 |n+1=>⟨[],[],rfl,rfl,.inl ⟨a,rfl,rfl,rfl⟩,sS a n⟩
theorem FE {h:List Ob}(hp:Hp F own w h){nx:Nat}(hn:NxOk own h nx){t:TypeId}{ti te tr:TI}(ht:cB P t=some ti)(hte:cB P ti.elem=some te)(hsl:ti.isSlice=true){sl sc:SV}{vl vc:Value}(hrl:Rel F own w sl vl)(hrc:Rel F own w sc vc){r:OR}(he:t_ nx te tr sl sc=r)(hne:r≠ .bad):
  rz F own w h ((Instr.makeSlice t vl vc).run P w) r:=by
 obtain⟨i,d,z,hi,hd,hz,hq,rfl⟩:=bj ht
 obtain⟨ie,de,ze,hie,hde,hze,hqe,hte'⟩:=bj hte
 cases d <;>simp[cA]at hsl
 rename_i e
 simp only[cA]at hie
 unfold t_ at he
 split at he
 ·rename_i n c
  have el:=bV hrl
  have ec:=bV hrc
  subst el;subst ec
  unfold Fi at he
  split at he
  ·rename_i k htag
   cases hcz:Nat.beq te.size 1&&CN te.zero&&Nat.ble 1 te.bytes with
   |false=>rw[hcz]at he;exact absurd he.symm hne
   |true=>
   rw[hcz]at he;simp only[cond_true]at he
   subst he
   simp only[Bool.and_eq_true]at hcz
   have hes:te.size=ie.size:=by rw[hte'];rfl
   have heb:te.bytes=ie.bytes:=by rw[hte'];rfl
   have hez:te.zero=svs ze:=by rw[hte'];simp[cA,hze]
   have t1:ie.size=1:=by rw[←hes];exact Nat.eq_of_beq_eq_true hcz.1.1
   have hzc:ze.cells= #[.slice none 0 0]:=by
    have:=hcz.1.2
    rw[hez]at this
    unfold CN at this
    split at this
    ·rename_i q
     unfold svs at q
     have q2:ze.cells.toList=[.slice none 0 0]:=by
      match hl:ze.cells.toList,q with
      | [y],q=>simp[hl]at q;rw[q]
      | [],q=>simp[hl]at q
      |_::_::_,q=>simp[hl]at q
     exact Array.ext' q2
    ·cases this
   refine⟨_,_,_,_,rfl,fun⟨hc1,hc2,hc3⟩ =>?_⟩
   subst hc1
   rw[heb]at hc3
   have hby:1≤ie.bytes:=by rw[←heb];exact Nat.le_of_ble_eq_true hcz.2
   have hnb:n≤n*(ie.bytes:Int):=by
    have:n*1≤n*(ie.bytes:Int):=Int.mul_le_mul_of_nonneg_left (by omega) hc2
    omega
   have hnm:n≤(cp:Int):=by unfold jL at hc3;unfold cp;omega
   refine⟨hnm,?_⟩
   have hrun:=run_make (P:=P) w t e ie ze hd hie hze .i64 .i64 n n hc2 (Int.le_refl _) (by rw[Int.mul_comm];unfold jL at hc3;omega) (by unfold cp at hnm;omega)
   refine⟨_,_,_,hrun,Rel.os (F:=F) (id:=nx) (hd:=⟨none,.slice (some ⟨w.heap.size,0,none⟩) n.toNat n.toNat,List.replicate n.toNat (.slice none 0 0),[w.heap.size]⟩) (Own.set_same _ _ _) rfl,lB hp hn (w1:=w) ⟨rfl,rfl,rfl,rfl⟩ _ _ _ rfl fun own' g=>.inr ⟨w.heap.size,0,n.toNat,_,e,[],by simp,rfl,by simp,gP _ _,?_,by simp,by simp;omega,fun q x hx=>?_,sS none _⟩⟩
   ·rw[size_madeCells,t1];omega
   ·have hql:q<n.toNat:=by have:=(List.getElem?_eq_some_iff.1 hx).1;simpa using this
    have hxd:x=.slice none 0 0:=List.eq_of_mem_replicate (List.mem_of_getElem? hx)
    subst hxd
    rw[Nat.zero_add]
    have hlt:q<n.toNat*1:=by omega
    simp only[madeCells,Array.getElem?_map,t1,Array.getElem?_range,hlt,if_true,Option.map_some,hzc]
    simp[Nat.mod_one]
  ·exact absurd he.symm hne
 ·exact absurd he.symm hne
theorem BP {h:List Ob}(hp:Hp F own w h){nx:Nat}(hn:NxOk own h nx){t:TypeId}{ti:TI}(ht:cB P t=some ti){s sx:SV}{v vx:Value}(hr:Rel F own w s v)(hrx:Rel F own w sx vx){r:OR}
  (he:jK ti.size nx h s sx=r) (hne:r≠ .bad):∃ ups own' w',r=.eff True True ups .any∧(Instr.storeAt t v vx).run P w=.ok () w'∧Step F own w (aQ h ups) own' w':=by
 have old:jJ ti.size h s (iQ sx)=r→∃ ups own' w',r=.eff True True ups .any∧(Instr.storeAt t v vx).run P w=.ok () w'∧Step F own w (aQ h ups) own' w':=fun he=>by
  obtain⟨ups,e,w',e1,e2⟩:=BI (P:=P) hp ht hr hrx he hne
  exact⟨ups,own,w',e,e1,e2⟩
 unfold jK at he
 split at he
 ·rename_i sz id i off rid
  cases hg:vE (ag h id)with
  |false=>rw[hg]at he;exact old he
  |true=>
   rw[hg]at he;simp only[cond_true]at he
   cases hc:Nat.beq ti.size 1&&Nat.beq sz 1&&Nat.beq off 0&& !(Nat.beq id rid)with
   |false=>rw[hc]at he;exact absurd he.symm hne
   |true=>
    rw[hc]at he;simp only[cond_true]at he
    simp only[Bool.and_eq_true,Bool.not_eq_true']at hc
    have c1:=Nat.eq_of_beq_eq_true hc.1.1.1
    have c2:=Nat.eq_of_beq_eq_true hc.1.1.2
    have c3:=Nat.eq_of_beq_eq_true hc.1.2
    have c4:id≠rid:=fun e=>by rw[e]at hc;simp at hc
    subst c2;subst c3
    cases ho:ag h id with
    |grid k l=>
     rw[ho]at he
     simp only[sp]at he
     cases ho2:ag h rid with
     |row k' m'=>
      rw[ho2]at he
      simp only[yO]at he
      split at he
      ·rename_i ek
       subst ek
       obtain⟨own',w',e1,e2⟩:=BO (P:=P) hp hn ht hr hrx c4 c1 ho ho2
       exact⟨_,own',w',he.symm,e1,e2⟩
      ·exact absurd he.symm hne
     |_=>rw[ho2]at he;exact absurd he.symm hne
    |_=>rw[ho]at hg;cases hg
 ·exact old he
theorem sT {k:Tag}{l:List k.T}{lo hi:Int}(h:hi.toNat≤l.length):(su k l lo hi).length=l.length:=by
 unfold su
 split
 ·rfl
 ·simp;omega
theorem uc {z:Array Value}{n i:Nat}(h:i<n*z.size):(Builtin.zeroCells z n)[i]? =some (z[i % z.size]!):=by
 simp[Builtin.zeroCells,h]
theorem FF {α:Type}{z:α}{n i:Nat}{x:α}(h:(List.replicate n z)[i]? =some x):x=z:=List.eq_of_mem_replicate (List.mem_of_getElem? h)
theorem FG {h:List Ob}(hp:Hp F own w h){t:TypeId}{ti te:TI}(ht:cB P t=some ti)(hte:cB P ti.elem=some te){l:List SV}{vs:Array Value}(hl:RelL F own w l vs){r:OR}(he:oA ti te h l=r)(hne:r≠ .bad)(ty:TypeId):
  rz F own w h ((Builtin.clear_ #[t] ty vs).run P w) r:=by
 obtain⟨i,d,z,hi,hd,hz,hq,rfl⟩:=bj ht
 obtain⟨ie,de,ze,hie,hde,hze,hqe,hte'⟩:=bj hte
 unfold oA at he
 split at he
 ·rename_i s id lo hi'
  obtain⟨vs⟩:=vs
  have hsz:=hl.1
  match vs,hsz with
  | [v0],_=>
  have hr:Rel F own w (.vw s id lo hi') v0:=hl.2 0 _ rfl
  cases hsl:(cA P t i d).isSlice with
  |false=>rw[hsl]at he;exact absurd he.symm hne
  |true=>
  rw[hsl]at he;simp only[cond_true]at he
  cases d <;>simp[cA]at hsl
  rename_i e
  simp only[cA]at hie
  cases hr with
  | @vw _ _ cap _ _ hd' a h1 h2 hcap3=>
  cases ho:ag h id with
  |row k m=>
   rw[ho]at he
   simp only[Is]at he
   cases hc:Nat.beq s (aa k)&&Ao k te.tag with
   |false=>rw[hc]at he;exact absurd he.symm hne
   |true=>
    rw[hc]at he;simp only[cond_true]at he;subst he
    rw[Bool.and_eq_true]at hc
    have hs:=Nat.eq_of_beq_eq_true hc.1
    have htag0:te.tag=some k:=by
     cases hq:te.tag with
     |none=>rw[hq]at hc;exact absurd hc.2 (by simp[Ao])
     |some b=>rw[hq]at hc;rw[pe (k:=k) (k':=b) hc.2]
    have htag:oe P e ie=some k:=by rw[hte']at htag0;exact htag0
    obtain⟨t1,t2,t3,t4⟩:=pj (F:=F) (own:=own) (w:=w) htag
    have hrz:=(t4 ze hze).1
    have hzs:ze.cells.size=aa k:=by rw[hrz.1,ba]
    have hzv:(zeroValue e).run P w=.ok ze w:=by simp[zeroValue,typeInfo,hie,hze]
    obtain⟨hdd,e0,hrow⟩:=hp.at ho rfl
    rw[h1]at e0;cases e0
    have hrow:RowRel F own w k m hd'.v hd'.bs:=hrow
    refine⟨_,_,_,_,rfl,fun _=>⟨trivial,.tuple #[],own,?_⟩⟩
    simp only[aQ]
    by_cases hlt:hi'.toNat≤lo.toNat
    ·have hn0:hi'.toNat - lo.toNat=0:=by omega
     refine⟨w,?_,.any _,?_⟩
     ·rw[hn0]
      cases a <;>simp[Builtin.clear_,run_underlying hd]
     ·rw[su,if_pos hlt]
      exact uA hp h1 _ hrow
    ·obtain⟨b,o,n,cap',e1,e2,e3⟩:=h2.resolve_left hlt
     subst e3
     rcases hrow with⟨a',q1,rfl,q2⟩ | ⟨b',o',cap2,cs,ty2,q1,q2,q3,q4,q5,q6,q7⟩
     ·rw[e1]at q1;cases q1;omega
     ·rw[e1]at q1
      simp only[Value.slice.injEq,Option.some.injEq,Addr.mk.injEq]at q1
      obtain⟨⟨rfl,rfl,_⟩,rfl,rfl⟩:=q1
      subst hs
      have hN:(hi'.toNat - lo.toNat)≠0:=by omega
      obtain⟨N,hN'⟩:∃ N,hi'.toNat - lo.toNat=N+1:=⟨hi'.toNat - lo.toNat - 1,by omega⟩
      have hmul:lo.toNat*aa k+(hi'.toNat - lo.toNat)*aa k≤cap'*aa k:=by
       rw[←Nat.add_mul];exact Nat.mul_le_mul_right _ (by omega)
      have hzc:(Builtin.zeroCells ze.cells (hi'.toNat - lo.toNat)).toList.length=(hi'.toNat - lo.toNat)*aa k:=by rw[Array.length_toList,jN,hzs]
      have hone:∀ v∈(Builtin.zeroCells ze.cells (hi'.toNat - lo.toNat)).toList,v.oneCell'=true:=fun v hv=>by
       have hm:v∈ze.cells:=by
        simp only[Builtin.zeroCells]at hv
        simp at hv
        obtain⟨w9,hv1,hv2⟩:=hv
        have hpos:0<ze.cells.size:=by
         rcases Nat.eq_zero_or_pos ze.cells.size with h0|h0
         ·rw[h0]at hv1;omega
         ·exact h0
        have:=Nat.mod_lt w9 hpos
        rw[getElem!_pos ze.cells _ this]at hv2
        rw[←hv2];exact Array.getElem_mem _
       obtain⟨j,hj,rfl⟩:=Array.getElem_of_mem hm
       have hjl:j< (cellsOf k (dq k)).length:=by rw[←hrz.1];exact hj
       have:=hrz.2 j _ (List.getElem?_eq_getElem hjl)
       have h9:=vP (List.getElem?_eq_getElem hjl) this
       rw[Array.getD_eq_getD_getElem?,Array.getElem?_eq_getElem hj]at h9
       exact gj h9
      obtain⟨cs',w',p1,p2,p3,p4⟩:=fW (P:=P) (b:=b) (o:=o+lo.toNat*aa k) (ty:=ty2) (Builtin.zeroCells ze.cells (hi'.toNat - lo.toNat)).toList 0 w cs q3 (by rw[hzc];omega) hone
      refine⟨w',?_,.any _,iX hp h1 (b:=b) (by rw[q2];simp) p2.size p2.other p2.os p2.tape p2.output _ fun g=>.inr ⟨b,o,cap',cs',ty2,?_,q2,p2.here,by rw[p3];exact q4,?_,?_,?_⟩⟩
      ·rw[hN']at p1 ⊢
       simp only[Builtin.clear_,List.getElem?_toArray,List.getElem?_cons_zero,Sem.run_bind,run_underlying hd,Result.andThen_ok,hzv,p1,Sem.run_pure]
      ·rw[e1,sT (by omega)]
      ·rw[sT (by omega)];exact q5
      ·rw[sT (by omega)];exact q6
      ·intro q x hx j s hj
       rw[su,if_neg hlt]at hx
       have hjl:j<aa k:=by rw[←ba k x];exact(List.getElem?_eq_some_iff.1 hj).1
       rw[p4,hzc]
       have hql:q<m.length:=by
        have:=(List.getElem?_eq_some_iff.1 hx).1
        simp at this;omega
       by_cases hin:lo.toNat≤q∧q<hi'.toNat
       ·have hx':x=dq k:=by
         rw[List.append_assoc,List.getElem?_append_right (by simp;omega),List.getElem?_append_left (by simp;omega)]at hx
         exact FF hx
        subst hx'
        have hlow:lo.toNat*aa k≤q*aa k:=Nat.mul_le_mul_right _ hin.1
        have hup:q*aa k+aa k≤hi'.toNat*aa k:=by rw[←Nat.succ_mul];exact Nat.mul_le_mul_right _ hin.2
        have hsub:(hi'.toNat - lo.toNat)*aa k=hi'.toNat*aa k - lo.toNat*aa k:=Nat.sub_mul _ _ _
        rw[if_pos (by omega)]
        refine⟨ze.cells.getD j undef,?_,(hrz.2 j s hj).mono g⟩
        have hidx:o+q*aa k+j - (o+lo.toNat*aa k+0)=(q - lo.toNat)*aa k+j:=by rw[Nat.sub_mul];omega
        rw[hidx,Array.getElem?_toList]
        have hlt2:(q - lo.toNat)*aa k+j< (hi'.toNat - lo.toNat)*aa k:=by rw[Nat.sub_mul,Nat.sub_mul];omega
        have hmod:((q - lo.toNat)*aa k+j) % aa k=j:=by rw[Nat.mul_comm,Nat.mul_add_mod,Nat.mod_eq_of_lt hjl]
        have:=uc (z:=ze.cells) (n:=hi'.toNat - lo.toNat) (i:=(q - lo.toNat)*aa k+j) (by rw[hzs];exact hlt2)
        rw[this,hzs,hmod,Array.getD_eq_getD_getElem?,Array.getElem?_eq_getElem (by omega),getElem!_pos ze.cells j (by omega)]
        rfl
       ·rw[if_neg (by
         rintro⟨a1,a2⟩
         apply hin
         rw[Nat.sub_mul]at a2
         refine⟨?_,?_⟩
         ·apply Classical.byContradiction;intro hc
          have:(q+1)*aa k≤lo.toNat*aa k:=Nat.mul_le_mul_right _ (by omega)
          rw[Nat.succ_mul]at this;omega
         ·apply Classical.byContradiction;intro hc
          have h5:hi'.toNat*aa k≤q*aa k:=Nat.mul_le_mul_right _ (by omega)
          have h6:lo.toNat*aa k≤hi'.toNat*aa k:=Nat.mul_le_mul_right _ (by omega)
          omega)]
        have hx2:m[q]? =some x:=by
         by_cases h0:q<lo.toNat
         ·rw[List.append_assoc,List.getElem?_append_left (by simp;omega),List.getElem?_take,if_pos h0]at hx;exact hx
         ·rw[List.getElem?_append_right (by simp;omega),List.getElem?_drop]at hx
          rw[←hx];congr 1;simp;omega
        obtain⟨u,u1,u2⟩:=q7 q x hx2 j s hj
        exact⟨u,u1,u2.mono g⟩
  |_=>rw[ho]at he;exact absurd he.symm hne
 ·exact absurd he.symm hne
end
end Go.Sx
end
section
namespace Go.Sx
variable {P:Program}
theorem vV {w:World}{ty:TypeId}{b bm since c0 clock:Nat}{seen:Array Nat}{es:Array MapEntry}(hb:w.heap[b]? =some (.mapIter (some bm) since seen c0))(hm:w.heap[bm]? =some (.map es clock))(hold:∀ x∈es.toList,x.born<since)(hsc:since≤c0):
  ((leftOf es seen).size=0∧(Instr.next (.pointer (some ⟨b,0,none⟩)) false ty).run P w=.ok (.tuple #[.bool false]) w)∨
  ∃ e∈(leftOf es seen).toList,∃ w1:World,(w1=w∨w1=w.drew)∧(Instr.next (.pointer (some ⟨b,0,none⟩)) false ty).run P w=.ok (.tuple #[.bool true,e.key,e.val]) { w1 with heap:=w1.heap.setIfInBounds b (.mapIter (some bm) since (seen.push e.born) clock)}:=by
 simp only[Instr.next,getObj,Sem.run_bind,Sem.run,hb,hm,Result.andThen,next_test_false seen es since c0 hold hsc,Bool.false_eq_true,if_false]
 unfold leftOf
 have hmem:∀ x∈(Array.filter (fun e=>!seen.contains e.born) es).toList,x.born<since:=fun x hx=>hold x (by simp at hx ⊢;exact hx.1)
 generalize Array.filter (fun e=>!seen.contains e.born) es=L at hmem ⊢
 have e1:L.filter (fun x=>decide (x.born<since))=L:=Array.filter_eq_self.2 (fun x hx=>by simpa using hmem x (by simpa using hx))
 have e2:L.filter (fun x=>decide (x.born≥since))= #[]:=by
  rw[Array.filter_eq_empty_iff]
  intro x hx
  have:=hmem x (by simpa using hx)
  simp
  omega
 simp only[e1,e2,Array.append_empty]
 by_cases h0:L.size=0
 ·left
  have:L= #[]:=Array.eq_empty_of_size_eq_zero h0
  subst this
  refine⟨rfl,?_⟩
  simp[choose,Sem.run,Question.forced]
 ·right
  have hne:L.isEmpty=false:=by simp[Array.isEmpty,h0]
  simp only[hne,Bool.false_eq_true,if_false,Array.empty_append,Array.size_map]
  have hch:∃ (j:Nat) (w1:World),j<L.size∧(w1=w∨w1=w.drew)∧(choose (Question.mapNext L.size)).run P w=.ok j w1:=by
   by_cases hf:L.size≤1
   ·exact⟨0,w,by omega,.inl rfl,by simp[choose,Sem.run,Question.forced,hf]⟩
   ·exact⟨_,w.drew,Nat.mod_lt _ (by omega),.inr rfl,by
     simp only[choose,Sem.run,Question.forced,decide_eq_true_eq,hf,if_false,Question.cut]
     rfl⟩
  obtain⟨j,w1,hj,hal,hrun⟩:=hch
  have hb1:w1.heap[b]? =some (.mapIter (some bm) since seen c0):=by
   rcases hal with rfl|rfl
   ·exact hb
   ·exact hb
  refine⟨L[j],by simp,w1,hal,?_⟩
  simp only[hrun,Array.getElem?_map,Array.getElem?_eq_getElem hj,Option.map_some,Sem.run_bind,setObj,Sem.run,hb1,Result.andThen]
  rfl
theorem ud {w:World}{b bm since clock:Nat}{seen:Array Nat}{es:Array MapEntry}{e:MapEntry}(hb:w.heap[b]? =some (.mapIter (some bm) since (seen.push e.born) clock))(hm:w.heap[bm]? =some (.map es clock))(he:e∈es.toList)(hn:(es.toList.map (·.born)).Nodup):
  (Instr.entry (.pointer (some ⟨b,0,none⟩))).run P w=.ok (.tuple #[e.key,e.val]) w:=by
 have hf:es.find? (·.born==e.born)=some e:=by rw[←Array.find?_toList];exact find_born e es.toList hn he
 simp only[Instr.entry,getObj,Sem.run_bind,Sem.run,hb,hm,Result.andThen,Array.back?_push,bne_self_eq_false,Bool.false_eq_true,if_false,hf]
 rfl
end Go.Sx
end
section
namespace Go.Sx
open Go.RowKit
section
variable {P:Program}{F:Nat→Prop}{own:Own}{w:World}{ts:Tis}
def BQ (v:Value)(vs:Array Value):Sem Next:=do
 let d ←Deferred.ofValue v vs
 invoke d.target d.args
theorem rR (w:World)(m:Nat){t e:TypeId}(ad:Option Addr)(n c:Nat)(hd:P.underlying t=some (.slice e)):(Op.equalIn (m+1) t (.slice ad n c) (.slice none 0 0)).run P w=.ok ad.isNone w:=by
 cases ad <;>simp[Op.equalIn,run_underlying hd]
def xx (P:Program)(F:Nat→Prop)(own:Own)(w:World)(h:List Ob)(run:Result Next):OR→Prop
 | .val s=>∃ u,run=.ok (.value u) w∧Rel F own w s u
 | .chk c s=>c→∃ u,run=.ok (.value u) w∧Rel F own w s u
 | .asm c s=>c∧∃ u,run=.ok (.value u) w∧Rel F own w s u
 | .newr s=>∃ u cs ty,run=.ok (.value u) (w.alloc (.cells cs ty))∧Rel F own (w.alloc (.cells cs ty)) s u
 | .eff c a ups s=>c→a∧∃ u own' w',(run=.ok (.value u) w'∨(run=.ok .skip w'∧u=undef))∧Rel F own' w' s u∧Step F own w (aQ h ups) own' w'
 | .call f args=>∃ vs:Array Value,RelL F own w args vs∧run=(callFunc f vs).run P w
 | .yld id args=>∃ hd,own id=some hd∧∃ vs,RelL F own w args vs∧run=(BQ hd.v vs).run P w
 | .nxt id=>∃ hd b,own id=some hd∧hd.p=some b∧∃ ty,∀ u w',(Instr.next (.pointer (some ⟨b,0,none⟩)) false ty).run P w=.ok u w'→run=.ok (.value u) w'
 | .amb p=>∃ b,p b∧run=.ok (.value (.bool b)) w
 | .pan x=>run=.halt (.panic x) w
 | .bad=>True
theorem xy {cx:Cx}{a:Act}(hv:∀ x,Rel F own w (val cx x) (a.eval x)):∀ (l:List Operand),(bY cx l).length=l.length∧∀ (j:Nat) (s:SV),(bY cx l)[j]? =some s→∃ x,l[j]? =some x∧Rel F own w s (a.eval x)
 | [] =>⟨rfl,fun j s h=>by simp[bY]at h⟩
 |x::r=>by
  obtain⟨h1,h2⟩:=xy hv r
  refine⟨by simp[bY,h1],fun j s h=>?_⟩
  cases j with
  |zero=>simp[bY]at h;subst h;exact⟨x,rfl,hv x⟩
  |succ j=>simp[bY]at h;obtain⟨y,e1,e2⟩:=h2 j s h;exact⟨y,by simpa using e1,e2⟩
theorem lG {cx:Cx}{a:Act}(hv:∀ x,Rel F own w (val cx x) (a.eval x))(l:Array Operand):RelL F own w (bY cx l.toList) (l.map a.eval):=by
 obtain⟨h1,h2⟩:=xy hv l.toList
 refine⟨by simp[h1],fun j s hj=>?_⟩
 obtain⟨x,e1,e2⟩:=h2 j s hj
 simp at e1
 simpa[Array.getD_eq_getD_getElem?,e1]using e2
theorem qH {cx:Cx}{a:Act}(hv:∀ x,Rel F own w (val cx x) (a.eval x)):∀ (l:List (Nat×Operand)),(dP cx l).map (·.1)=(l.map fun(i,x) =>(i,a.eval x)).map (·.1)∧
  ∀ (j:Nat) (x:Nat×SV) (y:Nat×Value),(dP cx l)[j]? =some x→(l.map fun(i,x) =>(i,a.eval x))[j]? =some y→Rel F own w x.2 y.2
 | [] =>⟨rfl,fun j x y h=>by simp[dP]at h⟩
 |(i,x)::r=>by
  obtain⟨h1,h2⟩:=qH hv r
  refine⟨by simp only[dP,List.map_cons,h1],fun j s u h k=>?_⟩
  cases j with
  |zero=>simp[dP]at h k;subst h;subst k;exact hv x
  |succ j=>simp[dP]at h k;exact h2 j s u h (by simpa using k)
theorem bG {t:TypeId}{k:TI→OR}{r:OR}(hts:ts.ok P)(h:ax ts t k=r)(hr:r≠ .bad):∃ ti,cB P t=some ti∧k ti=r:=by
 unfold ax at h
 cases ht:ts t with
 |none=>simp[ht]at h;exact absurd h.symm hr
 |some i=>simp[ht]at h;exact⟨i,hts t i ht,h⟩
theorem okOr {run:Result Next}{h:List Ob}{r:OR}(hh:r≠ .bad→xx P F own w h run r):xx P F own w h run r:=by
 cases r with
 |bad=>trivial
 |_=>exact hh (by simp)
theorem ku {s:Sem Value}{u:Value}(h:s.run P w=.ok u w):(do pure (Next.value (←s)):Sem Next).run P w=.ok (.value u) w:=by
 simp[h]
theorem xz {a:Operand}(h:qx a=true):a=.const (.bool true):=by
 unfold qx at h;split at h <;>first|rfl|cases h
theorem vW {a:Operand}(h:nC a=true):a=.const (.bool false):=by
 unfold nC at h;split at h <;>first|rfl|cases h
theorem il {x:Option SV}{r:OR}(h:lz x=r)(hr:r≠ .bad):∃ s,x=some s∧r=.val s:=by
 cases x with
 |none=>exact absurd h.symm hr
 |some s=>exact⟨s,rfl,h.symm⟩
theorem lH {h:List Ob}{s:Sem Value}{r:OR}(he:rz F own w h (s.run P w) r):xx P F own w h ((do pure (Next.value (←s)):Sem Next).run P w) r:=by
 obtain⟨c,a,ups,sv,rfl,h1⟩:=he
 intro hc
 obtain⟨ha,u,own',w',h2,h3,h4⟩:=h1 hc
 exact⟨ha,u,own',w',.inl (by simp[h2]),h3,h4⟩
theorem xA {ti:TI}{h:List Ob}{s:SV}{r:OR}(e:jp ti h s=r)(hr:r≠ .bad):∃ s',r=.val s':=by
 have hcells:∀ {a:Bool} {n off:Nat} {o:Ob},o5 a n off o=r→∃ s',r=.val s':=by
  intro a n off o e
  unfold o5 at e
  split at e
  ·obtain⟨s',_,h'⟩:=il e hr;exact⟨s',h'⟩
  ·exact absurd e.symm hr
 have hrow:∀ {a:Bool} {n z id off:Nat} {i:Int} {o:Ob},sn a n z id i off o=r→∃ s',r=.val s':=by
  intro a n z id off i o e
  unfold sn at e
  split at e
  ·rename_i k l
   cases hb:Nat.beq z (aa k)with
   |false=>rw[hb]at e;exact absurd e.symm hr
   |true=>rw[hb]at e;obtain⟨s',_,h'⟩:=il e hr;exact⟨s',h'⟩
  ·cases hb:Nat.beq z 1&&Nat.beq off 0&& !a with
   |false=>rw[hb]at e;exact absurd e.symm hr
   |true=>rw[hb]at e;exact⟨_,e.symm⟩
  ·exact absurd e.symm hr
 have hgrid:∀ {a:Bool} {n z off:Nat} {i j:Int} {o:Ob},qy a n z i j off o=r→∃ s',r=.val s':=by
  intro a n z off i j o e
  unfold qy at e
  split at e
  ·rename_i k l
   cases hb:Nat.beq z (aa k)with
   |false=>rw[hb]at e;exact absurd e.symm hr
   |true=>rw[hb]at e;obtain⟨s',_,h'⟩:=il e hr;exact⟨s',h'⟩
  ·exact absurd e.symm hr
 unfold jp at e
 split at e
 ·exact hcells e
 ·obtain⟨s',_,h'⟩:=il e hr;exact⟨s',h'⟩
 ·exact hrow e
 ·exact hgrid e
 ·exact absurd e.symm hr
theorem zc {n:Nat}{s:SV}{r:OR}(e:o6 n s=r)(hr:r≠ .bad):∃ s',r=.val s':=by
 unfold o6 at e;split at e <;>first|exact⟨_,e.symm⟩ |exact absurd e.symm hr
theorem xB {cx:Cx}{a:Act}(hv:∀ x,Rel F own w (val cx x) (a.eval x))(o:Option Operand):(∀ s,lu cx o=some s→∃ u,o.map a.eval=some u∧Rel F own w s u)∧(lu cx o=none→o.map a.eval=none):=by
 cases o with
 |none=>exact⟨fun s h=>by simp[lu]at h,fun _=>rfl⟩
 |some x=>exact⟨fun s h=>by simp[lu]at h;subst h;exact⟨_,rfl,hv x⟩,fun h=>by simp[lu]at h⟩
theorem AD {h:List Ob}(hp:Hp F own w h){nx:Nat}(hn:NxOk own h nx){l:List SV}{v:Value}{ty:TypeId}(hl:RelL F own w l v.cells):Step F own w (aQ h [(nx,Ob.cells l)]) (own.set nx ⟨some w.heap.size,undef,[],[w.heap.size]⟩) (w.alloc (.cells v.cells ty))∧Rel F (own.set nx ⟨some w.heap.size,undef,[],[w.heap.size]⟩) (w.alloc (.cells v.cells ty)) (.ptr nx 0) (.pointer (some ⟨w.heap.size,0,none⟩)):=
 ⟨lB hp hn (w1:=w) ⟨rfl,rfl,rfl,rfl⟩ (.cells v.cells ty) (.cells l) _ rfl fun own' g=>⟨w.heap.size,v.cells,ty,rfl,rfl,gP _ _,hl.1,fun j s hj=>(hl.2 j s hj).mono g⟩,.ptr (Own.set_same _ _ _) rfl⟩
theorem RelL.app {l m:List SV}{us vs:Array Value}(h1:RelL F own w l us)(h2:RelL F own w m vs):RelL F own w (l++m) (us++vs):=by
 refine⟨by simp[h1.1,h2.1],fun j s hj=>?_⟩
 rw[List.getElem?_append]at hj
 split at hj
 ·rename_i hlt
  rw[fV (j:=j) (ws:=us) (by rw[Array.getElem?_append_left (by rw[h1.1];exact hlt)])]
  exact h1.2 j s hj
 ·rename_i hlt
  rw[fV (j:=j - us.size) (ws:=vs) (by rw[Array.getElem?_append_right (by rw[h1.1];omega)])]
  rw[h1.1]
  exact h2.2 _ s hj
theorem zd {ops:List Oper}{g:Option (Nat×Bool)}{t:List (Nat×SV)}{h:List Ob}{nx:Nat}(hts:ts.ok P)(hp:Hp F own w h)(hn:NxOk own h nx){a:Act}{o:Oper}
  (hv:∀ x,Rel F own w (val ⟨ts,ops,g,⟨t,h⟩,nx⟩ x) (a.eval x))
  (hpk:∀ c x y,o.op=.pick c x y→(a.eval c=.bool true→Rel F own w (fE ops g c true (raw t x)) (a.eval x))∧(a.eval c=.bool false→Rel F own w (fE ops g c false (raw t y)) (a.eval y))):
  xx P F own w h ((execOp a.eval o).run P w) (opS ⟨ts,ops,g,⟨t,h⟩,nx⟩ o.op):=by
 obtain⟨dst,op,ty,pos,after,guard⟩:=o
 simp only at hpk ⊢
 refine okOr fun hr=>?_
 generalize he:opS ⟨ts,ops,g,⟨t,h⟩,nx⟩ op=r at hr ⊢
 cases op with
 |move x=>subst he;exact⟨_,rfl,hv x⟩
 |assign x=>subst he;exact⟨_,rfl,hv x⟩
 |pick c x y=>
  obtain⟨h1,h2⟩:=hpk c x y rfl
  have hc:Rel F own w (aY ops g (raw t c)) (a.eval c):=hv c
  change sm x y (aY ops g (raw t c)) (fE ops g c true (raw t x)) (fE ops g c false (raw t y))=r at he
  unfold sm at he
  split at he
  ·rename_i sx sy sz bc bx bz hsc hsx hsy
   rw[hsc]at hc
   rw[hsx]at h1
   rw[hsy]at h2
   have hec:=bV hc
   have hrun:(execOp a.eval { dst:=dst,op:=.pick c x y,type:=ty,pos:=pos,after:=after,guard:=guard}).run P w=.ok (.value (if bc then a.eval x else a.eval y)) w:=by
    simp[execOp,hec,asBool]
   cases hx:qx x with
   |true=>
    simp only[hx,cond_true]at he
    subst he
    refine⟨_,hrun,?_⟩
    have hx':=xz hx
    cases bc with
    |true=>simp only[if_true,hx'];exact .v _
    |false=>simp only[Bool.false_or];rw[if_neg (by simp)];exact h2 hec
   |false=>
    cases hy:nC y with
    |true=>
     simp only[hx,hy,cond_true,cond_false]at he
     subst he
     refine⟨_,hrun,?_⟩
     have hy':=vW hy
     cases bc with
     |true=>simp only[if_true,Bool.true_and];exact h1 hec
     |false=>rw[if_neg (by simp),hy'];exact .v _
    |false=>simp only[hx,hy,cond_false]at he;exact absurd he.symm hr
  ·rename_i sx sy sz bc bz hsc hsx hsy
   rw[hsc]at hc
   rw[hsy]at h2
   have hec:=bV hc
   subst he
   intro hcf
   subst hcf
   exact⟨a.eval y,by simp[execOp,hec,asBool],h2 hec⟩
  ·rename_i sx sy sz bc bx hsc hsx hsy
   rw[hsc]at hc
   rw[hsx]at h1
   have hec:=bV hc
   subst he
   intro hcf
   subst hcf
   exact⟨a.eval x,by simp[execOp,hec,asBool],h1 hec⟩
  ·exact absurd he.symm hr
 |alloc ty'=>
  obtain⟨ti,ht,he⟩:=bG (k:=fun ti=>vF nx (some ti.zero)) hts he hr
  subst he
  obtain⟨i,d,z,hi,hd,hz,hq,rfl⟩:=bj ht
  have hzz:(cA P ty' i d).zero=svs z:=by simp[cA,hz]
  intro _
  obtain⟨q1,q2⟩:=AD (ty:=ty') hp hn (l:=svs z) (v:=z) (nE z)
  rw[hzz]
  exact⟨trivial,_,_,_,.inl (by simp[execOp,Instr.alloc,zeroValue,typeInfo,hi,hz,newVar,newRow]),q2,q1⟩
 |box ty' x=>
  change vF nx (iQ (val _ x))=r at he
  cases hf:iQ (val ⟨ts,ops,g,⟨t,h⟩,nx⟩ x)with
  |none=>rw[hf]at he;exact absurd he.symm hr
  |some l=>
   rw[hf]at he
   subst he
   intro _
   obtain⟨q1,q2⟩:=AD (ty:=ty') hp hn (v:=a.eval x) (sI (hv x) hf)
   exact⟨trivial,_,_,_,.inl (by simp[execOp,Instr.box,newVar,newRow]),q2,q1⟩
 |build ty' parts=>
  obtain⟨ti,ht,he⟩:=bG (k:=fun ti=>bif ti.isArr then ax ts ti.elem fun te=>yP (fT (fun i=>some (i*te.size,te.size)) ti.zero (dP ⟨ts,ops,g,⟨t,h⟩,nx⟩ parts.toList))
   else bif ti.agg then yP (fT (fun i=>(nth ti.fields i).map fun f:Nat×Nat×Bool=>(f.1,f.2.1)) ti.zero (dP ⟨ts,ops,g,⟨t,h⟩,nx⟩ parts.toList))else .bad) hts he hr
  obtain⟨p1,p2⟩:=qH hv parts.toList
  have hrun:(execOp a.eval { dst:=dst,op:=.build ty' parts,type:=ty,pos:=pos,after:=after,guard:=guard})=(do pure (Next.value (←Instr.build ty' (parts.map fun(i,x) =>(i,a.eval x))))):=rfl
  have key:∃ l,r=.val (.agg l)∧((ti.isArr=true∧∃ te,cB P ti.elem=some te∧fT (fun i=>some (i*te.size,te.size)) ti.zero (dP ⟨ts,ops,g,⟨t,h⟩,nx⟩ parts.toList)=some l)∨
     (ti.isArr=false∧ti.agg=true∧fT (fun i=>(nth ti.fields i).map fun f=>(f.1,f.2.1)) ti.zero (dP ⟨ts,ops,g,⟨t,h⟩,nx⟩ parts.toList)=some l)):=by
   cases ha:ti.isArr with
   |true=>
    simp only[ha,cond_true]at he
    obtain⟨te,hte,he⟩:=bG hts he hr
    cases hf:fT (fun i=>some (i*te.size,te.size)) ti.zero (dP ⟨ts,ops,g,⟨t,h⟩,nx⟩ parts.toList)with
    |none=>simp only[hf]at he;exact absurd he.symm hr
    |some l=>simp only[hf]at he;exact⟨l,he.symm,.inl ⟨rfl,te,hte,hf⟩⟩
   |false=>
    cases hg:ti.agg with
    |false=>simp only[ha,hg,cond_false]at he;exact absurd he.symm hr
    |true=>
     simp only[ha,hg,cond_false,cond_true]at he
     cases hf:fT (fun i=>(nth ti.fields i).map fun f=>(f.1,f.2.1)) ti.zero (dP ⟨ts,ops,g,⟨t,h⟩,nx⟩ parts.toList)with
     |none=>simp only[hf]at he;exact absurd he.symm hr
     |some l=>simp only[hf]at he;exact⟨l,he.symm,.inr ⟨rfl,rfl,rfl⟩⟩
  obtain⟨l,rfl,hcase⟩:=key
  obtain⟨u,e1,e2⟩:=C3 (P:=P) ht (vps:=parts.map fun(i,x) =>(i,a.eval x)) (by simpa using p1) (by simpa using p2) hcase
  exact⟨u,by rw[hrun];exact ku e1,e2⟩
 |buildSlice ty' n parts=>
  obtain⟨ti,ht,he⟩:=bG (k:=fun ti=>ax ts ti.elem fun te=>t8 (t7 ty' ops g) nx te (bsS ti te n (dP ⟨ts,ops,g,⟨t,h⟩,nx⟩ parts.toList))) hts he hr
  obtain⟨te,hte,he⟩:=bG (k:=fun te=>t8 (t7 ty' ops g) nx te (bsS ti te n (dP ⟨ts,ops,g,⟨t,h⟩,nx⟩ parts.toList))) hts he hr
  obtain⟨p1,p2⟩:=qH hv parts.toList
  have hne:bsS ti te n (dP ⟨ts,ops,g,⟨t,h⟩,nx⟩ parts.toList)≠ .bad:=fun e=>by rw[e]at he;exact hr he.symm
  obtain⟨s,cs,ty2,u,hs0,e1,e2,e3⟩:=IB (P:=P) hp ht hte (n:=n) (vps:=parts.map fun(i,x) =>(i,a.eval x)) (by simpa using p1) (by simpa using p2) rfl hne
  rw[hs0]at he
  have plain:r=.newr s→xx P F own w h ((execOp a.eval ⟨dst,.buildSlice ty' n parts,ty,pos,after,guard⟩).run P w) r:=fun e=>by
   subst e
   exact⟨u,cs,ty2,by simp[execOp,e1],e2⟩
  cases s with
  |rs k xs=>
   change (bif(te.agg||one xs)&&noG (t7 ty' ops g)then OR.eff True True [(nx,.row k xs)] (.os nx)else .newr (.rs k xs))=r at he
   cases hb:(te.agg||one xs)&&noG (t7 ty' ops g)with
   |false=>rw[hb]at he;exact plain he.symm
   |true=>
    rw[hb]at he
    subst he
    obtain⟨m1,m2,m3,m4⟩:=e3 k xs rfl
    refine fun _=>⟨trivial,u,own.set nx ⟨none,.slice (some ⟨w.heap.size,0,none⟩) xs.length xs.length,[],[w.heap.size]⟩,w.alloc (.cells cs ty2),.inl (by simp[execOp,e1]),?_,?_⟩
    ·rw[m1]
     exact Rel.os (F:=F) (id:=nx) (hd:=⟨none,.slice (some ⟨w.heap.size,0,none⟩) xs.length xs.length,[],[w.heap.size]⟩) (Own.set_same _ _ _) rfl
    ·exact lB hp hn (w1:=w) ⟨rfl,rfl,rfl,rfl⟩ _ _ _ rfl fun own' g=>.inr ⟨w.heap.size,0,xs.length,cs,ty2,rfl,rfl,gP _ _,by rw[Nat.zero_add];exact m2,Nat.le_refl _,m3,fun q x hx j s hj=>by
      obtain⟨u',h1,h2⟩:=m4 q x hx j s hj
      exact⟨u',h1,h2.mono g⟩⟩
  |_=>exact plain he.symm
 |load ty' x=>
  obtain⟨ti,ht,he⟩:=bG (k:=fun ti=>jp ti h (val ⟨ts,ops,g,⟨t,h⟩,nx⟩ x)) hts he hr
  obtain⟨s',rfl⟩:=xA he hr
  obtain⟨u,e1,e2⟩:=xh (P:=P) hp ht (hv x) he
  exact⟨u,by simp only[execOp];exact ku e1,e2⟩
 |store ty' x y=>
  obtain⟨ti,ht,he⟩:=bG (k:=fun ti=>jK ti.size nx h (val ⟨ts,ops,g,⟨t,h⟩,nx⟩ x) (val ⟨ts,ops,g,⟨t,h⟩,nx⟩ y)) hts he hr
  obtain⟨ups,own',w',rfl,e1,e2⟩:=BP (P:=P) hp hn ht (hv x) (hv y) he hr
  exact fun _=>⟨trivial,undef,own',w',.inr ⟨by simp[execOp,e1],rfl⟩,.any _,e2⟩
 |nilCheck x=>
  have hx:=hv x
  change CA (val _ x)=r at he
  generalize hvx:a.eval x=vx at hx
  unfold CA at he
  split at he
  ·rename_i id off hs
   subst he;rw[hs]at hx
   cases hx with
   |ptr q1 q2=>exact⟨_,by simp[execOp,hvx],.ptr q1 q2⟩
  ·rename_i l off hs
   subst he;rw[hs]at hx
   cases hx with
   |ep cf q1 q2=>exact⟨_,by simp[execOp,hvx],.ep cf q1 q2⟩
  ·rename_i hs
   subst he;rw[hs]at hx
   cases hx with
   |rp q1 q2 q3=>exact⟨_,by simp[execOp,hvx],.rp q1 q2 q3⟩
  ·rename_i hs
   subst he;rw[hs]at hx
   cases hx with
   |gp q1 q2 q3=>exact⟨_,by simp[execOp,hvx],.gp q1 q2 q3⟩
  ·rename_i f first caps hs
   subst he;rw[hs]at hx
   cases hx with
   |fn q1 q2 q3 q4=>exact⟨_,by simp[execOp,hvx],.fn q1 q2 q3 q4⟩
  ·exact absurd he.symm hr
 |binOp op xt x y yt=>
  change vB ts op xt (val _ x) (val _ y)=r at he
  have hx:=hv x;have hy:=hv y
  generalize val ⟨ts,ops,g,⟨t,h⟩,nx⟩ x=sx at hx he
  generalize val ⟨ts,ops,g,⟨t,h⟩,nx⟩ y=sy at hy he
  have hrun:∀ {vx vy:Value},a.eval x=vx→a.eval y=vy→(eqGuard op xt x y vx vy).run P w=.ok () w→∀ u,(Go.binOp op xt vx vy).run P w=.ok u w→(execOp a.eval { dst:=dst,op:=.binOp op xt x y yt,type:=ty,pos:=pos,after:=after,guard:=guard}).run P w=.ok (.value u) w:=by
   intro vx vy h1 h2 h3 u hu
   simp only[execOp,h1,h2]
   apply ku
   simp only[Sem.run_bind,h3,Result.andThen_ok,hu]
  unfold vB at he
  split at he
  ·rename_i k m k' n
   obtain⟨hsk,h3⟩:=yX he hr
   have ex:=bV hx;have ey:=bV hy
   cases r with
   |val s=>
    obtain⟨u,e1,rfl⟩:=By (P:=P) (w:=w) (ty:=xt) hsk h3.symm
    exact⟨u,hrun ex ey (rk ..) u e1,.v u⟩
   |chk c s=>
    intro hc
    obtain⟨u,e1,rfl⟩:=Bz (P:=P) (w:=w) (ty:=xt) hsk h3.symm hc
    exact⟨u,hrun ex ey (rk ..) u e1,.v u⟩
   |bad=>exact absurd rfl hr
   |_=>exfalso;cases op <;>simp[lw]at h3
  ·obtain⟨ti,ht,he⟩:=bG (k:=fun ti=>eqS op ti sx sy) hts he hr
   obtain⟨i,d,z,hi,hd,hz,hq,rfl⟩:=bj ht
   unfold eqS at he
   split at he
   ·rename_i l _ _
    have ey:=bV hy
    cases hb:(cA P xt i d).isSlice with
    |false=>rw[hb]at he;exact absurd he.symm hr
    |true=>
     rw[hb]at he;simp only[cond_true]at he
     have hds:∃ e,d=.slice e:=by cases d <;>simp[cA]at hb;exact⟨_,rfl⟩
     obtain⟨e,rfl⟩:=hds
     have hg:∀ (ad:Option Addr) (n c:Nat),(eqGuard op xt x y (.slice ad n c) (.slice none 0 0)).run P w=.ok () w:=fun ad n c=>by cases op <;>simp[eqGuard]
     have hq:∀ (ad:Option Addr) (n c:Nat),(Op.equal xt (.slice ad n c) (.slice none 0 0)).run P w=.ok ad.isNone w:=fun ad n c=>by
      unfold Op.equal Op.maxDepth
      exact rR w 9999 ad n c hd
     have hsl:∃ ad n c,a.eval x=.slice ad n c∧(ad.isNone=true→l=[]):=by
      generalize a.eval x=vx at hx
      cases hx with
      |rs cf h0 h0' h1 h2=>exact⟨_,_,_,rfl,fun h=>by cases h⟩
      |rs0=>exact⟨_,_,_,rfl,fun _=>rfl⟩
     obtain⟨ad,n,c,hvx,hl⟩:=hsl
     cases op <;>simp only[Fc]at he <;>first|exact absurd he.symm hr|subst he
     ·exact⟨ad.isNone,hl,hrun hvx ey (hg _ _ _) _ (by simp[Go.binOp,hq])⟩
     ·exact⟨!ad.isNone,fun h=>hl (by simpa using h),hrun hvx ey (hg _ _ _) _ (by simp[Go.binOp,hq])⟩
   ·rename_i b1 b2 _ _
    have ex:=bV hx;have ey:=bV hy
    have hg:(eqGuard op xt x y (.string b1) (.string b2)).run P w=.ok () w:=by cases op <;>simp[eqGuard]
    cases hb:Nat.beq (cA P xt i d).sc 2 with
    |false=>rw[hb]at he;exact absurd he.symm hr
    |true=>
     rw[hb]at he;simp only[cond_true]at he
     cases op <;>simp only[Ak]at he <;>first|exact absurd he.symm hr|subst he
     ·exact⟨_,hrun ex ey hg _ (by simp[Go.binOp,Op.stringOp,beq_toListBytes,bne]),.v _⟩
     ·exact⟨_,hrun ex ey hg _ (by simp[Go.binOp,Op.stringOp,beq_toListBytes,bne]),.v _⟩
   ·rename_i b1 b2 _ _
    have ex:=bV hx;have ey:=bV hy
    have hg:(eqGuard op xt x y (.bool b1) (.bool b2)).run P w=.ok () w:=by cases op <;>simp[eqGuard]
    cases hb:Nat.beq (cA P xt i d).sc 3 with
    |false=>rw[hb]at he;exact absurd he.symm hr
    |true=>
     rw[hb]at he;simp only[cond_true]at he
     have hc:=Nat.eq_of_beq_eq_true hb
     have hdb:d=.bool:=by cases d <;>simp[cA,bC]at hc <;>rfl
     subst hdb
     have heq:(Op.equal xt (.bool b1) (.bool b2)).run P w=.ok (b1==b2) w:=by unfold Op.equal Op.maxDepth;exact run_equalIn_bool' w 9999 xt b1 b2 hd
     cases op <;>simp only[vA]at he <;>first|exact absurd he.symm hr|subst he
     ·exact⟨_,hrun ex ey hg _ (by simp[Go.binOp,heq]),.v _⟩
     ·exact⟨_,hrun ex ey hg _ (by simp[Go.binOp,heq,bne]),.v _⟩
   ·rename_i l m _ _
    obtain⟨xs,ex,hxs⟩:=kW hx
    obtain⟨ys,ey,hys⟩:=kW hy
    unfold eqT Im at he
    split at he
    ·exact absurd he.symm hr
    ·rename_i c cs hcs
     have hcs':Cy P xt d=c::cs:=hcs
     cases hl:eqL (c::cs) l m with
     |none=>rw[hl]at he;exact absurd he.symm hr
     |some b=>
      rw[hl]at he
      have hany:(Op.equal xt (.agg xs) (.agg ys)).run P w=.ok b w∧P.eqGuardType P.depth xt=false:=by
       unfold Cy at hcs'
       split at hcs'
       ·exact BJ hd hxs hys (by rw[hcs'];simp) (by rw[hcs'];exact hl)
       ·rename_i hne
        exact xu hd hxs hys (by rw[hcs'];simp) (by rw[hcs'];exact hl)
      obtain⟨q1,q2⟩:=hany
      have hg:(eqGuard op xt x y (.agg xs) (.agg ys)).run P w=.ok () w:=run_eqGuard_agg w op xt x y xs ys q2
      cases op <;>simp only[eqO]at he <;>first|exact absurd he.symm hr|subst he
      ·exact⟨_,hrun ex ey hg _ (by simp[Go.binOp,q1]),.v _⟩
      ·exact⟨_,hrun ex ey hg _ (by simp[Go.binOp,q1]),.v _⟩
   ·exact absurd he.symm hr
 |unOp op xt x=>
  change unS op (val _ x)=r at he
  have hx:=hv x
  unfold unS at he
  split at he
  ·rename_i b hs
   subst he;rw[hs]at hx
   have ex:=bV hx
   exact⟨_,by simp only[execOp,ex];exact ku rfl,.v _⟩
  ·rename_i k n hs
   subst he;rw[hs]at hx
   have ex:=bV hx
   exact⟨_,by simp only[execOp,ex];exact ku rfl,.v _⟩
  ·exact absurd he.symm hr
 |convert src dt x=>
  obtain⟨t1,ht1,he⟩:=bG (k:=fun _=>ax ts dt fun ti=>w6 ti.int (val ⟨ts,ops,g,⟨t,h⟩,nx⟩ x)) hts he hr
  obtain⟨t2,ht2,he⟩:=bG hts he hr
  obtain⟨i1,d1,z1,hi1,hd1,hz1,hq1,rfl⟩:=bj ht1
  obtain⟨i2,d2,z2,hi2,hd2,hz2,hq2,rfl⟩:=bj ht2
  have hx:=hv x
  unfold w6 at he
  split at he
  ·rename_i kd k' n hk hs
   subst he;rw[hs]at hx
   have ex:=bV hx
   cases d2 <;>simp[cA]at hk
   subst hk
   refine⟨_,?_,.v _⟩
   simp only[execOp,ex]
   apply ku
   simp[Go.convert,run_underlying hd1,run_underlying hd2,Conv.intToInt]
  ·exact absurd he.symm hr
 |panic x=>
  change CJ (val _ x)=r at he
  have hx:=hv x
  unfold CJ at he
  split at he
  ·rename_i t' y hs
   subst he;rw[hs]at hx
   have ex:=bV hx
   simp only[xx,execOp,ex]
   rfl
  ·exact absurd he.symm hr
 |makeInterface ty' x=>
  obtain⟨ti,ht,he⟩:=bG (k:=fun ti=>bif ti.iface then .bad else sq ty' (val ⟨ts,ops,g,⟨t,h⟩,nx⟩ x)) hts he hr
  obtain⟨i,d,z,hi,hd,hz,hq,rfl⟩:=bj ht
  have hx:=hv x
  cases hif:(cA P ty' i d).iface with
  |true=>simp only[hif,cond_true]at he;exact absurd he.symm hr
  |false=>
   simp only[hif,cond_false]at he
   unfold sq at he
   split at he
   ·rename_i k n hs
    subst he;rw[hs]at hx
    have ex:=bV hx
    refine⟨_,?_,.v _⟩
    simp only[execOp,ex]
    apply ku
    cases d <;>simp[cA]at hif <;>simp[Instr.makeInterface,run_underlying hd]
   ·exact absurd he.symm hr
 |makeFunc fn first caps=>
  change w_ fn (bY _ first.toList) (bY _ caps.toList)=r at he
  unfold w_ at he
  split at he
  ·rename_i f
   subst he
   obtain⟨q1,q2⟩:=lG hv caps
   obtain⟨q3,q4⟩:=lG hv first
   exact⟨.func (.func f) (first.map a.eval) (caps.map a.eval),by simp[execOp,Instr.makeFunc],.fn q3 q1 q4 q2⟩
  ·exact absurd he.symm hr
 |fieldAddr ty' x f=>
  obtain⟨ti,ht,he⟩:=bG (k:=fun ti=>match nth ti.fields f with|some (o,n,_) =>bif Nat.ble 1 n then o6 o (val ⟨ts,ops,g,⟨t,h⟩,nx⟩ x)else .bad|none=>.bad) hts he hr
  cases hf:nth ti.fields f with
  |none=>simp only[hf]at he;exact absurd he.symm hr
  |some q=>
   obtain⟨o,n,q⟩:=q
   simp only[hf]at he
   cases hn:Nat.ble 1 n with
   |false=>simp only[hn,cond_false]at he;exact absurd he.symm hr
   |true=>
    simp only[hn,cond_true]at he
    obtain⟨s',rfl⟩:=zc he hr
    obtain⟨u,e1,e2⟩:=vQ (P:=P) ht hf (Nat.le_of_ble_eq_true hn) (hv x) he
    exact⟨u,by simp only[execOp];exact ku e1,e2⟩
 |field ty' x f=>
  obtain⟨ti,ht,he⟩:=bG (k:=fun ti=>kh (nth ti.fields f) (oZ (val ⟨ts,ops,g,⟨t,h⟩,nx⟩ x))) hts he hr
  have hsh:∃ s',r=.val s':=by
   unfold kh at he
   split at he
   ·obtain⟨s',_,e⟩:=il he hr;exact⟨s',e⟩
   ·exact absurd he.symm hr
  obtain⟨s',rfl⟩:=hsh
  obtain⟨u,e1,e2⟩:=Bw (P:=P) ht (hv x) he
  exact⟨u,by simp only[execOp];exact ku e1,e2⟩
 |indexAddr ty' x i=>
  obtain⟨ti,ht,he⟩:=bG (k:=fun ti=>ax ts ti.elem fun te=>d5 ti te.size h (val ⟨ts,ops,g,⟨t,h⟩,nx⟩ x) (val ⟨ts,ops,g,⟨t,h⟩,nx⟩ i)) hts he hr
  obtain⟨te,hte,he⟩:=bG hts he hr
  obtain⟨c,s',rfl,hc⟩:=Bx (P:=P) hp ht hte (hv x) (hv i) he hr
  intro hcc
  obtain⟨u,e1,e2⟩:=hc hcc
  exact⟨u,by simp only[execOp];exact ku e1,e2⟩
 |extract x i=>
  have hx:=hv x
  change CH i (val _ x)=r at he
  generalize hvx:a.eval x=vx at hx
  unfold CH at he
  split at he
  ·rename_i l hs
   rw[hs]at hx
   obtain⟨s',e1,rfl⟩:=il he hr
   rw[dI]at e1
   cases hx with
   |tup q1 q2=>
    rename_i vs
    have hlt:i<vs.size:=by rw[q1];exact(List.getElem?_eq_some_iff.1 e1).1
    have:=q2 i s' e1
    simp only[Array.getD_eq_getD_getElem?,Array.getElem?_eq_getElem hlt,Option.getD_some]at this
    exact⟨vs[i],by simp[execOp,hvx,Instr.extract,hlt],this⟩
  ·exact absurd he.symm hr
 |makeSlice ty' n c=>
  obtain⟨ti,ht,he⟩:=bG (k:=fun ti=>ax ts ti.elem fun te=>bif ti.isSlice then(bif te.isSlice then ax ts te.elem fun tr=>t_ nx te tr (val ⟨ts,ops,g,⟨t,h⟩,nx⟩ n) (val ⟨ts,ops,g,⟨t,h⟩,nx⟩ c)else mkS nx te (val ⟨ts,ops,g,⟨t,h⟩,nx⟩ n) (val ⟨ts,ops,g,⟨t,h⟩,nx⟩ c))else .bad) hts he hr
  obtain⟨te,hte,he⟩:=bG hts he hr
  cases hs:ti.isSlice with
  |false=>rw[hs]at he;exact absurd he.symm hr
  |true=>
   rw[hs]at he
   simp only[cond_true]at he
   cases hs2:te.isSlice with
   |true=>
    rw[hs2]at he
    obtain⟨tr,htr,he⟩:=bG (k:=fun tr=>t_ nx te tr (val ⟨ts,ops,g,⟨t,h⟩,nx⟩ n) (val ⟨ts,ops,g,⟨t,h⟩,nx⟩ c)) hts he hr
    exact lH (FE (P:=P) hp hn ht hte hs (hv n) (hv c) he hr)
   |false=>
    rw[hs2]at he
    exact lH (IC (P:=P) hp hn ht hte hs (hv n) (hv c) he hr)
 |slice ty' x lo hi mx=>
  cases mx with
  |some _=>exact absurd he.symm hr
  |none=>
  obtain⟨ti,ht,he⟩:=bG (k:=fun ti=>ax ts ti.elem fun te=>gC ti te.size nx h (lu ⟨ts,ops,g,⟨t,h⟩,nx⟩ lo) (lu ⟨ts,ops,g,⟨t,h⟩,nx⟩ hi) (uz hi&&w8 ops) (val ⟨ts,ops,g,⟨t,h⟩,nx⟩ x)) hts he hr
  obtain⟨te,hte,he⟩:=bG hts he hr
  obtain⟨l1,l2⟩:=xB hv lo
  obtain⟨l3,l4⟩:=xB hv hi
  rcases BL (P:=P) hp hn ht hte (hv x) l1 l2 l3 l4 (fun q=>by cases hi with|none=>rfl|some _=>simp[uz]at q) he hr with⟨c,s',rfl,hc⟩ |he
  ·intro hcc
   obtain⟨u,e1,e2⟩:=hc hcc
   exact⟨u,by simp only[execOp];exact ku e1,e2⟩
  ·exact lH he
 |makeMap ty' rs=>
  cases rs with
  |some _=>exact absurd he.symm hr
  |none=>
  obtain⟨ti,ht,he⟩:=bG (k:=fun ti=>mmR nx ti.mkt ti.mvt) hts he hr
  unfold mmR at he
  split at he
  ·rename_i kk vk hk hv'
   subst he
   intro _
   refine⟨trivial,.map (some w.heap.size),own.set nx ⟨none,.map (some w.heap.size),[],[w.heap.size]⟩,w.alloc (.map #[] 0),.inl (by simp[execOp,Instr.makeMap,World.alloc_eq]),?_,?_⟩
   ·have:=Rel.os (F:=F) (own:=own.set nx ⟨none,.map (some w.heap.size),[],[w.heap.size]⟩) (w:=w.alloc (.map #[] 0)) (Own.set_same _ _ _) rfl
    exact this
   ·exact lB hp hn (w1:=w) ⟨rfl,rfl,rfl,rfl⟩ _ _ _ rfl fun own' g=>⟨w.heap.size,#[],0,rfl,rfl,gP _ _,⟨rfl,fun i x hx=>by simp[cC]at hx⟩,⟨by simp[d6],fun n hn=>by simp[d6]at hn⟩,trivial⟩
  ·exact absurd he.symm hr
 |lookup ty' m k ok=>
  obtain⟨ti,ht,he⟩:=bG (k:=fun ti=>kP ti h ok (val ⟨ts,ops,g,⟨t,h⟩,nx⟩ k) (val ⟨ts,ops,g,⟨t,h⟩,nx⟩ m)) hts he hr
  obtain⟨s',rfl,u,e1,e2⟩:=Da (P:=P) hp ht (hv m) (hv k) he hr
  exact⟨u,by simp only[execOp];exact ku e1,e2⟩
 |mapUpdate ty' m k v=>
  obtain⟨ti,ht,he⟩:=bG (k:=fun ti=>rO ti h (val ⟨ts,ops,g,⟨t,h⟩,nx⟩ k) (val ⟨ts,ops,g,⟨t,h⟩,nx⟩ v) (val ⟨ts,ops,g,⟨t,h⟩,nx⟩ m)) hts he hr
  obtain⟨ups,rfl,w',e1,e2⟩:=AC (P:=P) hp ht (hv m) (hv k) (hv v) he hr
  exact fun _=>⟨trivial,undef,own,w',.inr ⟨by simp[execOp,e1],rfl⟩,.any _,e2⟩
 |insert ty' m k v=>
  obtain⟨ti,ht,he⟩:=bG (k:=fun ti=>rO ti h (val ⟨ts,ops,g,⟨t,h⟩,nx⟩ k) (val ⟨ts,ops,g,⟨t,h⟩,nx⟩ v) (val ⟨ts,ops,g,⟨t,h⟩,nx⟩ m)) hts he hr
  obtain⟨ups,rfl,w',e1,e2⟩:=AC (P:=P) hp ht (hv m) (hv k) (hv v) he hr
  exact fun _=>⟨trivial,undef,own,w',.inr ⟨by simp[execOp,e1],rfl⟩,.any _,e2⟩
 |mapEntry ty' m k=>
  obtain⟨ti,ht,he⟩:=bG (k:=fun ti=>nX ti nx h (val ⟨ts,ops,g,⟨t,h⟩,nx⟩ k) (val ⟨ts,ops,g,⟨t,h⟩,nx⟩ m)) hts he hr
  exact lH (FC (P:=P) hp hn ht (hv m) (hv k) he hr)
 |entryStore ty' m s v=>
  obtain⟨ti,ht,he⟩:=bG (k:=fun ti=>vI ti h (val ⟨ts,ops,g,⟨t,h⟩,nx⟩ v) (val ⟨ts,ops,g,⟨t,h⟩,nx⟩ m) (val ⟨ts,ops,g,⟨t,h⟩,nx⟩ s)) hts he hr
  obtain⟨c,ups,rfl,hc⟩:=FD (P:=P) hp ht (hv m) (hv s) (hv v) he hr
  intro hcc
  obtain⟨w',e1,e2⟩:=hc hcc
  exact⟨trivial,undef,own,w',.inr ⟨by simp[execOp,e1],rfl⟩,.any _,e2⟩
 |typeAssert x xt ty' ok=>
  obtain⟨ti,ht,he⟩:=bG (k:=fun ti=>taS ty' ok ti (val ⟨ts,ops,g,⟨t,h⟩,nx⟩ x)) hts he hr
  obtain⟨i,d,z,hi,hd,hz,hq,rfl⟩:=bj ht
  have hx:=hv x
  unfold taS at he
  split at he
  ·rename_i t' y hs
   rw[hs]at hx
   have ex:=bV hx
   cases hif:(cA P ty' i d).iface with
   |true=>rw[hif]at he;exact absurd he.symm hr
   |false=>
    rw[hif]at he;simp only[cond_false]at he
    cases hb:Nat.beq t' ty' with
    |false=>rw[hb]at he;exact absurd he.symm hr
    |true=>
     rw[hb]at he;simp only[cond_true]at he
     have htt:=Nat.eq_of_beq_eq_true hb
     have hrr:r=(bif ok then .val (.tup [.v y,.b true])else .val (.v y)):=he.symm
     subst htt
     have hrun:(Instr.typeAssert (.iface t' y) xt t' ok).run P w=.ok (if ok then .tuple #[y,.bool true]else y) w:=by
      cases d <;>simp[cA]at hif <;>cases ok <;>simp[Instr.typeAssert,run_underlying hd]
     rw[hrr]
     clear hrr
     cases ok with
     |false=>exact⟨y,by simp only[execOp,ex];exact ku hrun,.v _⟩
     |true=>
      refine⟨.tuple #[y,.bool true],by simp only[execOp,ex];exact ku hrun,.tup rfl fun j s hj=>?_⟩
      cases j with
      |zero=>simp at hj;subst hj;exact .v _
      |succ j=>
       cases j with
       |zero=>simp at hj;subst hj;exact .v _
       |succ j=>simp at hj
  ·exact absurd he.symm hr
 |call c=>
  obtain⟨callee,args,tys⟩:=c
  cases callee with
  |value f=>
   have hf:=hv f
   change o7 (bY _ args.toList) (val _ f)=r at he
   generalize hvf:a.eval f=vf at hf
   unfold o7 at he
   split at he
   ·rename_i fid first caps hs
    subst he;rw[hs]at hf
    cases hf with
    |fn q1 q2 q3 q4=>
     rename_i us vs
     obtain⟨p1,p2⟩:=lG hv args
     refine⟨us++args.map a.eval++vs,RelL.app (RelL.app ⟨q1,q3⟩ ⟨p1,p2⟩) ⟨q2,q4⟩,?_⟩
     simp[execOp,resolve,hvf,Deferred.ofValue,invoke]
   ·rename_i id hs
    subst he;rw[hs]at hf
    obtain⟨hd,h1,rfl,h2⟩:=eA hf
    exact⟨hd,h1,args.map a.eval,lG hv args,by simp[execOp,resolve,hvf,BQ]⟩
   ·exact absurd he.symm hr
  |invoke f m=>exact absurd he.symm hr
  |builtin b=>
   obtain⟨p1,p2⟩:=lG hv args
   have hrun:∀ (b:Builtin),(execOp a.eval { dst:=dst,op:=.call ⟨.builtin b,args,tys⟩,type:=ty,pos:=pos,after:=after,guard:=guard})=builtin b tys ty (args.map fun| .const _=>true|_=>false) (args.map a.eval):=fun b=>rfl
   cases b <;>first|(exact absurd he.symm hr) |skip
   ·
    change (match tys.toList with| [t',t2] =>ax ts t' fun ti=>ax ts t2 fun ti2=>ax ts ti.elem fun te=>bif ti.isSlice&&ti2.isSlice then gO te nx h (bY _ args.toList)else .bad|_=>.bad)=r at he
    split at he
    ·rename_i t' t2 htys
     obtain⟨ti,ht,he⟩:=bG hts he hr
     obtain⟨ti2,ht2,he⟩:=bG hts he hr
     obtain⟨te,hte,he⟩:=bG hts he hr
     cases hs:ti.isSlice&&ti2.isSlice with
     |false=>rw[hs]at he;exact absurd he.symm hr
     |true=>
      rw[hs]at he
      rw[Bool.and_eq_true]at hs
      have htys':tys= #[t',t2]:=by cases tys;simp at htys;subst htys;rfl
      have:=Fz (P:=P) (ty:=ty) hp hn ht ht2 hte hs.1 hs.2 ⟨p1,p2⟩ he hr
      rw[hrun,htys']
      simp only[builtin]
      exact lH this
    ·exact absurd he.symm hr
   ·
    change (match tys.toList with| [t'] =>ax ts t' fun ti=>ax ts ti.elem fun te=>oA ti te h (bY _ args.toList) |_=>.bad)=r at he
    split at he
    ·rename_i t' htys
     obtain⟨ti,ht,he⟩:=bG hts he hr
     obtain⟨te,hte,he⟩:=bG hts he hr
     have htys':tys= #[t']:=by cases tys;simp at htys;subst htys;rfl
     have:=FG (P:=P) hp ht hte ⟨p1,p2⟩ he hr ty
     rw[hrun,htys']
     simp only[builtin]
     exact lH this
    ·exact absurd he.symm hr
   ·
    change (match tys.toList with|t'::_=>ax ts t' fun ti=>oB ti h (bY _ args.toList) |_=>.bad)=r at he
    split at he
    ·rename_i t' rest htys
     obtain⟨ti,ht,he⟩:=bG hts he hr
     have hty0:tys[0]? =some t':=by rw[←Array.getElem?_toList,htys];rfl
     obtain⟨ups,rfl,u,w',e1,e2⟩:=FB (P:=P) hp ht ⟨p1,p2⟩ he hr hty0 ty
     intro _
     refine⟨trivial,u,own,w',.inl ?_,.any _,e2⟩
     rw[hrun]
     simp only[builtin]
     simp[Sem.run_bind,e1]
    ·exact absurd he.symm hr
   ·
    change (match tys.toList with| [t'] =>ax ts t' fun ti=>lA ti h (bY _ args.toList) |_=>.bad)=r at he
    split at he
    ·rename_i t' htys
     obtain⟨ti,ht,he⟩:=bG hts he hr
     have htys':tys= #[t']:=by cases tys;simp at htys;subst htys;rfl
     obtain⟨n,hn',hl⟩:=FA (P:=P) (ty:=ty) hp ht ⟨p1,p2⟩ he hr
     have hfin:(execOp a.eval { dst:=dst,op:=.call ⟨.builtin .len,args,tys⟩,type:=ty,pos:=pos,after:=after,guard:=guard}).run P w=.ok (.value (.int .i64 n)) w:=by
      rw[hrun,htys']
      simp only[builtin]
      exact ku hl
     rcases hn' with⟨c,rfl,hc⟩ |rfl
     ·exact⟨hc,_,hfin,.v _⟩
     ·exact⟨_,hfin,.v _⟩
    ·exact absurd he.symm hr
   ·change vH (bY _ args.toList)=r at he
    unfold vH at he
    split at he
    ·rename_i k x k' y hvl
     subst he
     rw[hvl]at p1 p2
     have h0:=p2 0 _ rfl
     have h1:=p2 1 _ rfl
     generalize hgv:args.map a.eval=vs at *
     obtain⟨l⟩:=vs
     match l,p1 with
     | [u,v],_=>
      simp at h0 h1
      have e0:=bV h0;have e1:=bV h1
      subst e0;subst e1
      exact⟨_,by rw[hrun];simp[builtin,Builtin.max_,Builtin.max2],.v _⟩
    ·exact absurd he.symm hr
   ·change vG (bY _ args.toList)=r at he
    unfold vG at he
    split at he
    ·rename_i k x k' y hvl
     subst he
     rw[hvl]at p1 p2
     have h0:=p2 0 _ rfl
     have h1:=p2 1 _ rfl
     generalize hgv:args.map a.eval=vs at *
     obtain⟨l⟩:=vs
     match l,p1 with
     | [u,v],_=>
      simp at h0 h1
      have e0:=bV h0;have e1:=bV h1
      subst e0;subst e1
      exact⟨_,by rw[hrun];simp[builtin,Builtin.min_,Builtin.min2],.v _⟩
    ·exact absurd he.symm hr
 |range ty' x=>
  obtain⟨ti,ht,he⟩:=bG (k:=fun ti=>sA ti nx h (val ⟨ts,ops,g,⟨t,h⟩,nx⟩ x)) hts he hr
  have hvx:=hv x
  generalize val ⟨ts,ops,g,⟨t,h⟩,nx⟩ x=sx at he hvx
  unfold sA at he
  split at he
  ·rename_i id
   obtain⟨hdd,h1,hv1,h2⟩:=eA hvx
   cases ho:ag h id with
   |mp kk vk l pend=>
    rw[ho]at he
    simp only[Fl]at he
    cases hc:fm kk ti.mkt&&fm vk ti.mvt&&noE pend with
    |false=>rw[hc]at he;exact absurd he.symm hr
    |true=>
      rw[hc]at he;simp only[cond_true]at he
      simp only[Bool.and_eq_true]at hc
      subst he
      obtain⟨kt,e,q1,_⟩:=oH ht (g6 hc.1.1) (g6 hc.1.2)
      obtain⟨hd',e0,bm,es,clk,m1,m2,m3,m4,m5,_⟩:=hp.at ho rfl
      rw[h1]at e0;cases e0
      rw[fw hc.2]at m4
      have hes:es.size=l.length:=m4.1
      have hidn:id≠nx:=fun e=>by rw[e,hn.none]at h1;cases h1
      intro _
      refine⟨trivial,.pointer (some ⟨w.heap.size,0,none⟩),own.set nx ⟨some w.heap.size,undef,stV (d6 es) clk,[w.heap.size]⟩,w.alloc (.mapIter (some bm) clk #[] clk),.inl ?_,.ptr (Own.set_same _ _ _) rfl,?_⟩
      ·have:=run_range_map (P:=P) w ty' kt e bm es clk q1 m3
       have hx:a.eval x=.map (some bm):=by first|exact hv1.trans m1|exact hv1.symm.trans m1
       simp[execOp,hx,this]
      ·have s1:=lB hp hn (w1:=w) ⟨rfl,rfl,rfl,rfl⟩ (.mapIter (some bm) clk #[] clk) (.mi (some id) l.length (List.range l.length) none) ⟨some w.heap.size,undef,stV (d6 es) clk,[w.heap.size]⟩ rfl fun own' g=>⟨w.heap.size,rfl,rfl,fun i hi=>by
        cases hi
        obtain⟨hd2,k1,k2⟩:=g.ids _ _ h1
        have hbl:(d6 es).length=l.length:=by simp[d6,hes]
        refine⟨hd2,bm,#[],clk,d6 es,k1,k2.2.1.trans m1,gP _ _,rfl,hbl,List.nodup_range,fun k=>?_,fun j hj=>by cases hj⟩
        rw[List.mem_range,←hbl]
        constructor
        ·intro hk;exact⟨(d6 es)[k],List.getElem?_eq_getElem hk,by simp⟩
        ·rintro⟨s,hs,_⟩;exact(List.getElem?_eq_some_iff.1 hs).1⟩
       have go:(own.set nx ⟨some w.heap.size,undef,stV (d6 es) clk,[w.heap.size]⟩) id=some hdd:=by rw[Own.set_other _ _ hidn];exact h1
       have s2:=uA s1.hp go (.mp kk vk l (some (nx,none))) ⟨bm,es,clk,m1,m2,by rw[ko _ _ _ (jf m3)];exact m3,m4.carry s1.fr.goes.carries,m5,_,Own.set_same _ _ _,rfl⟩
       refine⟨s2.hp,s1.fr.trans s2.fr,fun j hj hd=>?_⟩
       have hd2:b9 (ag (bu (bu h nx (.mi (some id) l.length (List.range l.length) none)) id (.mp kk vk l (some (nx,none)))) j)=true:=hd
       rw[ci,ci]at hd2
       by_cases e:j=nx
       ·subst e;rw[if_neg hidn,if_pos rfl]at hd2;cases hd2
       ·rw[Own.set_other _ _ e];exact hj
   |_=>rw[ho]at he;exact absurd he.symm hr
  ·exact absurd he.symm hr
 |next it isS=>
  cases isS with
  |true=>exact absurd he.symm hr
  |false=>
   have hvx:=hv it
   change CR (val ⟨ts,ops,g,⟨t,h⟩,nx⟩ it)=r at he
   generalize val ⟨ts,ops,g,⟨t,h⟩,nx⟩ it=sx at he hvx
   unfold CR at he
   split at he
   ·rename_i id
    subst he
    have key:∀ v,Rel F own w (.ptr id 0) v→∃ hd b,own id=some hd∧hd.p=some b∧v=.pointer (some ⟨b,0,none⟩):=fun v h=>by
     cases h with
     |ptr e1 e2=>exact⟨_,_,e1,e2,rfl⟩
    obtain⟨hd,b,e1,e2,hev⟩:=key _ hvx
    refine⟨hd,b,e1,e2,ty,fun u w' hrun=>?_⟩
    simp[execOp,hev,hrun]
   ·exact absurd he.symm hr
 |entry it=>
  have hvx:=hv it
  change rh h (val ⟨ts,ops,g,⟨t,h⟩,nx⟩ it)=r at he
  generalize val ⟨ts,ops,g,⟨t,h⟩,nx⟩ it=sx at he hvx
  unfold rh at he
  split at he
  ·rename_i id
   cases ho:ag h id with
   |mi mid n left cur=>
    rw[ho]at he
    unfold Ar at he
    split at he
    ·rename_i mid' n' left' j hob
     cases hob
     cases hm:ag h mid' with
     |mp kk vk l pend=>
      rw[hm]at he
      cases pend with
      |none=>exact absurd he.symm hr
      |some q=>
      obtain⟨it,q⟩:=q
      cases q with
      |some _=>exact absurd he.symm hr
      |none=>
      simp only[CS]at he
      cases hbi:Nat.beq it id with
      |false=>rw[hbi]at he;exact absurd he.symm hr
      |true=>
       rw[hbi]at he;simp only[cond_true]at he
       have hit:=Nat.eq_of_beq_eq_true hbi
       subst he
       rintro⟨hn0,hj⟩
       have key:∀ v,Rel F own w (.ptr id 0) v→∃ hd b,own id=some hd∧hd.p=some b∧v=.pointer (some ⟨b,0,none⟩):=fun v h=>by
        cases h with
        |ptr e1 e2=>exact⟨_,_,e1,e2,rfl⟩
       obtain⟨hd,b,e1,e2,hev⟩:=key _ hvx
       obtain⟨hd',e1',b',p1,p2,p3⟩:=hp.at ho rfl
       rw[e1]at e1';cases e1'
       rw[e2]at p1;cases p1
       obtain⟨hdm,bm,seen,c0,ss,k1,k2,k3,k4,k5,k6,k7,k8⟩:=p3 _ rfl
       obtain⟨s8,hs8,hs⟩:=k8 j rfl
       obtain⟨hdm',k1',bm',es,clk,m1,m2,m3,m4,m5,hd2,t1,t2⟩:=hp.at hm rfl
       rw[k1]at k1';cases k1'
       rw[k2]at m1;cases m1
       rw[hit,e1]at t1;cases t1
       obtain⟨hc0,hss⟩:=Av (k4.symm.trans t2)
       subst hc0;subst hss
       have hlt:j<l.length:=by omega
       obtain⟨en,f1,f2,f3,f4⟩:=m4.2 j l[j] (by simp[cC,hlt])
       have hen:s8=en.born:=by
        simp only[d6,List.getElem?_map,Array.getElem?_toList,f1,Option.map_some,Option.some.injEq]at hs8
        exact hs8.symm
       subst hen
       have hseen:seen=seen.pop.push en.born:=by
        obtain⟨xs,rfl⟩:=Array.back?_eq_some_iff.1 hs
        simp
       have hrun:=ud (P:=P) (w:=w) (b:=b) (bm:=bm) (since:=c0) (clock:=c0) (seen:=seen.pop) (es:=es) (e:=en) (by rw[←hseen,k3]) m3 (by rw[Array.mem_toList_iff];exact Array.mem_of_getElem? f1) m5.1
       refine⟨.tuple #[en.key,en.val],by simp[execOp,hev,hrun],.tup rfl fun k s hk=>?_⟩
       have hgd:l.getD j (dq kk,dq vk)=l[j]:=by rw[List.getD_eq_getElem?_getD,List.getElem?_eq_getElem hlt];rfl
       rw[hgd]at hk
       match k,hk with
       |0,hk=>cases hk;exact f3
       |1,hk=>cases hk;exact f4
     |_=>rw[hm]at he;exact absurd he.symm hr
    ·exact absurd he.symm hr
   |_=>rw[ho]at he;exact absurd he.symm hr
  ·exact absurd he.symm hr
 |_=>exact absurd he.symm hr
end
end Go.Sx
end
