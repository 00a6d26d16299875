/- Part of the proof that the law TimetableSenior returns true and leaves its arguments as they were, for all arguments of bulk at most 1048576 (the Upto form). -/
import Derived.Test.YtagjakphhkfofaaGreatC510
import Derived.Shelf.SlSortCmp.NoneTotal
import Derived.Ground.SlsfProg
import Derived.Test.YtagjakphhkfofaaGreatProg
import Derived.Test.YtagjakphhkfofaaGreatC509
import Derived.Test.YtagjakphhkfofaaGreatC507
import Derived.Test.YtagjakphhkfofaaGreatC506
import Derived.Test.YtagjakphhkfofaaGreatC501
set_option linter.all false
section
namespace Go.Sx
open Go.Proofs
abbrev UM:=List (TimetableSlot×Bool)
abbrev WM:=List (TimetableSlot×Int)
def sl (a b : Int) : TimetableSlot:= { index:=a,hour:=b}
def ltF (k : Nat) (r n : Int) : Fault:= { kind:=7,hour:=(k : Int),index:=r,litres:=n,limit:=0}
section
variable {d : District} {s1 : List Fault×WM×UM×Int} {k : Nat} {u : UM} {F : List Fault} {w : WM}
theorem GN (hu : aD .timetableSlot .bool u (sl s1.2.2.2 k)=true) : ∃ u',aJ d s1 k (u,F,w)= .inr (u',F,w) :=by
 unfold aJ
 unfold sl at hu
 simp only [hu,cond_true]
 exact ⟨_,rfl⟩
theorem yu (hu : aD .timetableSlot .bool u (sl s1.2.2.2 k)=false) (hn : aD .timetableSlot .int w (sl s1.2.2.2 k)=0) : aJ d s1 k (u,F,w)= .inr (u,F,w) :=by
 unfold aJ
 unfold sl at hu hn
 simp only [hu,hn,cond_false,BEq.rfl,cond_true]
theorem Bk (hu : aD .timetableSlot .bool u (sl s1.2.2.2 k)=false) (hn : aD .timetableSlot .int w (sl s1.2.2.2 k)≠0)
  (hb : (aB (rch d s1.2.2.2) (aD .timetableSlot .int w (sl s1.2.2.2 k))).2=false∨(k : Int) < (rch d s1.2.2.2).delay) :
  ∃ u',aJ d s1 k (u,F,w)= .inr (u',F ++ [ltF k s1.2.2.2 (aD .timetableSlot .int w (sl s1.2.2.2 k))],w) :=by
 unfold aJ ltF
 unfold sl at hu hn hb ⊢
 simp only [hu,cond_false]
 generalize hq : aD .timetableSlot .int w ({ index:=s1.2.2.2,hour:=(k : Int)} : TimetableSlot)=n at hn hb ⊢
 have h0 : (n==0)=false:=by simpa using hn
 rw [h0,cond_false]
 unfold aB at hb
 by_cases hm : n≤1073741824
 ·rw [decide_eq_true hm,cond_true]
  have h1 : ((n==0) || decide (n > 1073741824))=false:=by rw [h0,Bool.false_or,decide_eq_false_iff_not];exact Int.not_lt.2 hm
  rw [h1,cond_false] at hb
  have h2 : ((!(b4 (d.reaches.getD (Int.toNat s1.2.2.2) (default : Reach)) n).2.1) || (decide ((k : Int) < (d.reaches.getD (Int.toNat s1.2.2.2) (default : Reach)).delay)))=true:=by
   rcases hb with hb | hb
   ·cases hN : (b4 (d.reaches.getD (Int.toNat s1.2.2.2) (default : Reach)) n).2.1 with
    | false=> rfl
    | true=> rw [hN] at hb;cases hb
   ·rw [decide_eq_true hb,Bool.or_true]
  rw [h2,cond_true]
  exact ⟨_,rfl⟩
 ·rw [decide_eq_false hm,cond_false]
  rw [Bool.not_false,Bool.true_or,cond_true]
  exact ⟨_,rfl⟩
theorem yw (hu : aD .timetableSlot .bool u (sl s1.2.2.2 k)=false) (hn : aD .timetableSlot .int w (sl s1.2.2.2 k)≠0)
  (hb : (aB (rch d s1.2.2.2) (aD .timetableSlot .int w (sl s1.2.2.2 k))).2=true) (hk : ¬ (k : Int) < (rch d s1.2.2.2).delay) :
  aJ d s1 k (u,F,w)= .inr (u,F,dn .timetableSlot .int w (sl (rch d s1.2.2.2).up (IntKind.i64.wrap ((k : Int) - (rch d s1.2.2.2).delay))) (IntKind.i64.wrap (aD .timetableSlot .int w (sl (rch d s1.2.2.2).up (IntKind.i64.wrap ((k : Int) - (rch d s1.2.2.2).delay))) + (aB (rch d s1.2.2.2) (aD .timetableSlot .int w (sl s1.2.2.2 k))).1))) :=by
 unfold aJ
 unfold sl at hu hn hb ⊢
 simp only [hu,cond_false]
 generalize hq : aD .timetableSlot .int w ({ index:=s1.2.2.2,hour:=(k : Int)} : TimetableSlot)=n at hn hb ⊢
 have h0 : (n==0)=false:=by simpa using hn
 rw [h0,cond_false]
 unfold aB at hb ⊢
 by_cases hm : n≤1073741824
 ·rw [decide_eq_true hm,cond_true]
  have h1 : ((n==0) || decide (n > 1073741824))=false:=by rw [h0,Bool.false_or,decide_eq_false_iff_not];exact Int.not_lt.2 hm
  rw [h1,cond_false] at hb ⊢
  have hN : (b4 (rch d s1.2.2.2) n).2.1=true:=by
   cases hN : (b4 (rch d s1.2.2.2) n).2.1 with
   | true=> rfl
   | false=> rw [hN] at hb;cases hb
  have h2 : ((!(b4 (d.reaches.getD (Int.toNat s1.2.2.2) (default : Reach)) n).2.1) || (decide ((k : Int) < (d.reaches.getD (Int.toNat s1.2.2.2) (default : Reach)).delay)))=false:=by
   rw [decide_eq_false hk,Bool.or_false]
   show (!(b4 (rch d s1.2.2.2) n).2.1)=false
   rw [hN];rfl
  rw [h2,cond_false,hN]
  rfl
 ·have h1 : ((n==0) || decide (n > 1073741824))=true:=by rw [h0,Bool.false_or,decide_eq_true_eq];exact Int.not_le.1 hm
  rw [h1,cond_true,h0] at hb
  cases hb
theorem Kq : ∃ u' T w',aJ d s1 k (u,F,w)= .inr (u',F ++ T,w')∧∀ f∈T,f.kind=7:=by
 cases hu : aD .timetableSlot .bool u (sl s1.2.2.2 k) with
 | true=> obtain ⟨u',e⟩ :=GN (F:=F) (w:=w) hu;exact ⟨u',[],w,by rw [e,List.append_nil],by simp⟩
 | false=>
  by_cases hn : aD .timetableSlot .int w (sl s1.2.2.2 k)=0
  ·exact ⟨u,[],w,by rw [yu hu hn,List.append_nil],by simp⟩
  ·by_cases hb : (aB (rch d s1.2.2.2) (aD .timetableSlot .int w (sl s1.2.2.2 k))).2=false∨(k : Int) < (rch d s1.2.2.2).delay
   ·obtain ⟨u',e⟩ :=Bk (F:=F) hu hn hb
    exact ⟨u',_,w,e,by simp [ltF]⟩
   ·have h1 : (aB (rch d s1.2.2.2) (aD .timetableSlot .int w (sl s1.2.2.2 k))).2=true:=by
     cases q : (aB (rch d s1.2.2.2) (aD .timetableSlot .int w (sl s1.2.2.2 k))).2 with
     | true=> rfl
     | false=> exact absurd (.inl q) hb
    exact ⟨u,[],_,by rw [yw hu hn h1 (fun q=> hb (.inr q)),List.append_nil],by simp⟩
end
section
variable {d : District} {s1 : List Fault×WM×UM×Int} {items : List (List SV)}
theorem sJ : ∀ (n k : Nat) (u : UM) (F : List Fault) (w : WM),∃ u' T w',az (aJ d s1) n k (u,F,w)= .inr (u',F ++ T,w')∧∀ f∈T,f.kind=7
 | 0,k,u,F,w=> ⟨u,[],w,by rw [List.append_nil];rfl,by simp⟩
 | n + 1,k,u,F,w=> by
  obtain ⟨u1,T1,w1,e1,h1⟩ :=Kq (d:=d) (s1:=s1) (k:=k) (u:=u) (F:=F) (w:=w)
  obtain ⟨u2,T2,w2,e2,h2⟩ :=sJ n (k + 1) u1 (F ++ T1) w1
  refine ⟨u2,T1 ++ T2,w2,?_,fun f hf=> (List.mem_append.1 hf).elim (h1 f) (h2 f)⟩
  simp only [az,e1]
  rw [e2,List.append_assoc]
theorem uP {F : List Fault} {f : Fault} (h : (F ++ [f]).map dD <+: items) : items[F.length]? =some (dD f) :=by
 obtain ⟨t,rfl⟩ :=h
 simp
theorem Pm {k : Nat} {u : UM} {F : List Fault} {w : WM} (h : ∀ f,(∃ u' w',aJ d s1 k (u,F,w)= .inr (u',F ++ [f],w'))→items[F.length]? =some (dD f)) : dF d items s1 k (u,F,w) :=by
 intro hu hn
 simp only at hu hn
 refine ⟨fun hm=> ⟨Fc _ _,fun hb=> h _ ?_⟩,fun hm hb=> h _ ?_⟩
 ·unfold aJ
  simp only at hm hb
  simp only [hu,hn,hm,hb,cond_false,cond_true]
  exact ⟨_,_,rfl⟩
 ·unfold aJ
  simp only at hm hb
  simp only [hu,hn,hm,hb,cond_false,cond_true]
  exact ⟨_,_,rfl⟩
theorem Kr : ∀ (n k : Nat) (u : UM) (F : List Fault) (w : WM),(∀ u2 F2 w2,az (aJ d s1) n k (u,F,w)= .inr (u2,F2,w2)→F2.map dD <+: items)→okI (aJ d s1) (dF d items s1) n k (u,F,w)
 | 0,_,_,_,_,_=> trivial
 | n + 1,k,u,F,w,h=> by
  refine ⟨Pm fun f ⟨u',w',e⟩ => ?_,fun s' e=> ?_⟩
  ·obtain ⟨u2,T2,w2,e2,_⟩ :=sJ (d:=d) (s1:=s1) n (k + 1) u' (F ++ [f]) w'
   have:=h u2 (F ++ [f] ++ T2) w2 (by simp only [az,e];exact e2)
   refine uP (List.IsPrefix.trans ?_ this)
   rw [List.map_append (l₂:=T2)]
   exact List.prefix_append _ _
  ·obtain ⟨u',F',w'⟩ :=s'
   exact Kr n (k + 1) u' F' w' fun u2 F2 w2 e2=> h u2 F2 w2 (by simp only [az,e];exact e2)
end
section
variable {d : District} {items : List (List SV)}
theorem Ks {j : Nat} {F : List Fault} {w : WM} {u : UM} {i : Int} (h : i < 0) : a_ d j (F,w,u,i)= .inl F:=by
 unfold a_
 simp only
 rw [decide_eq_false (by omega),cond_false]
theorem Fz {j : Nat} {F F' : List Fault} {w w' : WM} {u u' : UM} {i : Int} (h0 : 0≤i) (h1 : i≤1000000) (e : az (aJ d (F,w,u,i)) (Int.toNat d.hours) 0 (u,F,w)= .inr (u',F',w')) :
  a_ d j (F,w,u,i)= .inr (F',w',u',i - 1) :=by
 unfold a_
 simp only
 rw [decide_eq_true (by omega),cond_true,e]
 simp only
 rw [da (by omega) (by omega)]
theorem uQ : ∀ (m n j : Nat) (F : List Fault) (w : WM) (u : UM),m < n→m≤1000000→∃ T,az (a_ d) n j (F,w,u,(m : Int) - 1)= .inl (F ++ T)∧∀ f∈T,f.kind=7
 | 0,n + 1,j,F,w,u,_,_=> ⟨[],by simp only [az];rw [Ks (by omega),List.append_nil],by simp⟩
 | m + 1,n + 1,j,F,w,u,h,hm=> by
  obtain ⟨u1,T1,w1,e1,h1⟩ :=sJ (d:=d) (s1:=(F,w,u,((m + 1 : Nat) : Int) - 1)) (Int.toNat d.hours) 0 u F w
  obtain ⟨T2,e2,h2⟩ :=uQ m n (j + 1) (F ++ T1) w1 u1 (by omega) (by omega)
  refine ⟨T1 ++ T2,?_,fun f hf=> (List.mem_append.1 hf).elim (h1 f) (h2 f)⟩
  simp only [az]
  rw [Fz (by omega) (by omega) e1]
  simp only
  rw [show ((m + 1 : Nat) : Int) - 1 - 1=(m : Int) - 1 by omega,e2,List.append_assoc]
theorem Kt (hh : d.hours≤4096) : ∀ (m n j : Nat) (F : List Fault) (w : WM) (u : UM),m < n→m≤1000000→m≤d.reaches.length→(∀ x,az (a_ d) n j (F,w,u,(m : Int) - 1)= .inl x→x.map dD <+: items)→
  okI (a_ d) (eJ d items) n j (F,w,u,(m : Int) - 1)
 | 0,n + 1,j,F,w,u,_,_,_,h=> by
  refine ⟨fun q=> ?_,fun s' e=> ?_⟩
  ·simp only [decide_eq_true_eq] at q;omega
  ·rw [Ks (by omega)] at e;cases e
 | m + 1,n + 1,j,F,w,u,hmn,hm,hR,h=> by
  obtain ⟨u1,T1,w1,e1,h1⟩ :=sJ (d:=d) (s1:=(F,w,u,((m + 1 : Nat) : Int) - 1)) (Int.toNat d.hours) 0 u F w
  have e3:=Fz (j:=j) (d:=d) (by omega) (by omega) e1
  rw [show ((m + 1 : Nat) : Int) - 1 - 1=(m : Int) - 1 by omega] at e3
  refine ⟨fun q=> ⟨by simp only;omega,by omega,Kr _ _ _ _ _ fun u2 F2 w2 e2=> ?_⟩,fun s' e=> ?_⟩
  ·simp only at e2
   rw [e1] at e2
   simp only [Sum.inr.injEq,Prod.mk.injEq] at e2
   obtain ⟨rfl,rfl,rfl⟩ :=e2
   obtain ⟨T2,e4,_⟩ :=uQ (d:=d) m n (j + 1) (F ++ T1) w1 u1 (by omega) (by omega)
   have:=h _ (by simp only [az];rw [e3];exact e4)
   refine List.IsPrefix.trans ?_ this
   rw [List.map_append (l₂:=T2)]
   exact List.prefix_append _ _
  ·rw [e3] at e
   simp only [Sum.inr.injEq] at e
   subst e
   exact Kt hh m n (j + 1) (F ++ T1) w1 u1 (by omega) (by omega) (by omega) fun x hx=> h x (by simp only [az];rw [e3];exact hx)
end
end Go.Sx
end
section
namespace Go.Sx
open Go.Proofs
def Eqv (w : WM) (m : Mp) : Prop:= ∀ a b,aD .timetableSlot .int w (sl a b)=aD .int2 .int m (a,b)
theorem C2 {a b x y : Int} : (sl x y=sl a b)=((x,y)=(a,b)) :=by
 unfold sl
 simp only [TimetableSlot.mk.injEq,Prod.mk.injEq]
theorem Eqv.put {w : WM} {m : Mp} (h : Eqv w m) (a b v : Int) : Eqv (dn .timetableSlot .int w (sl a b) v) (dn .int2 .int m (a,b) v) :=fun x y=> by
 rw [iy,iy,h]
 by_cases q : (x,y)=(a,b)
 ·rw [if_pos (by rw [C2];exact q),if_pos q]
 ·rw [if_neg (by rw [C2];exact q),if_neg q]
theorem ud {ρ σ τ : Type} (step : τ→σ→ρ⊕σ) : ∀ (A B : List τ) (s : σ),cq step (A ++ B) s=match cq step A s with | .inl y=> .inl y | .inr s'=> cq step B s'
 | [],B,s=> rfl
 | x :: A,B,s=> by
  simp only [List.cons_append,cq]
  cases h : step x s with
  | inl y=> rfl
  | inr s'=> exact ud step A B s'
section
variable {d : District} {out : List Order}
theorem Qy : ∀ (n k : Nat) (w : WM) (m m' : Mp),Eqv w m→az (aY d out) n k m= .inr m'→∃ w',az (cP out d) n k w= .inr w'∧Eqv w' m'
 | 0,k,w,m,m',h,e=> by
  simp only [az,Sum.inr.injEq] at e
  subst e
  exact ⟨w,rfl,h⟩
 | n + 1,k,w,m,m',h,e=> by
  simp only [az] at e ⊢
  cases hs : aY d out k m with
  | inl x=> rw [hs] at e;cases e
  | inr m1=>
   rw [hs] at e
   simp only at e
   refine Qy n (k + 1) _ m1 m' ?_ e
   unfold aY at hs
   cases ho : (out.getD k (default : Order)).outlet with
   | false=> rw [ho] at hs;cases hs
   | true=>
    rw [ho] at hs
    simp only [Bool.not_true,cond_false,Sum.inr.injEq] at hs
    subst hs
    have h1:=h (d.farms.getD (Int.toNat ((out.getD k (default : Order)).index)) (default : Farm)).reach (out.getD k (default : Order)).hour
    have:=h.put (d.farms.getD (Int.toNat ((out.getD k (default : Order)).index)) (default : Farm)).reach (out.getD k (default : Order)).hour (IntKind.i64.wrap ((aD .int2 .int m ((d.farms.getD (Int.toNat ((out.getD k (default : Order)).index)) (default : Farm)).reach,(out.getD k (default : Order)).hour)) + (out.getD k (default : Order)).litres))
    rw [←h1] at this ⊢
    exact this
theorem zv (s : TimetableSlot) : aD .timetableSlot .bool [] s=false:=rfl
theorem wK {s1 : List Fault×WM×UM×Int} {r : Nat} (hs : s1.2.2.2=(r : Int)) {H : Nat} : ∀ (n k : Nat) (l : List Order) (m : Mp) (w : WM),k + n=H→Eqv w m→
  (∃ l' m' w',cq (aF d) (uB r H k) (l,m)= .inr (l',m')∧az (aJ d s1) n k ([],[],w)= .inr ([],[],w')∧Eqv w' m')∨
  ((∃ y,cq (aF d) (uB r H k) (l,m)= .inl y)∧∃ u' F' w',az (aJ d s1) n k ([],[],w)= .inr (u',F',w')∧F'≠[])
 | 0,k,l,m,w,hk,h=> by
  have : k=H:=by omega
  subst this
  rw [sD]
  exact .inl ⟨l,m,w,rfl,rfl,h⟩
 | n + 1,k,l,m,w,hk,h=> by
  rw [k8 (by omega : k < H)]
  have hg:=h (r : Int) (k : Int)
  rw [←hs] at hg
  simp only [cq,az]
  by_cases h0 : aD .timetableSlot .int w (sl s1.2.2.2 k)=0
  ·have e1 : aF d ((r : Int),(k : Int)) (l,m)= .inr (l,m) :=by
    unfold aF
    rw [h0,hs] at hg
    simp only [←hg,BEq.rfl,cond_true]
   rw [e1,yu (zv _) h0]
   exact wK hs n (k + 1) l m w (by omega) h
  ·by_cases hb : (aB (rch d s1.2.2.2) (aD .timetableSlot .int w (sl s1.2.2.2 k))).2=false∨(k : Int) < (rch d s1.2.2.2).delay
   ·refine .inr ⟨?_,?_⟩
    ·have e1 : aF d ((r : Int),(k : Int)) (l,m)= .inl m:=by
      unfold aF
      rw [hg,hs] at h0 hb
      have h1 : (aD .int2 .int m ((r : Int),(k : Int)) ==(0 : Int))=false:=beq_eq_false_iff_ne.2 h0
      simp only [h1,cond_false]
      have h2 : ((!(aB (d.reaches.getD (Int.toNat (r : Int)) (default : Reach)) (aD .int2 .int m ((r : Int),(k : Int)))).2) || (decide ((k : Int) < (d.reaches.getD (Int.toNat (r : Int)) (default : Reach)).delay)))=true:=by
       rcases hb with hb | hb
       ·rw [hb];rfl
       ·rw [decide_eq_true hb,Bool.or_true]
      rw [h2,cond_true]
     rw [e1]
     exact ⟨_,rfl⟩
    ·obtain ⟨u',e⟩ :=Bk (F:=[]) (zv _) h0 hb
     rw [e]
     obtain ⟨u2,T2,w2,e2,_⟩ :=sJ (d:=d) (s1:=s1) n (k + 1) u' ([] ++ [ltF k s1.2.2.2 (aD .timetableSlot .int w (sl s1.2.2.2 k))]) w
     exact ⟨u2,_,w2,e2,by simp⟩
   ·have hv : (aB (rch d s1.2.2.2) (aD .timetableSlot .int w (sl s1.2.2.2 k))).2=true:=by
     cases q : (aB (rch d s1.2.2.2) (aD .timetableSlot .int w (sl s1.2.2.2 k))).2 with
     | true=> rfl
     | false=> exact absurd (.inl q) hb
    have hk2 : ¬ (k : Int) < (rch d s1.2.2.2).delay:=fun q=> hb (.inr q)
    rw [yw (zv _) h0 hv hk2]
    rw [hg] at h0 hv ⊢
    rw [hs] at h0 hv hk2 ⊢
    have e1 : aF d ((r : Int),(k : Int)) (l,m)= .inr (l ++ [({ hour:=(IntKind.i64.wrap ((k : Int) - (rch d (r : Int)).delay)),index:=(r : Int),litres:=(aB (rch d (r : Int)) (aD .int2 .int m ((r : Int),(k : Int)))).1,outlet:=false} : Order)],dn .int2 .int m ((rch d (r : Int)).up,IntKind.i64.wrap ((k : Int) - (rch d (r : Int)).delay)) (IntKind.i64.wrap ((aD .int2 .int m ((rch d (r : Int)).up,IntKind.i64.wrap ((k : Int) - (rch d (r : Int)).delay))) + (aB (rch d (r : Int)) (aD .int2 .int m ((r : Int),(k : Int)))).1))) :=by
     unfold aF
     have h1 : (aD .int2 .int m ((r : Int),(k : Int)) ==(0 : Int))=false:=beq_eq_false_iff_ne.2 h0
     simp only [h1,cond_false]
     have h2 : ((!(aB (d.reaches.getD (Int.toNat (r : Int)) (default : Reach)) (aD .int2 .int m ((r : Int),(k : Int)))).2) || (decide ((k : Int) < (d.reaches.getD (Int.toNat (r : Int)) (default : Reach)).delay)))=false:=by
      rw [decide_eq_false hk2,Bool.or_false]
      show (!(aB (rch d (r : Int)) (aD .int2 .int m ((r : Int),(k : Int)))).2)=false
      rw [hv];rfl
     rw [h2,cond_false]
    rw [e1,h]
    exact wK hs n (k + 1) _ _ _ (by omega) (h.put _ _ _)
theorem Bl : ∀ (m n j : Nat) (l : List Order) (md : Mp) (w : WM),m < n→m≤1000000→Eqv w md→(∃ y,cq (aF d) (qm d.hours.toNat m) (l,md)= .inl y)→
  ∃ T,az (a_ d) n j ([],w,[],(m : Int) - 1)= .inl T∧T≠[]
 | 0,n,j,l,md,w,_,_,_,⟨y,e⟩ => by simp [qm,cq] at e
 | m + 1,n + 1,j,l,md,w,hmn,hm,h,⟨y,e⟩ => by
  rw [pe] at e
  have hs : (([],w,[],((m + 1 : Nat) : Int) - 1) : List Fault×WM×UM×Int).2.2.2=(m : Int) :=by simp only;omega
  rcases wK (d:=d) hs (H:=d.hours.toNat) d.hours.toNat 0 l md w (by omega) h with ⟨l',m',w',e1,e2,h'⟩ | ⟨_,u',F',w',e2,hF⟩
  ·rw [ud,e1] at e
   obtain ⟨T,e3,hT⟩ :=Bl m n (j + 1) l' m' w' (by omega) (by omega) h' ⟨y,e⟩
   refine ⟨T,?_,hT⟩
   simp only [az]
   rw [Fz (by omega) (by omega) e2,show ((m + 1 : Nat) : Int) - 1 - 1=(m : Int) - 1 by omega]
   exact e3
  ·obtain ⟨T,e3,_⟩ :=uQ (d:=d) m n (j + 1) F' w' u' (by omega) (by omega)
   refine ⟨F' ++ T,?_,by simp [hF]⟩
   simp only [az]
   rw [Fz (by omega) (by omega) e2,show ((m + 1 : Nat) : Int) - 1 - 1=(m : Int) - 1 by omega]
   exact e3
theorem rt (hr : Right1 d) (ho : Orders1 d out) (hall : ∀ x∈out,x.outlet=true) : ∃ w0,az (cP out d) out.length 0 []= .inr w0∧(∃ m,az (aY d out) out.length 0 []= .inr m∧Eqv w0 m)∧
  az (a_ d) (d.reaches.length + 1) 0 ([],w0,[],IntKind.i64.wrap ((d.reaches.length : Int) - 1))= .inl (br out d)∧∀ f∈br out d,f.kind=7:=by
 obtain ⟨m,hm⟩ :=(tF hr ho).2.2 hall
 obtain ⟨w0,e0,h0⟩ :=Qy out.length 0 [] [] m (fun _ _=> rfl) hm
 have hR:=hr.reaches
 obtain ⟨T,e1,h1⟩ :=uQ (d:=d) d.reaches.length (d.reaches.length + 1) 0 [] w0 [] (by omega) (by omega)
 have hw : IntKind.i64.wrap ((d.reaches.length : Int) - 1)=(d.reaches.length : Int) - 1:=da (by omega) (by omega)
 have e2 : br out d=T:=by
  unfold br
  rw [hw]
  simp only [e0,e1,List.nil_append]
 rw [hw,e2]
 exact ⟨w0,e0,⟨m,hm,h0⟩,by rw [e1,List.nil_append],h1⟩
theorem Sq (hr : Right1 d) (ho : Orders1 d out) (hall : ∀ x∈out,x.outlet=true) : eB out d ((br out d).map dD) :=by
 obtain ⟨w0,e0,_,e1,_⟩ :=rt hr ho hall
 intro _
 have hR:=hr.reaches
 have hh:=hr.hours
 refine ⟨?_,fun s_0 hs _=> ?_⟩
 ·have hst : ∀ j s,0≤j→j < 0 + out.length→eI out d j s:=fun j s _ hj=> by
   have h1:=ho.one j (by omega)
   have h2 : (out.getD j (default : Order)).outlet=true:=hall _ (nf _ _ (by omega))
   exact ⟨h1.index0,h1.farm h2⟩
  exact hY (fun _ _=> True) _ _ _ trivial fun j s h1 h2 _=> ⟨hst j s h1 h2,fun _ _=> trivial⟩
 ·rw [e0] at hs
  simp only [Sum.inr.injEq] at hs
  subst hs
  have hw : IntKind.i64.wrap ((d.reaches.length : Int) - 1)=(d.reaches.length : Int) - 1:=da (by omega) (by omega)
  refine ⟨?_,fun z hz=> ?_,fun x hx=> ?_⟩
  ·rw [hw] at e1 ⊢
   exact Kt hh _ _ _ _ _ _ (by omega) (by omega) (Nat.le_refl _) fun x hx=> by
    rw [e1] at hx
    simp only [Sum.inl.injEq] at hx
    subst hx
    exact List.prefix_rfl
  ·rw [e1] at hz;cases hz
  ·rw [e1] at hx
   simp only [Sum.inl.injEq] at hx
   subst hx
   simp
theorem Pn (hr : Right1 d) (ho : Orders1 d out) (hall : ∀ x∈out,x.outlet=true) (hP : (av d out).2.1=false) (hP2 : (av d out).2.2=0) : br out d≠[] :=by
 obtain ⟨w0,e0,⟨m,hm,h0⟩,e1,_⟩ :=rt hr ho hall
 have hR:=hr.reaches
 have hw : IntKind.i64.wrap ((d.reaches.length : Int) - 1)=(d.reaches.length : Int) - 1:=da (by omega) (by omega)
 have hy : ∃ y,cq (aF d) (bv d) (out,m)= .inl y:=by
  cases q : cq (aF d) (bv d) (out,m) with
  | inl y=> exact ⟨y,rfl⟩
  | inr s=>
   exfalso
   unfold av at hP hP2
   simp only [hm,q] at hP hP2
   cases hn : ((bG d out) !=0) with
   | true=>
    rw [hn] at hP2
    simp only [cond_true] at hP2
    rw [hP2] at hn;cases hn
   | false=>
    rw [hn] at hP hP2
    simp only [cond_false] at hP hP2
    cases hd : decide ((s.1.length : Int) > 4096) with
    | true=> rw [hd] at hP2;cases hP2
    | false=> rw [hd] at hP;cases hP
 obtain ⟨T,e3,hT⟩ :=Bl (d:=d) d.reaches.length (d.reaches.length + 1) 0 out m w0 (by omega) (by omega) h0 hy
 rw [hw,e3] at e1
 simp only [Sum.inl.injEq] at e1
 rw [←e1]
 exact hT
end
abbrev F5:=Int×Int×Int×Int×Int
def C3 (f : Fault) : F5:=(f.kind,f.hour,f.index,f.litres,f.limit)
theorem zw (out : List Order) (d : District) : ∀ (L : List Fault) (s : F5),∃ s',cq (b6 out d) L s= .inr s'∧(s'=s∨∃ f∈L,s'=C3 f)
 | [],s=> ⟨s,rfl,.inl rfl⟩
 | f :: L,s=> by
  have h1 : b6 out d f s= .inr (C3 f)∨b6 out d f s= .inr s:=by
   unfold b6 C3
   cases (((s.1==0) && ((s.2.1==0) && ((s.2.2.1==0) && ((s.2.2.2.1==0) && (s.2.2.2.2==0))))) || (decide ((bN ([(aS f.hour s.2.1),(aS s.2.2.1 f.index)])) < 0))) with
   | true=> exact .inl rfl
   | false=> exact .inr rfl
  simp only [cq]
  rcases h1 with h1 | h1
  ·rw [h1]
   obtain ⟨s',e,h⟩ :=zw out d L (C3 f)
   refine ⟨s',e,.inr ?_⟩
   rcases h with rfl | ⟨g,hg,rfl⟩
   ·exact ⟨f,List.mem_cons_self,rfl⟩
   ·exact ⟨g,List.mem_cons_of_mem _ hg,rfl⟩
  ·rw [h1]
   obtain ⟨s',e,h⟩ :=zw out d L s
   refine ⟨s',e,?_⟩
   rcases h with rfl | ⟨g,hg,rfl⟩
   ·exact .inl rfl
   ·exact .inr ⟨g,List.mem_cons_of_mem _ hg,rfl⟩
theorem GO {out : List Order} {d : District} (h : br out d≠[]) : ee out d∈br out d:=by
 unfold ee
 cases hL : br out d with
 | nil=> exact absurd hL h
 | cons f L=>
  have h1 : b6 out d f (0,0,0,0,0)= .inr (C3 f) :=by
   unfold b6 C3
   simp only [BEq.rfl,Bool.and_true,Bool.true_or,cond_true]
  obtain ⟨s',e,h⟩ :=zw out d L (C3 f)
  simp only [cq,h1,e]
  rcases h with rfl | ⟨g,hg,rfl⟩
  ·exact List.mem_cons_self
  ·exact List.mem_cons_of_mem _ hg
end Go.Sx
end
section
namespace Go.Sx
open Go.Proofs
theorem tH {f : Nat→List Fault} {step : Nat→List Fault→Empty⊕List Fault} : ∀ (n i : Nat) (s : List Fault),(∀ j s,i≤j→j < i + n→step j s= .inr (s ++ f j))→az step n i s= .inr (s ++ (List.range' i n).flatMap f)
 | 0,i,s,_=> by simp [az]
 | n + 1,i,s,h=> by
  simp only [az,h i s (Nat.le_refl _) (by omega)]
  rw [tH n (i + 1) (s ++ f i) fun j s h1 h2=> h j s (by omega) (by omega)]
  simp [List.range'_succ]
theorem wL {f : Nat→List Fault} {step : Nat→List Fault→Empty⊕List Fault} {p : Nat→List Fault→Prop} {items : List (List SV)} : ∀ (n i : Nat) (s : List Fault),(∀ j s,i≤j→j < i + n→step j s= .inr (s ++ f j))→
  (∀ j s,i≤j→j < i + n→(s ++ f j).map dD <+: items→p j s)→(s ++ (List.range' i n).flatMap f).map dD <+: items→okI step p n i s
 | 0,_,_,_,_,_=> trivial
 | n + 1,i,s,h,hp,hi=> by
  rw [List.range'_succ,List.flatMap_cons,←List.append_assoc] at hi
  refine ⟨hp i s (Nat.le_refl _) (by omega) (List.IsPrefix.trans (by rw [List.map_append (l₂:=List.flatMap f _)];exact List.prefix_append _ _) hi),fun s' e=> ?_⟩
  rw [h i s (Nat.le_refl _) (by omega)] at e
  simp only [Sum.inr.injEq] at e
  subst e
  exact wL n (i + 1) (s ++ f i) (fun j s h1 h2=> h j s (by omega) (by omega)) (fun j s h1 h2=> hp j s (by omega) (by omega)) hi
def g0P (x : Order) : Bool:= !x.outlet && x.index==0
section
variable {d : District} {l : List Order}
theorem C4 (ho : Orders1 d l) : ∃ s0,az (aO l) l.length 0 ([],0)= .inr s0∧(∀ r h,aD .timetableSlot .int s0.1 (sl r h)=bV (cI r h h) l)∧s0.2=bV g0P l:=by
 obtain ⟨s,e,h1,h2⟩ :=zq (step:=aO l) (fun j s=> (∀ r h,aD .timetableSlot .int s.1 (sl r h)=bV (cI r h h) (l.take j))∧s.2=bV g0P (l.take j)) l.length 0 ([],0) ⟨fun _ _=> rfl,rfl⟩ (fun j s _ hj ⟨h1,h2⟩ => by
  have hj : j < l.length:=by omega
  have hb:=Fx ho g0P j
  have hlit:=ho.lit _ (List.getElem_mem hj)
  unfold aO
  rw [cD _ _ hj]
  cases hout : l[j].outlet with
  | true=>
   refine ⟨_,rfl,fun r h=> ?_,?_⟩
   ·rw [nc hj,h1]
    have : cI r h h l[j]=false:=by unfold cI;rw [hout];rfl
    rw [this];simp
   ·rw [nc hj,h2]
    have : g0P l[j]=false:=by unfold g0P;rw [hout];rfl
    rw [this];simp
  | false=>
   have hg : ∀ r h,aD .timetableSlot .int (dn .timetableSlot .int s.1 (sl l[j].index l[j].hour) l[j].litres) (sl r h)=bV (cI r h h) (l.take (j + 1)) :=fun r h=> by
    rw [iy,nc hj,h1]
    by_cases q : r=l[j].index∧h=l[j].hour
    ·obtain ⟨rfl,rfl⟩ :=q
     have hp : cI l[j].index l[j].hour l[j].hour l[j]=true:=by unfold cI;rw [hout];simp
     rw [if_pos rfl,hp,GK ho hj (fun x hx=> ?_)]
     ·simp
     ·unfold cI at hx
      simp only [Bool.and_eq_true,Bool.not_eq_true',beq_iff_eq,decide_eq_true_eq] at hx
      exact ⟨by omega,hx.1.1.2,by rw [hx.1.1.1,hout]⟩
    ·have hp : cI r h h l[j]=false:=by
      cases hc : cI r h h l[j] with
      | false=> rfl
      | true=>
       unfold cI at hc
       simp only [Bool.and_eq_true,Bool.not_eq_true',beq_iff_eq,decide_eq_true_eq] at hc
       exact absurd ⟨hc.1.1.2.symm,by omega⟩ q
     rw [if_neg (fun e=> q (by rw [C2] at e;simp only [Prod.mk.injEq] at e;exact e)),hp]
     simp
   by_cases h0 : l[j].index=0
   ·have hb0 : (l[j].index==0)=true:=by rw [h0];rfl
    simp only [Bool.not_false,cond_true,hb0]
    refine ⟨_,rfl,hg,?_⟩
    have : g0P l[j]=true:=by unfold g0P;rw [hout,hb0];rfl
    rw [nc hj,this,h2,da (by omega) (by omega),cond_true]
   ·have hb0 : (l[j].index==0)=false:=by simpa using h0
    simp only [Bool.not_false,cond_true,hb0,cond_false]
    refine ⟨_,rfl,hg,?_⟩
    have : g0P l[j]=false:=by unfold g0P;rw [hout,hb0];rfl
    rw [nc hj,this,h2]
    simp)
 rw [Nat.zero_add,List.take_length] at h1 h2
 exact ⟨s,e,h1,h2⟩
theorem Ku (ho : Orders1 d l) {s0 : WM×Int} (hg : ∀ r h,aD .timetableSlot .int s0.1 (sl r h)=bV (cI r h h) l) (h i : Nat) (hh : h≤1000000) (n : Nat) (hn : n≤1000000) :
  az (dG d s0 h i) n 0 0= .inr (bV (cI i ((h : Int) - n + 1) h) l) :=by
 obtain ⟨s,e,h1⟩ :=zq (step:=dG d s0 h i) (fun j s=> s=bV (cI i ((h : Int) - j + 1) h) l) n 0 0 (nb (fun x _=> by
   cases hc : cI i ((h : Int) - (0 : Nat) + 1) h x with
   | false=> rfl
   | true=>
    unfold cI at hc
    simp only [Bool.and_eq_true,decide_eq_true_eq] at hc
    omega)).symm (fun j s _ hj hs=> by
  refine ⟨_,rfl,?_⟩
  have e1:=hg (i : Int) ((h : Int) - (j : Int))
  unfold sl at e1
  have e2:=Kh ho (i : Int) (a:=(h : Int) - j) (m:=(h : Int) - j + 1) (b:=(h : Int)) (by omega) (by omega)
  have e3:=Kg ho (cI i ((h : Int) - j) ((h : Int) - j))
  have e4:=Kg ho (cI i ((h : Int) - j + 1) h)
  rw [show (h : Int) - j + 1 - 1=(h : Int) - j by omega] at e2
  rw [da (n:=(h : Int) - (j : Int)) (by omega) (by omega),e1,hs,da (by omega) (by omega),show (h : Int) - ((j + 1 : Nat) : Int) + 1=(h : Int) - j by omega]
  omega)
 rw [e,h1,Nat.zero_add]
def bk (d : District) (l : List Order) (h i : Nat) : List Fault:=
 (if bV (cI i h h) l > (rch d i).cap then [{ kind:=1,hour:=(h : Int),index:=(i : Int),litres:=bV (cI i h h) l,limit:=(rch d i).cap}] else []) ++
 (if bV (cI i ((h : Int) - (rch d i).delay + 1) h) l > (rch d i).bank then [{ kind:=3,hour:=(h : Int),index:=(i : Int),litres:=bV (cI i ((h : Int) - (rch d i).delay + 1) h) l,limit:=(rch d i).bank}] else [])
theorem FA (ho : Orders1 d l) {s0 : WM×Int} (hg : ∀ r h,aD .timetableSlot .int s0.1 (sl r h)=bV (cI r h h) l) {h i : Nat} (hh : h≤1000000) (hi : i < d.reaches.length) (s : List Fault) {items : List (List SV)} :
  cT d s0 h i s= .inr (s ++ bk d l h i)∧((s ++ bk d l h i).map dD <+: items→d5 d items s0 h i s) :=by
 have hx:=ho.right.reach1 hi
 have hd1:=hx.delay1
 have hd2:=hx.delay
 have e1:=Ku ho hg h i hh (Int.toNat (d.reaches.getD i (default : Reach)).delay) (by omega)
 have e2:=hg (i : Int) (h : Int)
 unfold sl at e2
 have e3 : ((Int.toNat (d.reaches.getD i (default : Reach)).delay : Nat) : Int)=(rch d (i : Int)).delay:=by
  show _=(d.reaches.getD (Int.toNat (i : Int)) (default : Reach)).delay
  rw [Int.toNat_natCast];omega
 rw [e3] at e1
 have e4 : d.reaches.getD i (default : Reach)=rch d (i : Int) :=by show _=d.reaches.getD (Int.toNat (i : Int)) default;rw [Int.toNat_natCast]
 have hdl : (d.reaches.getD i (default : Reach)).delay < 9223372036854775808:=by omega
 refine ⟨?_,fun hp=> ⟨hdl,fun s3 h3=> ?_⟩⟩
 ·unfold cT bk
  simp only [e1,e2]
  rw [e4]
  generalize bV (cI i ((h : Int) - (rch d (i : Int)).delay + 1) h) l=B
  generalize bV (cI i h h) l=A
  generalize rch d (i : Int)=x
  by_cases c1 : A > x.cap <;> by_cases c2 : B > x.bank <;> simp [c1,c2]
 ·rw [e1] at h3
  simp only [Sum.inr.injEq] at h3
  subst h3
  simp only [e2]
  rw [e4]
  unfold bk at hp
  generalize bV (cI i ((h : Int) - (rch d (i : Int)).delay + 1) h) l=B at hp ⊢
  generalize bV (cI i h h) l=A at hp ⊢
  generalize rch d (i : Int)=x at hp ⊢
  refine ⟨fun q1=> ⟨?_,fun q2=> ?_,fun q=> q⟩,fun q1=> ⟨q1,fun q2=> ?_,fun q=> q⟩⟩
  ·rw [if_pos (of_decide_eq_true q1),←List.append_assoc] at hp
   refine uP (List.IsPrefix.trans ?_ hp)
   rw [List.map_append (l₁:=s ++ _)]
   exact List.prefix_append _ _
  ·rw [if_pos (of_decide_eq_true q1),if_pos (of_decide_eq_true q2),←List.append_assoc] at hp
   exact uP hp
  ·rw [if_neg (of_decide_eq_false q1),if_pos (of_decide_eq_true q2),List.nil_append] at hp
   exact uP hp
def bkH (d : District) (l : List Order) (h : Nat) : List Fault:=(List.range' 0 d.reaches.length).flatMap (bk d l h)
theorem FB (ho : Orders1 d l) {s0 : WM×Int} (hg : ∀ r h,aD .timetableSlot .int s0.1 (sl r h)=bV (cI r h h) l) {h : Nat} (hh : h≤1000000) (s : List Fault) {items : List (List SV)} :
  ct d s0 h s= .inr (s ++ bkH d l h)∧((s ++ bkH d l h).map dD <+: items→d6 d items s0 h s) :=by
 have key : ∀ j s,0≤j→j < 0 + d.reaches.length→cT d s0 h j s= .inr (s ++ bk d l h j) :=fun j s _ hj=> (FA ho hg hh (by omega) s (items:=items)).1
 refine ⟨?_,fun hp _=> ?_⟩
 ·unfold ct
  rw [tH d.reaches.length 0 s key]
  rfl
 ·exact wL d.reaches.length 0 s key (fun j s _ hj hq=> (FA ho hg hh (by omega) s).2 hq) hp
def pr (d : District) (l : List Order) : List Fault:=(List.range' 0 d.hours.toNat).flatMap (bkH d l) ++ (if bV g0P l > d.tank.start then [{ kind:=4,hour:=0,index:=0,litres:=bV g0P l,limit:=d.tank.start}] else [])
theorem yx (ho : Orders1 d l) : bt l d=pr d l∧df l d ((bt l d).map dD) :=by
 obtain ⟨s0,e0,hg,h0⟩ :=C4 ho
 have hh:=ho.right.hours
 have key : ∀ j s,0≤j→j < 0 + d.hours.toNat→ct d s0 j s= .inr (s ++ bkH d l j) :=fun j s _ hj=> (FB ho hg (by omega) s (items:=[])).1
 have e1:=tH d.hours.toNat 0 [] key
 have e2 : bt l d=pr d l:=by
  unfold bt pr
  simp only [e0,e1,h0,List.nil_append]
  by_cases c : bV g0P l > d.tank.start
  ·rw [decide_eq_true c,cond_true,if_pos c]
  ·rw [decide_eq_false c,cond_false,if_neg c,List.append_nil]
 refine ⟨e2,?_⟩
 rw [e2]
 intro _ s hs
 rw [e0] at hs
 simp only [Sum.inr.injEq] at hs
 subst hs
 refine ⟨by omega,?_,fun s1 hs1=> ?_⟩
 ·refine wL d.hours.toNat 0 [] key (fun j s _ hj hq=> (FB ho hg (by omega) s).2 hq) ?_
  unfold pr
  rw [List.nil_append,List.map_append]
  exact List.prefix_append _ _
 ·rw [e1] at hs1
  simp only [List.nil_append,Sum.inr.injEq] at hs1
  subst hs1
  rw [h0]
  unfold pr
  by_cases c : bV g0P l > d.tank.start
  ·rw [decide_eq_true c,if_pos c]
   simp
  ·rw [decide_eq_false c,if_neg c]
   simp
structure Lim (d : District) (l : List Order) : Prop where
 cap : ∀ h i : Nat,h < d.hours.toNat→i < d.reaches.length→bV (cI i h h) l≤(rch d i).cap
 bank : ∀ h i : Nat,h < d.hours.toNat→i < d.reaches.length→bV (cI i ((h : Int) - (rch d i).delay + 1) h) l≤(rch d i).bank
 tank : bV g0P l≤d.tank.start
theorem Sr {h i : Nat} : bk d l h i=[]↔bV (cI i h h) l≤(rch d i).cap∧bV (cI i ((h : Int) - (rch d i).delay + 1) h) l≤(rch d i).bank:=by
 unfold bk
 by_cases c1 : bV (cI i h h) l > (rch d i).cap <;> by_cases c2 : bV (cI i ((h : Int) - (rch d i).delay + 1) h) l > (rch d i).bank <;> simp only [c1,c2,if_true,if_false,List.append_eq_nil_iff,List.cons_ne_nil,false_and,and_false,false_iff,true_and,true_iff] <;> omega
theorem yy : pr d l=[]↔Lim d l:=by
 unfold pr bkH
 simp only [List.append_eq_nil_iff,List.flatMap_eq_nil_iff,List.mem_range',Sr]
 constructor
 ·rintro ⟨h1,h2⟩
  refine ⟨fun h i hh hi=> (h1 h ⟨h,hh,by omega⟩ i ⟨i,hi,by omega⟩).1,fun h i hh hi=> (h1 h ⟨h,hh,by omega⟩ i ⟨i,hi,by omega⟩).2,?_⟩
  by_cases c : bV g0P l > d.tank.start
  ·rw [if_pos c] at h2;cases h2
  ·omega
 ·intro h
  refine ⟨?_,if_neg (by have:=h.tank;omega)⟩
  rintro a ⟨h',hh,rfl⟩ b ⟨i,hi,rfl⟩
  exact ⟨h.cap _ _ (by omega) (by omega),h.bank _ _ (by omega) (by omega)⟩
theorem C5 : ∀ f∈pr d l,f.kind≠0∧f.limit < f.litres:=by
 intro f hf
 unfold pr bkH bk at hf
 simp only [List.mem_append,List.mem_flatMap] at hf
 rcases hf with ⟨h,_,i,_,hf | hf⟩ | hf
 all_goals
  split at hf
  ·rename_i c
   simp only [List.mem_cons,List.not_mem_nil,or_false] at hf
   subst hf
   exact ⟨by simp,c⟩
  ·cases hf
end
end Go.Sx
end
section
namespace Go.Sx
open Go.Proofs
section
variable {d : District} {c : List Claim}
theorem qH (s : List Order) : aK s=true↔∃ x∈s,x.litres > 1073741824:=by
 unfold aK b9
 have hst : ∀ j,aW s j ()=bif decide ((s.getD j default).litres > 1073741824) then .inl (j : Int) else .inr () :=fun j=> rfl
 have key : ∀ n i,(∀ j,i≤j→j < i + n→¬ (s.getD j default).litres > 1073741824)→az (aW s) n i ()= .inr () :=by
  intro n
  induction n with
  | zero=> intro i _;rfl
  | succ n ih=>
   intro i h
   simp only [az,hst]
   rw [decide_eq_false (h i (Nat.le_refl _) (by omega)),cond_false]
   exact ih (i + 1) fun j h1 h2=> h j (by omega) (by omega)
 have key2 : ∀ n i x,az (aW s) n i ()= .inl x→0≤x∧∃ j,i≤j∧j < i + n∧(s.getD j default).litres > 1073741824:=by
  intro n
  induction n with
  | zero=> intro i x h;cases h
  | succ n ih=>
   intro i x h
   simp only [az,hst] at h
   by_cases q : (s.getD i default).litres > 1073741824
   ·rw [decide_eq_true q,cond_true] at h
    simp only [Sum.inl.injEq] at h
    exact ⟨by omega,i,Nat.le_refl _,by omega,q⟩
   ·rw [decide_eq_false q,cond_false] at h
    obtain ⟨h1,j,h2,h3,h4⟩ :=ih (i + 1) x h
    exact ⟨h1,j,by omega,by omega,h4⟩
 constructor
 ·intro h
  cases hr : az (aW s) s.length 0 () with
  | inl x=>
   obtain ⟨_,j,_,hj,hl⟩ :=key2 _ _ _ hr
   exact ⟨_,nf s default (by omega),hl⟩
  | inr u=> rw [hr] at h;simp at h
 ·rintro ⟨x,hx,hl⟩
  obtain ⟨j,hj,rfl⟩ :=List.getElem_of_mem hx
  cases hr : az (aW s) s.length 0 () with
  | inl x=> have:=(key2 _ _ _ hr).1;simp only [decide_eq_true_eq];omega
  | inr u=>
   have h1:=CN hr j (Nat.zero_le _) (by omega)
   rw [hst,cD _ _ hj,decide_eq_true hl] at h1
   cases h1
structure Askd (d : District) (c : List Claim) : Prop where
 chk : aZ d c=0
 wide : (d.reaches.length : Int) * d.hours≤1024
 lit : ∀ x∈ap c,x.litres≤1073741824
theorem uR (h : aZ d c=0) : okL1 c:=by
 obtain ⟨_,h2,h3,_⟩ :=(cr d c).1 h
 exact ⟨h2,fun a ha=> wz (h3 a ha)⟩
theorem Kv (h : aZ d c=0) : Right1 d:=o9 (by rw [((cr d c).1 h).1];rfl)
theorem FC (h : aZ d c=0) : IntKind.i64.wrap ((d.reaches.length : Int) * d.hours)=(d.reaches.length : Int) * d.hours:=by
 have:=yi (Kv h)
 exact da (by omega) (by omega)
theorem gE : (am d c).2=0↔Askd d c:=by
 unfold am
 by_cases h1 : aZ d c=0
 ·rw [h1]
  simp only [bne_self_eq_false,cond_false]
  rw [FC h1]
  by_cases h2 : (d.reaches.length : Int) * d.hours > 1024
  ·rw [decide_eq_true h2,cond_true]
   constructor
   ·intro h;cases h
   ·intro h;have:=h.wide;omega
  ·rw [decide_eq_false h2,cond_false]
   cases h3 : aK (ap c) with
   | true=>
    rw [cond_true]
    obtain ⟨x,hx,hl⟩ :=(qH _).1 h3
    constructor
    ·intro h;cases h
    ·intro h;have:=h.lit x hx;omega
   | false=>
    rw [cond_false]
    refine ⟨fun _=> ⟨h1,by omega,fun x hx=> ?_⟩,fun _=> rfl⟩
    by_cases q : x.litres > 1073741824
    ·have:=(qH _).2 ⟨x,hx,q⟩
     rw [h3] at this;cases this
    ·omega
 ·have : (aZ d c !=0)=true:=by simpa using h1
  rw [this,cond_true]
  exact ⟨fun h=> absurd h h1,fun h=> absurd h.chk h1⟩
theorem yz (h : Askd d c) : am d c=(ap c,0) :=by
 have h2:=gE.2 h
 unfold am at h2 ⊢
 rw [h.chk] at h2 ⊢
 simp only [bne_self_eq_false,cond_false] at h2 ⊢
 rw [FC h.chk] at h2 ⊢
 rw [decide_eq_false (by have:=h.wide;omega),cond_false] at h2 ⊢
 cases h3 : aK (ap c) with
 | true=> rw [h3] at h2;cases h2
 | false=> rfl
theorem Bm (d : District) (c : List Claim) : dx d c:=by
 refine ⟨GI d c,fun h _ _=> GM (uR (d:=d) ?_)⟩
 simpa using h
theorem Askd.outs (h : Askd d c) : Outs c (ap c) :=Sx.outs (uR h.chk)
theorem Askd.nar (h : Askd d c) : Nar d (ap c) :=by
 obtain ⟨h1,h2,h3,_⟩ :=(cr d c).1 h.chk
 have ho:=h.outs
 refine ⟨⟨h1,Nat.le_trans ho.len h2,fun x hx=> ?_,ho.asc⟩,h.wide⟩
 obtain ⟨a,ha,e1,e2⟩ :=ho.src x hx
 have hk:=h3 a ha
 unfold okC at hk
 simp only [Bool.and_eq_true,decide_eq_true_eq] at hk
 have hout:=ho.out x hx
 have hl:=ho.lit x hx
 have hl2:=h.lit x hx
 exact ⟨by omega,by omega,by omega,fun _=> by omega,fun q=> (by rw [hout] at q;cases q),hl.2,hl2⟩
theorem wM (d : District) (c : List Claim) :
  (¬ Askd d c∧(am d c).2≠0∧aw d c=([],({ kind:=0,hour:=0,index:=0,litres:=0,limit:=0} : Fault),(am d c).2))∨
  (Askd d c∧(∃ gs,PFin d (ap c) gs∧4096 < (ap c ++ gs).length)∧aw d c=([],({ kind:=0,hour:=0,index:=0,litres:=0,limit:=0} : Fault),2))∨
  (Askd d c∧(∃ gs r h,PX d (ap c) gs r h)∧br (ap c) d≠[]∧aw d c=([],ee (ap c) d,0))∨
  (Askd d c∧∃ gs,PL d (ap c) gs∧¬ Lim d (srt ax (ap c ++ gs))∧∃ f∈pr d (srt ax (ap c ++ gs)),aw d c=([],f,0))∨
  (Askd d c∧∃ gs,PL d (ap c) gs∧Lim d (srt ax (ap c ++ gs))∧aw d c=(srt ax (ap c ++ gs),({ kind:=0,hour:=0,index:=0,litres:=0,limit:=0} : Fault),0)) :=by
 by_cases hA : Askd d c
 ·refine .inr ?_
  have ha:=yz hA
  have hN:=hA.nar
  have hall:=hA.outs.out
  unfold aw
  simp only [ha,bne_self_eq_false,cond_false]
  rcases wx d (ap c) with ⟨q,_⟩ | ⟨_,q,_⟩ | ⟨_,_,hx,e⟩ | ⟨_,_,gs,hF,hlen,e⟩ | ⟨_,_,gs,hP,e⟩
  ·exact absurd ((rh _ _).2 hN) q
  ·exact absurd hall q
  ·refine .inr (.inl ⟨hA,hx,?_,?_⟩)
   ·exact Pn hN.good.right hN.good.orders hall (by rw [e]) (by rw [e])
   ·rw [e];rfl
  ·refine .inl ⟨hA,⟨gs,hF,hlen⟩,?_⟩
   rw [e];rfl
  ·have hg:=hP.good
   have hb:=(yx hg.orders).1
   rw [e]
   simp only [bne_self_eq_false,cond_false,Bool.not_true]
   rw [hb]
   cases hB : pr d (srt ax (ap c ++ gs)) with
   | nil=> exact .inr (.inr (.inr ⟨hA,gs,hP,yy.1 hB,rfl⟩))
   | cons f r=>
    refine .inr (.inr (.inl ⟨hA,gs,hP,fun q=> ?_,f,?_,?_⟩))
    ·rw [yy.2 q] at hB;cases hB
    ·rw [hB];exact List.mem_cons_self
    ·rfl
 ·refine .inl ⟨hA,fun q=> hA (gE.1 q),?_⟩
  have : ((am d c).2 !=0)=true:=by
   rw [bne_iff_ne];exact fun q=> hA (gE.1 q)
  unfold aw
  rw [this,cond_true]
theorem Bn (d : District) (c : List Claim) : dy d c:=by
 refine ⟨Bm d c,fun h=> ?_⟩
 have hA : Askd d c:=gE.1 (by simpa using h)
 have ha:=yz hA
 rw [ha]
 have hN:=hA.nar
 have hall:=hA.outs.out
 refine ⟨Sn _ _,fun h2=> ⟨fun _=> ?_,fun h3=> ?_⟩⟩
 ·exact Sq hN.good.right hN.good.orders hall
 ·rcases wx d (ap c) with ⟨_,e⟩ | ⟨_,_,e⟩ | ⟨_,_,_,e⟩ | ⟨_,_,gs,_,_,e⟩ | ⟨_,_,gs,hP,e⟩
  ·rw [e] at h3;cases h3
  ·rw [e] at h3;cases h3
  ·rw [e] at h3;cases h3
  ·rw [e] at h3;cases h3
  ·rw [e]
   exact (yx hP.good.orders).2
theorem qg (d : District) (c : List Claim) : bC d c:=Bn d c
theorem Bo (d : District) (c : List Claim) : eS d c:=Bn d c
theorem Qz {f : Fault} (h : f.kind≠0) (e : Int) : ((e==0) && ((f.kind==0) && ((f.hour==0) && ((f.index==0) && ((f.litres==0) && (f.limit==0))))))=false:=by
 have : (f.kind==0)=false:=by simpa using h
 rw [this,Bool.false_and,Bool.and_false]
structure Made (d : District) (c : List Claim) (l : List Order) : Prop where
 ask : Askd d c
 plan : ∃ gs,PL d (ap c) gs∧l=srt ax (ap c ++ gs)
 lim : Lim d l
theorem Kw (d : District) (c : List Claim) (h : (aj d c).2.2=0) (h2 : (aj d c).2.1=true) : Made d c (aj d c).1:=by
 rcases wM d c with ⟨_,h1,e⟩ | ⟨_,_,e⟩ | ⟨hA,_,hl,e⟩ | ⟨hA,gs,hP,_,f,hf,e⟩ | ⟨hA,gs,hP,hL,e⟩
 ·unfold aj at h;rw [e] at h;exact absurd h h1
 ·unfold aj at h;rw [e] at h;cases h
 ·unfold aj at h2
  rw [e] at h2
  have hN:=hA.nar
  have:=(rt hN.good.right hN.good.orders hA.outs.out).choose_spec.2.2.2 _ (GO hl)
  rw [Qz (by rw [this];decide)] at h2;cases h2
 ·unfold aj at h2
  rw [e] at h2
  rw [Qz (C5 f hf).1] at h2;cases h2
 ·have e1 : (aj d c).1=srt ax (ap c ++ gs) :=by unfold aj;rw [e]
  rw [e1]
  exact ⟨hA,⟨gs,hP,rfl⟩,hL⟩
end
end Go.Sx
end
section
namespace Go.Sx
open Go.Proofs
section
variable {d : District} {c : List Claim} {l : List Order}
structure Srv (d : District) (c : List Claim) (l : List Order) : Prop where
 kp : Keeps d l
 wide : (d.reaches.length : Int) * d.hours≤1024
 lim : Lim d l
 met : ∀ f h : Int,pn c f h≤bV (wA f h) l
theorem Bp {f h : Int} {x y : Order} (hx : wA f h x=true) (hy : wA f h y=true) : K x y:=by
 unfold wA at hx hy
 simp only [Bool.and_eq_true,beq_iff_eq] at hx hy
 exact ⟨by rw [hx.2,hy.2],by rw [hx.1.2,hy.1.2],by rw [hx.1.1,hy.1.1]⟩
theorem GP {x : Order} (h : x.outlet=true) : wA x.index x.hour x=true:=by unfold wA;rw [h];simp
theorem Po (hk : l.Pairwise fun x y=> ¬ K x y) {x : Order} (hx : x∈l) (h : x.outlet=true) : bV (wA x.index x.hour) l=x.litres:=
 mj hk (fun _ _ h1 h2=> Bp h1 h2) hx (GP h)
theorem Kx (hA : Askd d c) {gs : List Order} {x : Order} : x∈srt ax (ap c ++ gs)↔x∈ap c∨x∈gs:=by
 rw [(ni _).mem_iff,List.mem_append]
theorem Ky (h : Made d c l) : Srv d c l:=by
 obtain ⟨hA,⟨gs,hP,rfl⟩,hL⟩ :=h
 have hN:=hA.nar
 have ho:=hA.outs
 refine ⟨CZ hN.good ho.out hP,hA.wide,hL,fun f t=> ?_⟩
 by_cases h0 : pn c f t=0
 ·rw [h0];exact Ft fun x hx=> by have:=(hP.good.one x hx).litres1;omega
 ·obtain ⟨x,hx,rfl,rfl⟩ :=ho.all f t h0
  rw [Po hP.good.keys ((Kx hA).2 (.inl hx)) (ho.out x hx),(ho.lit x hx).1]
  exact Int.le_refl _
theorem Srv.dom (h : Srv d c l) (hc : aZ d c=0) : ∀ x∈ap c,∃ z∈l,K z x∧x.litres≤z.litres:=fun x hx=> by
 have ho:=outs (uR hc)
 have h1:=ho.lit x hx
 have h2:=h.met x.index x.hour
 obtain ⟨z,hz,hp⟩ :=uO (p:=wA x.index x.hour) (l:=l) (by omega)
 have e : bV (wA x.index x.hour) l=z.litres:=mj h.kp.good.keys (fun _ _ h1 h2=> Bp h1 h2) hz hp
 refine ⟨z,hz,?_,by omega⟩
 unfold wA at hp
 simp only [Bool.and_eq_true,beq_iff_eq] at hp
 exact ⟨hp.2,hp.1.2,by rw [hp.1.1,ho.out x hx]⟩
theorem Srv.ask (h : Srv d c l) (hc : aZ d c=0) : Askd d c:=by
 refine ⟨hc,h.wide,fun x hx=> ?_⟩
 obtain ⟨z,hz,_,hl⟩ :=h.dom hc x hx
 have:=(h.kp.good.one z hz).litres
 omega
theorem FD (r a b : Int) (x y : Order) (hk : K x y) : cI r a b x=cI r a b y:=by
 unfold cI
 rw [hk.1,hk.2.1,hk.2.2]
theorem Wa (x y : Order) (hk : K x y) : g0P x=g0P y:=by
 unfold g0P
 rw [hk.2.1,hk.2.2]
theorem Pp {m : List Order} (hm : Good d m) (hl : Good d l) (h : ∀ x∈m,∃ z∈l,K z x∧x.litres≤z.litres) (hL : Lim d l) : Lim d m:=by
 have key : ∀ P : Order→Bool,(∀ x y,K x y→P x=P y)→bV P m≤bV P l:=fun P hP=>
  ph hP m l hm.keys (fun x hx _=> h x hx) fun z hz=> by have:=(hl.one z hz).litres1;omega
 exact ⟨fun t i ht hi=> Int.le_trans (key _ (FD _ _ _)) (hL.cap t i ht hi),fun t i ht hi=> Int.le_trans (key _ (FD _ _ _)) (hL.bank t i ht hi),Int.le_trans (key _ Wa) hL.tank⟩
theorem GQ (h : Srv d c l) (hc : aZ d c=0) :
  (aj d c).2.2=0∧(aj d c).2.1=true∧∀ x∈(aj d c).1,∃ z∈l,K z x∧x.litres≤z.litres:=by
 have hA:=h.ask hc
 have hN:=hA.nar
 have ho:=hA.outs
 have hdom:=h.dom hc
 have hfin : ∀ gs,PFin d (ap c) gs→∀ x∈ap c ++ gs,∃ z∈l,K z x∧x.litres≤z.litres:=fun gs hP x hx=> by
  rcases List.mem_append.1 hx with hx | hx
  ·exact hdom x hx
  ·exact ym hN.good.right (pg hN.good ho.out hP) hP.gate hdom h.kp d.reaches.length x hx (by have:=(hP.gate x hx).i0;omega)
 have hall : ∀ gs,PL d (ap c) gs→∀ x∈srt ax (ap c ++ gs),∃ z∈l,K z x∧x.litres≤z.litres:=fun gs hP x hx=> hfin gs hP.fin x ((ni _).mem_iff.1 hx)
 rcases wM d c with ⟨q,_⟩ | ⟨_,⟨gs,hF,hlen⟩,_⟩ | ⟨_,⟨gs,r,t,hx⟩,_⟩ | ⟨_,gs,hP,hL,_⟩ | ⟨_,gs,hP,hL,e⟩
 ·exact absurd hA q
 ·have:=wy _ l (pg hN.good ho.out hF) fun x hx=> by
   obtain ⟨z,hz,hk,_⟩ :=hfin gs hF x hx
   exact ⟨z,hz,hk⟩
  have:=h.kp.good.len
  omega
 ·exact (Pe hN.good ho.out hx hdom h.kp).elim
 ·exact absurd (Pp hP.good h.kp.good (hall gs hP) h.lim) hL
 ·have e1 : aj d c=(srt ax (ap c ++ gs),true,0) :=by unfold aj;rw [e];rfl
  rw [e1]
  exact ⟨rfl,rfl,hall gs hP⟩
end
end Go.Sx
end
section
namespace Go.Sx
open Go.Proofs
section
variable {d : District} {c : List Claim} {l : List Order}
end
end Go.Sx
end
section
namespace Go.Proofs
open Go.Shelf
def Tryz.sortLc_ren : Go.Shelf.Ren:=⟨fun | 6=> 67 | 15=> 112 | 14=> 111 | 28=> 146 | 29=> 147 | 20=> 138 | 21=> 139 | 22=> 140 | 23=> 141 | 24=> 142 | 25=> 143 | 26=> 144 | 27=> 145 | 46=> 166 | 47=> 167 | 48=> 168 | 49=> 169 | 50=> 170 | 57=> 182 | n=> n,fun | 22=> 32 | 24=> 49 | 25=> 80 | 3=> 3 | 39=> 166 | 0=> 0 | 53=> 202 | 55=> 204 | 4=> 4 | 46=> 196 | 45=> 195 | 50=> 147 | 5=> 5 | 9=> 9 | 66=> 215 | 70=> 219 | 76=> 227 | 77=> 228 | n=> n,fun | n=> n⟩
theorem Tryz.sortLc : Go.Proofs.SlLaysF0.n6 Tryz.prog Tryz.sortLc_ren:= {
 mixed:=by kernel_rfl
 f6:=⟨Tryz.f67.name,by decide,Tryz.func67.trans (congrArg some (by kernel_rfl))⟩
 f14:=⟨Tryz.f111.name,by decide,Tryz.func111.trans (congrArg some (by kernel_rfl))⟩
 f15:=Tryz.func112.trans (congrArg some (by kernel_rfl))
 f20:=⟨Tryz.f138.name,by decide,Tryz.func138.trans (congrArg some (by kernel_rfl))⟩
 f21:=⟨Tryz.f139.name,by decide,Tryz.func139.trans (congrArg some (by kernel_rfl))⟩
 f22:=⟨Tryz.f140.name,by decide,Tryz.func140.trans (congrArg some (by kernel_rfl))⟩
 f23:=⟨Tryz.f141.name,by decide,Tryz.func141.trans (congrArg some (by kernel_rfl))⟩
 f24:=⟨Tryz.f142.name,by decide,Tryz.func142.trans (congrArg some (by kernel_rfl))⟩
 f25:=⟨Tryz.f143.name,by decide,Tryz.func143.trans (congrArg some (by kernel_rfl))⟩
 f26:=⟨Tryz.f144.name,by decide,Tryz.func144.trans (congrArg some (by kernel_rfl))⟩
 f27:=⟨Tryz.f145.name,by decide,Tryz.func145.trans (congrArg some (by kernel_rfl))⟩
 f28:=Tryz.func146.trans (congrArg some (by kernel_rfl))
 f29:=Tryz.func147.trans (congrArg some (by kernel_rfl))
 f46:=⟨Tryz.f166.name,by decide,Tryz.func166.trans (congrArg some (by kernel_rfl))⟩
 f47:=Tryz.func167.trans (congrArg some (by kernel_rfl))
 f48:=Tryz.func168.trans (congrArg some (by kernel_rfl))
 f49:=⟨Tryz.f169.name,by decide,Tryz.func169.trans (congrArg some (by kernel_rfl))⟩
 f50:=⟨Tryz.f170.name,by decide,Tryz.func170.trans (congrArg some (by kernel_rfl))⟩
 f57:=⟨Tryz.f182.name,by decide,Tryz.func182.trans (congrArg some (by kernel_rfl))⟩
 t0:=Tryz.underlying0
 a0:=Tryz.isAgg0
 z0:=Tryz.sizeOf0
 v0:=Tryz.zeroValue0
 t3:=Tryz.underlying3
 a3:=Tryz.isAgg3
 z3:=Tryz.sizeOf3
 v3:=Tryz.zeroValue3
 t4:=Tryz.underlying4
 a4:=Tryz.isAgg4
 z4:=Tryz.sizeOf4
 v4:=Tryz.zeroValue4
 t5:=Tryz.underlying5
 a5:=Tryz.isAgg5
 z5:=Tryz.sizeOf5
 v5:=Tryz.zeroValue5
 t9:=Tryz.underlying9
 a9:=Tryz.isAgg9
 z9:=Tryz.sizeOf9
 v9:=Tryz.zeroValue9
 t22:=Tryz.underlying32
 a22:=Tryz.isAgg32
 z22:=Tryz.sizeOf32
 v22:=Tryz.zeroValue32
 t25:=Tryz.underlying80
 a25:=Tryz.isAgg80
 z25:=Tryz.sizeOf80
 v25:=Tryz.zeroValue80
 t39:=Tryz.underlying166
 a39:=Tryz.isAgg166
 z39:=Tryz.sizeOf166
 v39:=Tryz.zeroValue166
 t45:=Tryz.underlying195
 a45:=Tryz.isAgg195
 z45:=Tryz.sizeOf195
 v45:=Tryz.zeroValue195
 t46:=Tryz.underlying196
 a46:=Tryz.isAgg196
 z46:=Tryz.sizeOf196
 v46:=Tryz.zeroValue196
 t50:=Tryz.underlying147
 a50:=Tryz.isAgg147
 z50:=Tryz.sizeOf147
 v50:=Tryz.zeroValue147
 t53:=Tryz.underlying202
 a53:=Tryz.isAgg202
 z53:=Tryz.sizeOf202
 v53:=Tryz.zeroValue202
 t55:=Tryz.underlying204
 a55:=Tryz.isAgg204
 z55:=Tryz.sizeOf204
 v55:=Tryz.zeroValue204
 t66:=Tryz.underlying215
 a66:=Tryz.isAgg215
 z66:=Tryz.sizeOf215
 v66:=Tryz.zeroValue215
 t70:=Tryz.underlying219
 a70:=Tryz.isAgg219
 z70:=Tryz.sizeOf219
 v70:=Tryz.zeroValue219
 t76:=Tryz.underlying227
 a76:=Tryz.isAgg227
 z76:=Tryz.sizeOf227
 v76:=Tryz.zeroValue227
 t77:=Tryz.underlying228
 a77:=Tryz.isAgg228
 z77:=Tryz.sizeOf228
 v77:=Tryz.zeroValue228}
end Go.Proofs
end
section
namespace Go.Sx
open Go.RowKit Go.Shelf Go.Lib Go.Sort Go.Proofs
set_option maxRecDepth 100000
noncomputable def gj : List SV→List Ob→Option HCon:=fun l h=> orC (ed .claim 36 [] bq l h) (ed .claim 71 [] bj l h)
@[go_sem] theorem Kz {l0 : List Claim} : gj [.os 0,.fn 36 [] []] [.row .claim l0]=some (nG (apart bq l0) (.tup []) [.row .claim (srt bq l0)]) :=by
 unfold gj
 rw [jP];rfl
@[go_sem] theorem GZ {l0 : List Claim} : gj [.os 0,.fn 71 [] []] [.row .claim l0]=some (nG (apart bj l0) (.tup []) [.row .claim (srt bj l0)]) :=by
 unfold gj
 rw [jP]
 have : ed .claim 36 [] bq [.os 0,.fn 71 [] []] [.row .claim l0]=none:=by simp [ed,v_]
 rw [this];rfl
theorem ue : wp .claim:=fun x s hs=> by
 simp only [cellsOf,List.mem_cons,List.not_mem_nil,or_false] at hs
 rcases hs with rfl | rfl | rfl | rfl | rfl
 all_goals exact ⟨_,rfl,rfl⟩
theorem wN (x y : Claim) : ij (.agg (cellsOf .claim x) :: .agg (cellsOf .claim y) :: [])=some (.det True (.v (.int .i64 (bq x y)))) :=by
 simp only [go_sem,Nat.reduceBEq]
theorem uf (x y : Claim) : jk (.agg (cellsOf .claim x) :: .agg (cellsOf .claim y) :: [])=some (.det True (.v (.int .i64 (bj x y)))) :=by
 simp only [go_sem,Nat.reduceBEq]
theorem sK : FnOkO Tryz.prog 67 gj:=by
 refine FnOkO.or ?_ ?_
 ·exact mh (k:= .claim) Tryz.sortLc (fun w=> by kernel_rfl) (fun w=> by kernel_rfl) ue (by decide) (g:=36) (caps:=[]) kD (cf:=bq) wN rg (fun s hs=> by cases hs) ⟨default,default,wN _ _⟩
 ·exact mh (k:= .claim) Tryz.sortLc (fun w=> by kernel_rfl) (fun w=> by kernel_rfl) ue (by decide) (g:=71) (caps:=[]) nL (cf:=bj) uf j6 (fun s hs=> by cases hs) ⟨default,default,uf _ _⟩
end Go.Sx
end
section
namespace Go.Sx
open Go.Proofs
set_option maxRecDepth 100000
set_option linter.unusedSimpArgs false
theorem wO {p : Prop} (h : p:=by (first | done | (repeat' (first | with_reducible refine And.intro ?_ ?_ | ((with_reducible show _≠_);first | assumption | omega | (simp_all [aG,aM];done) | grind) | with_reducible intro _)) <;> (first | done | exact Empty.elim ‹Empty› | assumption | rfl | omega | decide | exact fk [0] | (refine Or.inr ?_;exact fkY [0]) | (refine Or.inl ?_;exact fkY [0]) | (refine Or.inl ⟨rfl,?_⟩;exact fkY [0]) | (simp only [*,cond_true,cond_false,Bool.not_true,Bool.not_false,go_sem,Nat.reduceBEq,Nat.reduceLeDiff,Nat.reduceLT,decide_true,Nat.reduceAdd,Nat.reduceSub,Nat.reduceMul,Int.reduceLE,Int.reduceLT,Int.reduceToNat,Int.reduceNeg,reduceCtorEq];done) | (simp only [*,cond_true,cond_false,Bool.not_true,Bool.not_false,go_sem,Nat.reduceBEq,Nat.reduceLeDiff,Nat.reduceLT,decide_true,Nat.reduceAdd,Nat.reduceSub,Nat.reduceMul,Int.reduceLE,Int.reduceLT,Int.reduceToNat,Int.reduceNeg,reduceCtorEq];(repeat' (first | with_reducible refine And.intro ?_ ?_ | ((with_reducible show _≠_);first | assumption | omega | (simp_all [aG,aM];done) | grind) | with_reducible intro _)) <;> (first | done | assumption | rfl | omega | decide | exact fk [0] | (refine Or.inr ?_;exact fkY [0]) | (refine Or.inl ?_;exact fkY [0]) | (refine Or.inl ⟨rfl,?_⟩;exact fkY [0]) | (simp_all [aG,aM];done))) | (exfalso;rename_i h1 h2;rw [h1] at h2;cases h2) | (exfalso;rename_i h1 h2;simp only [h1,Bool.not_false,Bool.not_true,Bool.true_or,Bool.or_true,Bool.false_or,Bool.or_false,reduceCtorEq] at h2;done) | (exfalso;clear hy hG;simp_all;done) | (simp only [*,Sum.inr.injEq,forall_eq',true_implies,forall_const,reduceCtorEq,false_implies,and_true,List.length_append,List.length_cons,List.length_nil,Nat.zero_add,go_sem,Nat.reduceBEq,Nat.reduceLeDiff,Nat.reduceLT,decide_true,Nat.reduceAdd,Nat.reduceSub,Nat.reduceMul,Int.reduceLE,Int.reduceLT,Int.reduceToNat,Int.reduceNeg,reduceCtorEq] at hq2;first | exact hq2.1 | exact hq2.2.1 | exact hq2 | exact hq2.2 | (simp only [hq2];done)) | (simp only [*,Sum.inr.injEq,forall_eq',true_implies,forall_const,reduceCtorEq,false_implies,and_true,List.length_append,List.length_cons,List.length_nil,Nat.zero_add,go_sem,Nat.reduceBEq,Nat.reduceLeDiff,Nat.reduceLT,decide_true,Nat.reduceAdd,Nat.reduceSub,Nat.reduceMul,Int.reduceLE,Int.reduceLT,Int.reduceToNat,Int.reduceNeg,reduceCtorEq] at hq1;first | exact hq1.1 | exact hq1.2.1 | exact hq1 | exact hq1.2 | (simp only [hq1];done)) | (clear hy hG;simp_all only [aG,aM,Sum.inr.injEq,forall_eq',true_implies,forall_const,reduceCtorEq,false_implies,and_true,List.length_append,List.length_cons,List.length_nil,Nat.zero_add,go_sem,Nat.reduceBEq,Nat.reduceLeDiff,Nat.reduceLT,decide_true,Nat.reduceAdd,Nat.reduceSub,Nat.reduceMul,Int.reduceLE,Int.reduceLT,Int.reduceToNat,Int.reduceNeg,reduceCtorEq];done) | (simp_all [okI,aG,aM];done) | (simp_all [aG,aM];(first | done | exact fk2 [0])) | exact fk2 [0]))) : p:=h
theorem KA {p : Prop} (h : p:=by simp only [go_sem,Nat.reduceBEq,Nat.reduceLeDiff,Nat.reduceLT,decide_true,Nat.reduceAdd,Nat.reduceSub,Nat.reduceMul,Int.reduceLE,Int.reduceLT,Int.reduceToNat,Int.reduceNeg,reduceCtorEq,hc,hw];all_goals exact wO) : p:=h
theorem KB {p : Prop} (h : p:=by simp only [go_sem,Nat.reduceBEq,Nat.reduceLeDiff,Nat.reduceLT,decide_true,Nat.reduceAdd,Nat.reduceSub,Nat.reduceMul,Int.reduceLE,Int.reduceLT,Int.reduceToNat,Int.reduceNeg,reduceCtorEq,hc];all_goals exact wO) : p:=h
@[go_sem] def wP (x : Claim) : List SV:=[.agg (cellsOf .claim x)]
@[go_sem] def cV : List SV→Option Con:=(pR .claim fun s_=> (pE (.det True (.fn 68 [] [.ep [.rs .claim s_] 0]))))
theorem ei : FnOk Tryz.prog 35 cV:=by
 have hG : ConsOk Tryz.prog (mkG [] []) :=aQ cg0 cg0
 refine a8 [.o] mixed aH hG (fn:=Tryz.f35) (c:=an Tryz.f35) (by kernel_rfl) (by kernel_rfl) (by kernel_rfl) (by kernel_rfl) (dl fun s_=> (aN (fun hp=> ?_)))
 refine ⟨Nat.le_of_ble_eq_true rfl,L0,ay _,?_⟩
 unfold an Tryz.f35
 simp only [go_sem,sA,sB,Nat.reduceBEq,Nat.reduceLeDiff,Nat.reduceAdd,Nat.reduceSub,Nat.reduceMul]
@[go_sem] def bw (s_ : List Claim) (k_0 : Nat) (s_0 : List Claim) : Empty⊕(List Claim) := .inr (s_0 ++ [(s_.getD k_0 (default : Claim))])
def bQ (s_ : List Claim) (items_ : List (List SV)) (k_0 : Nat) (s_0 : List Claim) : Prop:=(items_[s_0.length]? =some (wP (s_.getD k_0 (default : Claim))))
def d7 (s_ : List Claim) (items_ : List (List SV)) : Prop:=(s_.length≤bg→(okI (bw s_) (bQ s_ items_) s_.length 0 ([] : List Claim)∧(∀ s_0,az (bw s_) s_.length 0 ([] : List Claim)= .inr s_0→(items_.length=s_0.length))))
set_option maxHeartbeats 4000000 in
theorem gm (s_ : List Claim) (items_ : List (List SV)) (hp : d7 s_ items_) : xg Tryz.prog 68 (fun y=> [y,.ep [.rs .claim s_] 0]) [] items_:=by
 unfold d7 at hp
 refine CW mixed aH (fn:=Tryz.f68) (c:=an Tryz.f68) (by kernel_rfl) (by kernel_rfl) (by kernel_rfl) (by kernel_rfl) rfl (n:=0) rfl (G:=fun r_=> uo [] [] (A2 items_ r_)) (fun r_ hy=> ?_) (fun args w=> by kernel_rfl)
 have hG : ConsOk Tryz.prog (uo [] [] (A2 items_ r_)) :=r9 cg0 cg0 hy
 refine ⟨hG,Nat.le_of_ble_eq_true rfl,(fun id st=> bif Nat.beq id 0 then some (LCY (ρ:=Empty) (σ:=(List Claim)) 1 [] [0] (fun k_0 s_0=> ⟨[(0,.os 0),(5,.rs .claim s_),(6,.v (.int .i64 (s_.length : Int))),(7,.v (.int .i64 (k_0 : Int)))],[.ab (r_.1 (s_0.length + 1))]⟩) (bw s_) (bQ s_ items_) s_.length ([] : List Claim) (s_.length≤bg) ((·.elim)) ((·.elim)) ⟨[],[.ab (r_.1 0)]⟩ st) else none),?_,?_⟩
 ·unfold an Tryz.f68
  simp only [aA,true_and,and_true]
  ·refine sw mixed aH hG (by kernel_rfl) (fun _=> rfl) (s_.length : Int) rfl kQ (fun hb0 k_0 s_0 hlt0 hq0 hw hc=> ⟨L0,ay _,?_⟩) (fun hb0 s_0 hc=> ?_)
   ·unfold bQ at hq0
    try simp only [hw,Int.toNat_natCast] at hq0
    exact KA
   ·exact KB
 ·unfold an Tryz.f68
  simp only [go_sem,Nat.reduceBEq,Nat.reduceLeDiff,Nat.reduceLT,decide_true,Nat.reduceAdd,Nat.reduceSub,Nat.reduceMul,Int.reduceLE,Int.reduceLT,Int.reduceToNat,Int.reduceNeg,reduceCtorEq]
  all_goals exact wO
end Go.Sx
end
section
namespace Go.Sx
open Go.Proofs
set_option maxRecDepth 100000
noncomputable def gT : List SV→Option Con:=pQ (.v (.slice none 0 0)) (pFn 68 (pXR .claim fun c=> pE fun l=> (pE (.det (c.length * 40≤dY) (.nw .claim c))) l))
def nO : List Claim→List Ob
 | [] => [.cells [.v (.slice none 0 0)]]
 | x :: l=> [.cells [.os 1],.row .claim (x :: l)]
def ug (x : Claim) (l : List Claim) : Empty⊕List Claim:= .inr (l ++ [x])
theorem wQ : ∀ (l m : List Claim),cq ug l m= .inr (m ++ l)
 | [],m=> by simp [cq]
 | x :: l,m=> by simp only [cq,ug];rw [wQ l];simp
theorem yA {B : Nat} : ∀ (l m : List Claim),m.length + l.length≤B→okL ug (fun _ s=> s.length + 1≤B) l m
 | [],_,_=> trivial
 | x :: l,m,h=> ⟨by simp at h;omega,fun s' hs=> by
  simp only [ug,Sum.inr.injEq] at hs
  subst hs
  exact yA l _ (by simp at h ⊢;omega)⟩
theorem GR (c : List Claim) : xg Tryz.prog 68 (fun y=> [y,.ep [.rs .claim c] 0]) [] (c.map wP) :=by
 refine gm c _ fun _=> ⟨?_,fun s hs=> ?_⟩
 ·refine hY (fun k (s : List Claim) => s.length=k) _ _ _ rfl fun j s _ hj hs=> ⟨?_,fun s' e=> ?_⟩
  ·unfold bQ
   rw [hs,List.getElem?_map,List.getElem?_eq_getElem (by omega),List.getD_eq_getElem?_getD,List.getElem?_eq_getElem (by omega)]
   rfl
  ·unfold bw at e
   cases e
   rw [List.length_append,hs];rfl
 ·have:=vZ (fun k (s : List Claim) => s.length=k) c.length 0 [] (by rfl) (fun j s _ _ hs s' e=> by
   unfold bw at e
   cases e
   rw [List.length_append,hs];rfl) s hs
  rw [List.length_map,this,Nat.zero_add]
set_option maxHeartbeats 1000000 in
theorem pt : FnOk Tryz.prog 110 gT:=by
 have hG : ConsOk Tryz.prog (mkG [] []) :=aQ cg0 cg0
 refine wr [(.tmp 4,.claim)] mixed aH hG (fn:=Tryz.f110) (c:=an Tryz.f110) (by kernel_rfl) (by kernel_rfl) (by kernel_rfl) (by kernel_rfl) (Sj (iK (sa fun c=> (aN (aN (fun hp=> ?_))))))
 dsimp only [aT] at hp
 refine ⟨Nat.le_of_ble_eq_true rfl,fun id st=> bif Nat.beq id 0 then some (LC (ρ:=Empty) (σ:=List Claim) (lk 2 st.t= .ptr 0 0∧lk 6 st.t= .fn 68 [] [.ep [.rs .claim c] 0]∧st.h=[.cells [.v (.slice none 0 0)]]) (cq ug c []) (·.elim) (·.elim) (fun s=> ⟨[(2,.ptr 0 0)],nO s⟩)) else none,?_,?_⟩
 ·unfold an Tryz.f110
  simp only [aA,true_and,and_true]
  refine mT mixed aH hG (by decide) (by decide) (by kernel_rfl) (by kernel_rfl) fun st lc hC hp=> ?_
  simp only [go_sem,Nat.reduceBEq,Option.some.injEq] at hC
  subst hC
  obtain ⟨t,h⟩ :=st
  dsimp only [LC] at hp
  obtain ⟨e2,e6,rfl⟩ :=hp
  refine ⟨68,[.ep [.rs .claim c] 0],Claim,_,_,c,wP,ug,fun _ s=> s.length + 1≤c.length,_,[],_,_,_,[(2,.ptr 0 0)],nO,(·.elim),[0],?_,rfl,yA _ _ (by simp),Nat.le_of_ble_eq_true rfl,?_,?_,fun x s hq=> ⟨rfl,L0,fun l=> ay _,fun l=> ay _,?_⟩,fun s=> ?_,fun y=> y.elim⟩
  ·simp only [go_sem,e6]
  ·simp only [go_sem,nU,iI,List.flatMap_cons,List.flatMap_nil,List.nil_append,List.append_nil,List.map_nil,nO,e2,Nat.reduceBEq,Nat.reduceLeDiff,Nat.reduceAdd]
   all_goals (first | done | decide | (repeat' (first | refine And.intro ?_ ?_ | rfl | decide)))
  ·exact GR c
  ·have hb : (s ++ [x]).length * 40≤dY:=by simp;omega
   cases s with
   | nil=>
    simp only [go_sem,psT,wP,nO,ug,List.cons_append,List.nil_append,Nat.reduceBEq,Nat.reduceLeDiff,Nat.reduceAdd,Nat.reduceSub,Nat.reduceMul]
    exact ⟨by simpa using hb,fun _=> fk [0,3]⟩
   | cons a m=>
    simp only [go_sem,psT,wP,nO,ug,List.cons_append,List.nil_append,Nat.reduceBEq,Nat.reduceLeDiff,Nat.reduceAdd,Nat.reduceSub,Nat.reduceMul]
    exact ⟨by simpa using hb,fun _=> fk [0,4]⟩
  ·cases s with
   | nil=> simp only [nO];exact fk [0]
   | cons a m=> simp only [nO];exact fk [0,1]
 ·unfold an Tryz.f110
  simp only [go_sem,Nat.reduceBEq,Nat.reduceLeDiff,Nat.reduceAdd,Nat.reduceSub,Nat.reduceMul,wQ,List.nil_append]
  refine ⟨fun y=> y.elim,fun s hs=> ?_⟩
  cases hs
  cases c with
  | nil=> simp only [go_sem,nO,Nat.reduceLT,decide_true,Nat.reduceBEq,Nat.reduceLeDiff,Nat.reduceAdd,Nat.reduceSub,Nat.reduceMul]
  | cons x l=> simp only [go_sem,nO,Nat.reduceLT,decide_true,Nat.reduceBEq,Nat.reduceLeDiff,Nat.reduceAdd,Nat.reduceSub,Nat.reduceMul]
attribute [go_sem] gT
end Go.Sx
end
section
namespace Go.Sx
open Go.Proofs
set_option maxRecDepth 100000
set_option linter.unusedSimpArgs false
def co (c : List Claim) : List Claim:=c
def b_ (c : List Claim) : Prop:=(c.length * 40≤dY)
@[go_sem] noncomputable def eC : List SV→Option Con:=(pFn 68 (pXR .claim fun c=> (pE ((pE (.det (b_ c) (.nw .claim (co c))))))))
theorem f5 : FnOk Tryz.prog 66 eC:=by
 have hG : ConsOk Tryz.prog (mkG [(110,gT)] []) :=aQ (cgc pt cg0) cg0
 refine qW true mixed aH hG (fn:=Tryz.f66) (c:=an Tryz.f66) (by kernel_rfl) (by kernel_rfl) (by kernel_rfl) (by kernel_rfl) (iK (sa fun c=> (aN ((aN (fun hp=> ?_))))))
 dsimp only [aT] at hp
 unfold b_ at hp
 refine ⟨Nat.le_of_ble_eq_true rfl,L0,ay _,?_⟩
 ·unfold an Tryz.f66
  try unfold co
  simp only [go_sem,Nat.reduceBEq,Nat.reduceLeDiff,Nat.reduceLT,decide_true,Nat.reduceAdd,Nat.reduceSub,Nat.reduceMul,Int.reduceLE,Int.reduceLT,Int.reduceToNat,Int.reduceNeg,reduceCtorEq]
  all_goals exact cl
end Go.Sx
end
section
namespace Go.Sx
open Go.Proofs
set_option maxRecDepth 100000
set_option linter.unusedSimpArgs false
def ag (c : List Claim) : List Claim:=(srt bq (co c))
def dW (c : List Claim) : Prop:=((b_ c)∧(apart bq (co c)))
@[go_sem] noncomputable def fu : List SV→Option Con:=(pFn 68 (pXR .claim fun c=> (pE ((pFn 36 (pE ((pE (.det (dW c) (.nw .claim (ag c)))))))))))
theorem jD : FnOk Tryz.prog 34 fu:=by
 have hG : ConsOk Tryz.prog (mkG [(66,eC)] [(67,gj)]) :=aQ (cgc f5 cg0) (cgc sK cg0)
 refine qW true mixed aH hG (fn:=Tryz.f34) (c:=an Tryz.f34) (by kernel_rfl) (by kernel_rfl) (by kernel_rfl) (by kernel_rfl) (iK (sa fun c=> (aN ((iK (aN ((aN (fun hp=> ?_)))))))))
 dsimp only [aT] at hp
 unfold dW at hp
 refine ⟨Nat.le_of_ble_eq_true rfl,L0,ay _,?_⟩
 ·unfold an Tryz.f34
  try unfold ag
  simp only [go_sem,Nat.reduceBEq,Nat.reduceLeDiff,Nat.reduceLT,decide_true,Nat.reduceAdd,Nat.reduceSub,Nat.reduceMul,Int.reduceLE,Int.reduceLT,Int.reduceToNat,Int.reduceNeg,reduceCtorEq]
  all_goals exact cl
def dX (c : List Claim) : List Claim:=(srt bj (co c))
def dE (c : List Claim) : Prop:=((b_ c)∧(apart bj (co c)))
@[go_sem] noncomputable def eX : List SV→Option Con:=(pFn 68 (pXR .claim fun c=> (pE ((pFn 71 (pE ((pE (.det (dE c) (.nw .claim (dX c)))))))))))
theorem i_ : FnOk Tryz.prog 34 eX:=by
 have hG : ConsOk Tryz.prog (mkG [(66,eC)] [(67,gj)]) :=aQ (cgc f5 cg0) (cgc sK cg0)
 refine qW true mixed aH hG (fn:=Tryz.f34) (c:=an Tryz.f34) (by kernel_rfl) (by kernel_rfl) (by kernel_rfl) (by kernel_rfl) (iK (sa fun c=> (aN ((iK (aN ((aN (fun hp=> ?_)))))))))
 dsimp only [aT] at hp
 unfold dE at hp
 refine ⟨Nat.le_of_ble_eq_true rfl,L0,ay _,?_⟩
 ·unfold an Tryz.f34
  try unfold dX
  simp only [go_sem,Nat.reduceBEq,Nat.reduceLeDiff,Nat.reduceLT,decide_true,Nat.reduceAdd,Nat.reduceSub,Nat.reduceMul,Int.reduceLE,Int.reduceLT,Int.reduceToNat,Int.reduceNeg,reduceCtorEq]
  all_goals exact cl
noncomputable def ca : List SV→Option Con:=fun l=> orC (fu l) (eX l)
theorem eY : FnOk Tryz.prog 34 ca:=FnOk.or jD i_
end Go.Sx
end
section
namespace Go.Sx
open Go.RowKit
def GS (n0 id : Nat) : Ob→SV
 | .row k l=> bif Nat.ble n0 id then .rs k l else .any
 | _=> .any
def isV : SV→Bool
 | .v _=> true
 | _=> false
def tI (n0 : Nat) (h : List Ob) : SV→SV
 | .v x=> .v x
 | .rs k l=> .rs k l
 | .agg l=> bif l.all isV then .agg l else .any
 | .os id=> GS n0 id (ar h id)
 | _=> .any
def xu (n0 : Nat) (h : List Ob) : SV→SV
 | .tup l=> .tup (l.map (tI n0 h))
 | s=> tI n0 h s
def Bq (n0 : Nat) (own : Own) : Own:=fun i=> if i < n0 then own i else none
section
variable {F : Nat→Prop} {own : Own} {w : World} {n0 : Nat} {h : List Ob}
theorem sL {b : Nat} (hb : ¬ bE F own b) : ¬ bE F (Bq n0 own) b:=by
 rintro (hf | ⟨id,hd,e,hm⟩)
 ·exact hb (.inl hf)
 ·unfold Bq at e
  split at e
  ·exact hb (.inr ⟨id,hd,e,hm⟩)
  ·cases e
theorem Br (hp : Hp F own w h) : ∀ (s : SV) (v : Value),Rel F own w s v→Rel F (Bq n0 own) w (tI n0 h s) v:=by
 intro s v hr
 cases s with
 | v x=> exact hr.over (.v x) fun b hb=> sL hb
 | rs k l=> exact hr.over .rs fun b hb=> sL hb
 | agg l=>
  simp only [tI]
  cases ha : l.all isV with
  | false=> exact .any _
  | true=>
   refine hr.over (.agg fun j s hj=> ?_) fun b hb=> sL hb
   have:=List.all_eq_true.1 ha s (List.mem_of_getElem? hj)
   cases s <;> first | exact .v _ | cases this
 | os id=>
  obtain ⟨hd,h1,rfl,h2⟩ :=gM hr
  simp only [tI]
  cases ho : ar h id with
  | row k l=>
   simp only [GS]
   cases hn : Nat.ble n0 id with
   | false=> exact .any _
   | true=>
    have hn':=Nat.le_of_ble_eq_true hn
    obtain ⟨hd',e0,e⟩ :=hp.at ho rfl
    rw [h1] at e0;cases e0
    have hnb : ∀ b∈hd.bs,¬ bE F (Bq n0 own) b:=by
     rintro b hb (hf | ⟨i,hi,e1,e2⟩)
     ·exact hp.apart id hd b h1 hb hf
     ·unfold Bq at e1
      split at e1
      ·rename_i hlt
       have:=hp.inj id i hd hi b h1 e1 hb e2
       omega
      ·cases e1
    rcases e with ⟨a,e1,rfl,_⟩ | ⟨b,o,cap,cs,ty,e1,e2,h3,h4,h5,h6,h7⟩
    ·rw [e1];exact .rs0
    ·rw [e1]
     refine .rs (fun i j=> cs.getD (o + i * aa k + j) undef) h5 h6 (fun i x hi j s hj=> ?_) (fun i x hi j s hj=> ?_)
     ·obtain ⟨u,k1,k2⟩ :=h7 i x hi j s hj
      refine ⟨hnb b (by simp [e2]),?_⟩
      rw [cK h3,k1]
      simp [Array.getD_eq_getD_getElem?,k1]
     ·obtain ⟨u,k1,k2⟩ :=h7 i x hi j s hj
      have : cs.getD (o + i * aa k + j) undef=u:=by simp [Array.getD_eq_getD_getElem?,k1]
      rw [this]
      exact k2.over (ll hj) fun b hb=> sL hb
  | _=> exact .any _
 | _=> exact .any _
theorem KC (hp : Hp F own w h) (s : SV) (v : Value) (hr : Rel F own w s v) : Rel F (Bq n0 own) w (xu n0 h s) v:=by
 cases s with
 | tup l=>
  cases hr with
  | tup h0 h1=>
   refine .tup (by simpa using h0) fun j s hj=> ?_
   obtain ⟨x,hx,rfl⟩ :=bW hj
   exact Br hp x _ (h1 j x hx)
 | _=> exact Br hp _ _ hr
theorem FE (s : SV) : PF (tI n0 h s) :=by
 cases s with
 | agg l=>
  simp only [tI]
  cases ha : l.all isV with
  | false=> exact .any
  | true=>
   refine .agg fun j s hj=> ?_
   have:=List.all_eq_true.1 ha s (List.mem_of_getElem? hj)
   cases s <;> first | exact .v _ | cases this
 | os id=>
  simp only [tI]
  cases ar h id with
  | row k l=> simp only [GS];cases Nat.ble n0 id <;> first | exact .any | exact .rs
  | _=> exact .any
 | v x=> exact .v x
 | rs k l=> exact .rs
 | _=> exact .any
theorem Pq (s : SV) : PF (xu n0 h s) :=by
 cases s
 case tup l=> exact .tup fun j s hj=> by obtain ⟨x,hx,rfl⟩ :=bW hj;exact FE x
 all_goals (unfold xu;exact FE _)
@[go_sem] theorem Wb {l : List SV} : xu n0 h (.tup l)= .tup (l.map (tI n0 h)) :=(rfl)
@[go_sem] theorem XI {id : Nat} : xu n0 h (.os id)=GS n0 id (ar h id) :=(rfl)
@[go_sem] theorem ZE {x : Value} : xu n0 h (.v x)= .v x:=(rfl)
@[go_sem] theorem XJ {k : Tag} {l : List k.T} : xu n0 h (.rs k l)= .rs k l:=(rfl)
@[go_sem] theorem Wc {l : List SV} : xu n0 h (.agg l)=bif l.all isV then .agg l else .any:=(rfl)
@[go_sem] theorem ZF {x : Value} : tI n0 h (.v x)= .v x:=(rfl)
@[go_sem] theorem XK {k : Tag} {l : List k.T} : tI n0 h (.rs k l)= .rs k l:=(rfl)
@[go_sem] theorem Wd {l : List SV} : tI n0 h (.agg l)=bif l.all isV then .agg l else .any:=(rfl)
@[go_sem] theorem XL {id : Nat} : tI n0 h (.os id)=GS n0 id (ar h id) :=(rfl)
@[go_sem] theorem We {k : Tag} {l : List k.T} {id : Nat} : GS n0 id (.row k l)=bif Nat.ble n0 id then .rs k l else .any:=(rfl)
@[go_sem] theorem isV_v {x : Value} : isV (.v x)=true:=(rfl)
end
def GU (pks : List Pk) (n0 : Nat) (S : SV) (H : List Ob) (h : List Ob) : Option SV→Prop
 | some s=> S=ql pks (xu n0 h s)∧fw ⟨[],H⟩ n0 ⟨[],h⟩
 | none=> False
def KD (pks : List Pk) (n0 : Nat) (rs : List ResultVar) (ts : Tis) (S : SV) (H : List Ob) : Ex→St→Prop
 | .exit _,_=> False
 | .normal,st=> GU pks n0 S H st.h (je (ib ts st rs))
 | .ret,st=> GU pks n0 S H st.h (je (ib ts st rs))
 | .pan _,_=> False
section
variable {P : Program} {ts : Tis} {G : Cons} {n0 : Nat} {S s : SV} {H h : List Ob} {rs : List ResultVar} {st : St} {pks : List Pk}
@[go_sem] theorem Ux : GU pks n0 S H h (some s)=(S=ql pks (xu n0 h s)∧fw ⟨[],H⟩ n0 ⟨[],h⟩) :=(rfl)
@[go_sem] theorem Pr : KD pks n0 rs ts S H .normal st=GU pks n0 S H st.h (je (ib ts st rs)) :=(rfl)
@[go_sem] theorem Uy : KD pks n0 rs ts S H .ret st=GU pks n0 S H st.h (je (ib ts st rs)) :=(rfl)
theorem KE {js : List Nat} {own : Own} {F : Nat→Prop} {b : Nat} (hk : qM 0 js n0=true) (hl : H.length=n0) (hb : ¬ bE F (Bq n0 own) b) : ¬ bE F (d_ js H own) b:=by
 rintro (hf | ⟨k,hd,e,hm⟩)
 ·exact hb (.inl hf)
 ·obtain ⟨h1,j,hd0,e1,e2,_,e4⟩ :=et e
  obtain ⟨_,rfl⟩ :=e4 b hm
  have hj:=qV js 0 n0 hk k j e1 (by omega)
  have hjk : j=k:=by omega
  subst hjk
  refine hb (.inr ⟨j,hd,?_,hm⟩)
  unfold Bq
  rw [if_pos (by omega)]
  exact e2
theorem wR (pks : List Pk) (hm : P.follows .mixedOrders=true) (hts : ts.ok P) (hG : ConsOk P G) {f : FuncId} {fn : Func} {c : Code} (hf : P.funcs[f]? =some fn) (hb : fn.body=some c) (hname : (fn.name== "runtime.NumGoroutine")=false)
  (hc : bY fn.ntmps c=true) {C : List SV→List Ob→Option HCon}
  (h : ∀ l o con,C l o=some con→∃ p S H,con=nG p S H∧H.length=o.length∧(p→l.length≤fn.ntmps∧∃ L,aA P none fn.ntmps L c∧exec ts G L c ⟨ip 0 l,o⟩ (KD pks o.length fn.results.toList ts S H))) : FnOkO P f C:=by
 refine ⟨fun l o con _ args w=> ?_,fun l o con hcon hpre F own w vs hp hvs=> ?_⟩
 ·have hn : ¬ fn.name= "runtime.NumGoroutine" :=by simpa using hname
  simp [callFunc,hf,hn,hb]
 ·obtain ⟨p,S,H,rfl,hH,h2⟩ :=h l o con hcon
  obtain ⟨hlen,L,hl,hx⟩ :=h2 hpre
  have hn0 : ∀ id hd,own id=some hd→id < o.length:=fun id hd e=> hp.dom id hd e
  refine jt (n:=0) (callsIn_of_wp_marks hf hb trivial ?_)
  have hr : StRel F { w:=w,own:=own} fn.ntmps own ⟨ip 0 l,o⟩ { tmps:=vs ++ Array.replicate (fn.ntmps - vs.size) undef,defers:=[]} w:=
   ⟨by have:=hvs.1;simp;omega,Dfr.nil,hp,Fr.refl { w:=w,own:=own},fun t=> iw hvs _ t⟩
  refine wpIn_mono (jK hm hts hG c hc hl F _ _ hx own _ w hr) ?_
  intro e a' w' hq
  have key : ∀ F1 own' st,(∀ b,F b→F1 b)→StRel F1 { w:=w,own:=own} fn.ntmps own' st a' w'→GU pks o.length S H st.h (je (ib ts st fn.results.toList))→LeavesInM (rd none) 0 P fn a'.tmps (fun e w'=> ∃ r own',(nG p S H).post r∧Ci F w own o.length e own' w' ((nG p S H).res r)) a'.defers .returning w':=by
   intro F1 own' st hF1 hst hdone
   refine gb hst (by simp) fun w2 hst2=> ?_
   have hst3:=hst2.less hF1 rfl
   cases hs : je (ib ts st fn.results.toList) with
   | none=> rw [hs] at hdone;exact hdone.elim
   | some s=>
    rw [hs] at hdone
    obtain ⟨hS,js,q3,q4⟩ :=hdone
    obtain ⟨u,e1,e2⟩ :=qa (P:=P) hts hst3 hs
    obtain ⟨k1,k2,_,_⟩ :=vS q4 hst3.hp hst3.fr hn0 q3
    refine ⟨u,e1,(),d_ js H own',trivial,⟨u,rfl,?_⟩,k1,k2,q3⟩
    subst hS
    exact v2 ((KC hst3.hp s u e2).over (Pq s) fun b hb=> KE q4.1.2.1 hH hb)
  cases e with
  | normal=> obtain ⟨F1,own',st,h0,h1,h2⟩ :=hq;exact key F1 own' st h0 h1 h2
  | ret=> obtain ⟨F1,own',st,h0,h1,h2⟩ :=hq;exact key F1 own' st h0 h1 h2
  | exit id=> obtain ⟨F1,own',st,h0,h1,h2⟩ :=hq;exact h2.elim
  | panic ch=> obtain ⟨x,F1,own',st,h0,h1,h2,rfl⟩ :=hq;exact h2.elim
  | _=> exact hq.elim
end
end Go.Sx
end
section
namespace Go.Sx
open Go.Proofs
set_option maxRecDepth 100000
set_option linter.unusedSimpArgs false
theorem KF {p : Prop} (h : p:=by (first | done | (repeat' (first | with_reducible refine And.intro ?_ ?_ | ((with_reducible show _≠_);first | assumption | omega | (simp_all [aG,aM];done) | grind) | with_reducible intro _)) <;> (first | done | exact Empty.elim ‹Empty› | assumption | rfl | omega | decide | exact fk [0] | (simp only [*,cond_true,cond_false,Bool.not_true,Bool.not_false,go_sem,Nat.reduceBEq,Nat.reduceLeDiff,Nat.reduceLT,decide_true,Nat.reduceAdd,Nat.reduceSub,Nat.reduceMul,Int.reduceLE,Int.reduceLT,Int.reduceToNat,Int.reduceNeg,reduceCtorEq];done) | (simp only [*,cond_true,cond_false,Bool.not_true,Bool.not_false,go_sem,Nat.reduceBEq,Nat.reduceLeDiff,Nat.reduceLT,decide_true,Nat.reduceAdd,Nat.reduceSub,Nat.reduceMul,Int.reduceLE,Int.reduceLT,Int.reduceToNat,Int.reduceNeg,reduceCtorEq];(repeat' (first | with_reducible refine And.intro ?_ ?_ | ((with_reducible show _≠_);first | assumption | omega | (simp_all [aG,aM];done) | grind) | with_reducible intro _)) <;> (first | done | assumption | rfl | omega | decide | exact fk [0] | (simp_all [aG,aM];done))) | (simp_all [okI,aG,aM];done) | (simp_all [aG,aM];(first | done | exact fk2 [0])) | exact fk2 [0]))) : p:=h
@[go_sem] noncomputable def gU : List SV→List Ob→Option HCon:=fun l h=> v_ .claim (fun c=> (pD .district fun d=> ((pQ (.os 0) (pE (nG (dx d c) (.tup [.rs .order ((am d c).1),.v (.int .i64 ((am d c).2))]) [.row .claim c]))))) l) h
set_option maxHeartbeats 4000000 in
theorem pu : FnOkO Tryz.prog 33 gU:=by
 have hG : ConsOk Tryz.prog (mkG [(24,fun l=> lB (c6 [.st .district,.sl .claim] l)),(63,fun l=> gS (c6 [.sl .claim] l)),(64,fun l=> cm (c6 [.sl .order,.o] l))] []) :=aQ (cgc (n_.norm [.st .district,.sl .claim]) (cgc (j9.norm [.sl .claim]) (cgc (dw.norm [.sl .order,.o]) cg0))) cg0
 refine wR [.sl .order,.o] mixed aH hG (fn:=Tryz.f33) (c:=an Tryz.f33) (by kernel_rfl) (by kernel_rfl) (by kernel_rfl) (by kernel_rfl) fun l o con h=> ?_
 unfold gU at h
 obtain ⟨c,rfl,h⟩ :=sb h
 obtain ⟨d,r0,rfl,h0⟩ :=tj h
 obtain ⟨r1,rfl,h1⟩ :=zi h0
 obtain ⟨rfl,rfl⟩ :=qX h1
 clear h h0 h1
 refine ⟨_,_,_,rfl,rfl,fun hp=> ?_⟩
 unfold dx at hp
 refine ⟨Nat.le_of_ble_eq_true rfl,L0,?_,?_⟩
 ·unfold an Tryz.f33
  simp only [aA,and_self,true_and,and_true]
 ·unfold an Tryz.f33
  try unfold am
  simp only [go_sem,Nat.reduceBEq,Nat.reduceLeDiff,Nat.reduceLT,decide_true,Nat.reduceAdd,Nat.reduceSub,Nat.reduceMul,Int.reduceLE,Int.reduceLT,Int.reduceToNat,Int.reduceNeg,reduceCtorEq]
  all_goals exact KF
end Go.Sx
end
section
namespace Go.Sx
open Go.Proofs
set_option maxRecDepth 100000
set_option linter.unusedSimpArgs false
theorem wS {p : Prop} (h : p:=by (first | done | (repeat' (first | with_reducible refine And.intro ?_ ?_ | ((with_reducible show _≠_);first | assumption | omega | (simp_all [aG,aM];done) | grind) | with_reducible intro _)) <;> (first | done | exact Empty.elim ‹Empty› | assumption | rfl | omega | decide | exact fk [0,1,2,3,4] | (simp only [*,cond_true,cond_false,Bool.not_true,Bool.not_false,go_sem,Nat.reduceBEq,Nat.reduceLeDiff,Nat.reduceLT,decide_true,Nat.reduceAdd,Nat.reduceSub,Nat.reduceMul,Int.reduceLE,Int.reduceLT,Int.reduceToNat,Int.reduceNeg,reduceCtorEq];done) | (simp only [*,cond_true,cond_false,Bool.not_true,Bool.not_false,go_sem,Nat.reduceBEq,Nat.reduceLeDiff,Nat.reduceLT,decide_true,Nat.reduceAdd,Nat.reduceSub,Nat.reduceMul,Int.reduceLE,Int.reduceLT,Int.reduceToNat,Int.reduceNeg,reduceCtorEq];(repeat' (first | with_reducible refine And.intro ?_ ?_ | ((with_reducible show _≠_);first | assumption | omega | (simp_all [aG,aM];done) | grind) | with_reducible intro _)) <;> (first | done | assumption | rfl | omega | decide | exact fk [0,1,2,3,4] | (simp_all [aG,aM];done))) | (simp_all [okI,aG,aM];done) | (simp_all [aG,aM];(first | done | exact fk2 [0,1,2,3,4])) | exact fk2 [0,1,2,3,4]))) : p:=h
theorem Bt {p : Prop} (h : p:=by (first | done | (repeat' (first | with_reducible refine And.intro ?_ ?_ | ((with_reducible show _≠_);first | assumption | omega | (simp_all [aG,aM];done) | grind) | with_reducible intro _)) <;> (first | done | exact Empty.elim ‹Empty› | assumption | rfl | omega | decide | exact fk [0] | (simp only [*,cond_true,cond_false,Bool.not_true,Bool.not_false,go_sem,Nat.reduceBEq,Nat.reduceLeDiff,Nat.reduceLT,decide_true,Nat.reduceAdd,Nat.reduceSub,Nat.reduceMul,Int.reduceLE,Int.reduceLT,Int.reduceToNat,Int.reduceNeg,reduceCtorEq];done) | (simp only [*,cond_true,cond_false,Bool.not_true,Bool.not_false,go_sem,Nat.reduceBEq,Nat.reduceLeDiff,Nat.reduceLT,decide_true,Nat.reduceAdd,Nat.reduceSub,Nat.reduceMul,Int.reduceLE,Int.reduceLT,Int.reduceToNat,Int.reduceNeg,reduceCtorEq];(repeat' (first | with_reducible refine And.intro ?_ ?_ | ((with_reducible show _≠_);first | assumption | omega | (simp_all [aG,aM];done) | grind) | with_reducible intro _)) <;> (first | done | assumption | rfl | omega | decide | exact fk [0] | (simp_all [aG,aM];done))) | (simp_all [okI,aG,aM];done) | (simp_all [aG,aM];(first | done | exact fk2 [0])) | exact fk2 [0]))) : p:=h
@[go_sem] noncomputable def gV : List SV→List Ob→Option HCon:=fun l h=> v_ .claim (fun c=> (pD .district fun d=> ((pQ (.os 0) (pE (nG (dy d c) (.tup [.rs .order ((aw d c).1),.agg (cellsOf .fault ((aw d c).2.1)),.v (.int .i64 ((aw d c).2.2))]) [.row .claim c]))))) l) h
set_option maxHeartbeats 4000000 in
theorem pw : FnOkO Tryz.prog 31 gV:=by
 have hG : ConsOk Tryz.prog (mkG [(54,fun l=> lD (c6 [.st .district,.sl .order] l)),(55,i7),(56,fun l=> jB (c6 [.st .district,.sl .order] l)),(57,fun l=> il (c6 [.st .district,.sl .order] l))] [(33,gU)]) :=aQ (cgc (oa.norm [.st .district,.sl .order]) (cgc lM (cgc (mm.norm [.st .district,.sl .order]) (cgc (kG.norm [.st .district,.sl .order]) cg0)))) (cgc pu cg0)
 refine wR [.sl .order,.st .fault,.o] mixed aH hG (fn:=Tryz.f31) (c:=an Tryz.f31) (by kernel_rfl) (by kernel_rfl) (by kernel_rfl) (by kernel_rfl) fun l o con h=> ?_
 unfold gV at h
 obtain ⟨c,rfl,h⟩ :=sb h
 obtain ⟨d,r0,rfl,h0⟩ :=tj h
 obtain ⟨r1,rfl,h1⟩ :=zi h0
 obtain ⟨rfl,rfl⟩ :=qX h1
 clear h h0 h1
 refine ⟨_,_,_,rfl,rfl,fun hp=> ?_⟩
 unfold dy at hp
 refine ⟨Nat.le_of_ble_eq_true rfl,(fun id st=> bif Nat.beq id 0 then some (LC (ρ:=Int×Int×Int×Int×Int) (σ:=Unit) (lk 4 st.t= .ptr 2 0∧lk 5 st.t= .ptr 3 0∧lk 6 st.t= .ptr 4 0∧lk 39 st.t= .fn 100 [] [.ep [.rs .order ((av d ((am d c).1)).1)] 0,.ep (cellsOf .district d) 0]∧st.h=[.row .claim c,.cells (cellsOf .district d),.cells [.rs .order ((av d ((am d c).1)).1)],.cells [.v (.int .i64 0),.v (.int .i64 0),.v (.int .i64 0),.v (.int .i64 0),.v (.int .i64 0)],.cells [.v (.int .i64 ((av d ((am d c).1)).2.2))]]∧df ((av d ((am d c).1)).1) d ((bt ((av d ((am d c).1)).1) d).map dD)) (cq (c9 d c) (bt ((av d ((am d c).1)).1) d) ()) (fun _=> .ret) (fun x_0_0=> ⟨[(4,.ptr 2 0),(5,.ptr 3 0),(6,.ptr 4 0)],[.row .claim c,.dead,.cells [.v (.slice none 0 0)],.cells [.v (.int .i64 x_0_0.1),.v (.int .i64 x_0_0.2.1),.v (.int .i64 x_0_0.2.2.1),.v (.int .i64 x_0_0.2.2.2.1),.v (.int .i64 x_0_0.2.2.2.2)],.cells [.v (.int .i64 0)]]⟩) (fun s_0=> ⟨[(4,.ptr 2 0),(5,.ptr 3 0),(6,.ptr 4 0)],[.row .claim c,.dead,.cells [.rs .order ((av d ((am d c).1)).1)],.cells [.v (.int .i64 0),.v (.int .i64 0),.v (.int .i64 0),.v (.int .i64 0),.v (.int .i64 0)],.cells [.v (.int .i64 ((av d ((am d c).1)).2.2))]]⟩)) else none),?_,?_⟩
 ·unfold an Tryz.f31
  simp only [aA,true_and,and_true]
  ·refine mT mixed aH hG (by decide) (by decide) (by kernel_rfl) (by kernel_rfl) fun st lc hC hp=> ?_
   simp only [go_sem,Nat.reduceBEq,Option.some.injEq] at hC
   subst hC
   obtain ⟨t,h⟩ :=st
   dsimp only [LC] at hp
   obtain ⟨e0_0,e0_1,e0_2,e0_3,rfl,hb0⟩ :=hp
   refine ⟨100,[.ep [.rs .order ((av d ((am d c).1)).1)] 0,.ep (cellsOf .district d) 0],Fault,_,_,(bt ((av d ((am d c).1)).1) d),dD,(c9 d c),(j_ d c),_,(),_,_,_,[(4,.ptr 2 0),(5,.ptr 3 0),(6,.ptr 4 0)],(fun s_0=> [.row .claim c,.dead,.cells [.rs .order ((av d ((am d c).1)).1)],.cells [.v (.int .i64 0),.v (.int .i64 0),.v (.int .i64 0),.v (.int .i64 0),.v (.int .i64 0)],.cells [.v (.int .i64 ((av d ((am d c).1)).2.2))]]),(fun x_0_0=> [.row .claim c,.dead,.cells [.v (.slice none 0 0)],.cells [.v (.int .i64 x_0_0.1),.v (.int .i64 x_0_0.2.1),.v (.int .i64 x_0_0.2.2.1),.v (.int .i64 x_0_0.2.2.2.1),.v (.int .i64 x_0_0.2.2.2.2)],.cells [.v (.int .i64 0)]]),[0,1,2,3,4],?_,rfl,uM _ _ fun _ _ _=> trivial,Nat.le_of_ble_eq_true rfl,?_,jp ((av d ((am d c).1)).1) d _ hb0,fun z_0 s_0 hq0=> ⟨rfl,L0,fun l=> ?_,fun l=> ?_,?_⟩,fun s_0=> ?_,fun y=> ?_⟩
   ·simp only [go_sem,e0_0,e0_1,e0_2,e0_3]
   ·simp only [go_sem,Nat.reduceBEq,Nat.reduceLeDiff,Nat.reduceLT,decide_true,Nat.reduceAdd,Nat.reduceSub,Nat.reduceMul,Int.reduceLE,Int.reduceLT,Int.reduceToNat,Int.reduceNeg,reduceCtorEq,nU,iI,List.flatMap_cons,List.flatMap_nil,List.nil_append,List.append_nil,List.map_nil,e0_0,e0_1,e0_2,e0_3]
    all_goals (first | done | decide | (repeat' (first | refine And.intro ?_ ?_ | rfl | decide)))
   ·simp only [aA,and_self,true_and,and_true]
   ·simp only [aA,and_self,true_and,and_true]
   ·skip
    simp only [go_sem,Nat.reduceBEq,Nat.reduceLeDiff,Nat.reduceLT,decide_true,Nat.reduceAdd,Nat.reduceSub,Nat.reduceMul,Int.reduceLE,Int.reduceLT,Int.reduceToNat,Int.reduceNeg,reduceCtorEq,c9,psT,dD,List.cons_append,List.nil_append]
    all_goals exact wS
   ·simp only [go_sem,Nat.reduceBEq,Nat.reduceLeDiff,Nat.reduceLT,decide_true,Nat.reduceAdd,Nat.reduceSub,Nat.reduceMul,Int.reduceLE,Int.reduceLT,Int.reduceToNat,Int.reduceNeg,reduceCtorEq]
    all_goals exact wS
   ·simp only [go_sem,Nat.reduceBEq,Nat.reduceLeDiff,Nat.reduceLT,decide_true,Nat.reduceAdd,Nat.reduceSub,Nat.reduceMul,Int.reduceLE,Int.reduceLT,Int.reduceToNat,Int.reduceNeg,reduceCtorEq]
    all_goals exact wS
 ·unfold an Tryz.f31
  try unfold aw
  simp only [go_sem,Nat.reduceBEq,Nat.reduceLeDiff,Nat.reduceLT,decide_true,Nat.reduceAdd,Nat.reduceSub,Nat.reduceMul,Int.reduceLE,Int.reduceLT,Int.reduceToNat,Int.reduceNeg,reduceCtorEq]
  all_goals exact Bt
@[go_sem] noncomputable def eD : List SV→List Ob→Option HCon:=fun l h=> v_ .claim (fun c=> (pD .district fun d=> ((pQ (.os 0) (pE (nG (bC d c) (.tup [.rs .order ((aj d c).1),.v (.bool ((aj d c).2.1)),.v (.int .i64 ((aj d c).2.2))]) [.row .claim c]))))) l) h
set_option maxHeartbeats 4000000 in
theorem gW : FnOkO Tryz.prog 12 eD:=by
 have hG : ConsOk Tryz.prog (mkG [] [(31,gV)]) :=aQ cg0 (cgc pw cg0)
 refine wR [.sl .order,.o,.o] mixed aH hG (fn:=Tryz.f12) (c:=an Tryz.f12) (by kernel_rfl) (by kernel_rfl) (by kernel_rfl) (by kernel_rfl) fun l o con h=> ?_
 unfold eD at h
 obtain ⟨c,rfl,h⟩ :=sb h
 obtain ⟨d,r0,rfl,h0⟩ :=tj h
 obtain ⟨r1,rfl,h1⟩ :=zi h0
 obtain ⟨rfl,rfl⟩ :=qX h1
 clear h h0 h1
 refine ⟨_,_,_,rfl,rfl,fun hp=> ?_⟩
 unfold bC at hp
 refine ⟨Nat.le_of_ble_eq_true rfl,L0,?_,?_⟩
 ·unfold an Tryz.f12
  simp only [aA,and_self,true_and,and_true]
 ·unfold an Tryz.f12
  try unfold aj
  simp only [go_sem,Nat.reduceBEq,Nat.reduceLeDiff,Nat.reduceLT,decide_true,Nat.reduceAdd,Nat.reduceSub,Nat.reduceMul,Int.reduceLE,Int.reduceLT,Int.reduceToNat,Int.reduceNeg,reduceCtorEq]
  all_goals exact Bt
end Go.Sx
end
section
namespace Go.Sx
open Go.Proofs
set_option maxRecDepth 100000
@[go_sem] def ka : List SV→Option Con:=pR .claim fun l=> pE (.det (l.length * 40≤dY) (.nw .claim l))
theorem oq : FnOk Tryz.prog 38 ka:=by
 have hG : ConsOk Tryz.prog (mkG [] []) :=aQ cg0 cg0
 refine wr [(.tmp 2,.claim)] mixed aH hG (fn:=Tryz.f38) (c:=an Tryz.f38) (by kernel_rfl) (by kernel_rfl) (by kernel_rfl) (by kernel_rfl) (dl fun l=> aN fun hp=> ?_)
 dsimp only [aT] at hp
 refine ⟨Nat.le_of_ble_eq_true rfl,L0,ay _,?_⟩
 unfold an Tryz.f38
 simp only [go_sem,Nat.reduceBEq,Nat.reduceLeDiff,Nat.reduceAdd,Nat.reduceSub,Nat.reduceMul,Int.reduceLE,Int.reduceLT,Int.reduceToNat,Int.reduceNeg,reduceCtorEq]
 intro b hb
 refine ⟨fun h=> ?_,fun _=> ⟨hp,fun _=> rfl⟩⟩
 have hl:=hb h
 subst hl
 rfl
end Go.Sx
end
section
namespace Go.Sx
open Go.Proofs
set_option maxRecDepth 100000
set_option linter.unusedSimpArgs false
theorem Bu {p : Prop} (h : p:=by (first | done | (repeat' (first | with_reducible refine And.intro ?_ ?_ | ((with_reducible show _≠_);first | assumption | omega | (simp_all [aG,aM];done) | grind) | with_reducible intro _)) <;> (first | done | exact Empty.elim ‹Empty› | assumption | rfl | omega | decide | exact fk [0,1,6] | exact fk [0,1,2] | (simp only [*,cond_true,cond_false,Bool.not_true,Bool.not_false,go_sem,Nat.reduceBEq,Nat.reduceLeDiff,Nat.reduceLT,decide_true,Nat.reduceAdd,Nat.reduceSub,Nat.reduceMul,Int.reduceLE,Int.reduceLT,Int.reduceToNat,Int.reduceNeg,reduceCtorEq];done) | (simp only [*,cond_true,cond_false,Bool.not_true,Bool.not_false,go_sem,Nat.reduceBEq,Nat.reduceLeDiff,Nat.reduceLT,decide_true,Nat.reduceAdd,Nat.reduceSub,Nat.reduceMul,Int.reduceLE,Int.reduceLT,Int.reduceToNat,Int.reduceNeg,reduceCtorEq];(repeat' (first | with_reducible refine And.intro ?_ ?_ | ((with_reducible show _≠_);first | assumption | omega | (simp_all [aG,aM];done) | grind) | with_reducible intro _)) <;> (first | done | assumption | rfl | omega | decide | exact fk [0,1,6] | exact fk [0,1,2] | (simp_all [aG,aM];done))) | (simp_all [okI,aG,aM];done) | (simp_all [aG,aM];(first | done | exact fk2 [0,1,6] | exact fk2 [0,1,2])) | exact fk2 [0,1,6] | exact fk2 [0,1,2]))) : p:=h
theorem KG {p : Prop} (h : p:=by simp only [go_sem,Nat.reduceBEq,Nat.reduceLeDiff,Nat.reduceLT,decide_true,Nat.reduceAdd,Nat.reduceSub,Nat.reduceMul,Int.reduceLE,Int.reduceLT,Int.reduceToNat,Int.reduceNeg,reduceCtorEq,hc,hw];all_goals exact Bu) : p:=h
theorem KH {p : Prop} (h : p:=by simp only [go_sem,Nat.reduceBEq,Nat.reduceLeDiff,Nat.reduceLT,decide_true,Nat.reduceAdd,Nat.reduceSub,Nat.reduceMul,Int.reduceLE,Int.reduceLT,Int.reduceToNat,Int.reduceNeg,reduceCtorEq,hc];all_goals exact Bu) : p:=h
def aI (c : List Claim) : List Claim:=(dX c)
def gX (c : List Claim) : Prop:=(dE c)
@[go_sem] def kH : List SV→Option Con:=(pR .claim fun c=> (pE (.det (gX c) (.nw .claim (aI c)))))
theorem px : FnOk Tryz.prog 37 kH:=by
 have hG : ConsOk Tryz.prog (mkG [(34,ca),(35,fun l=> cV (c6 [.sl .claim] l))] []) :=aQ (cgc eY (cgc (ei.norm [.sl .claim]) cg0)) cg0
 refine qW true mixed aH hG (fn:=Tryz.f37) (c:=an Tryz.f37) (by kernel_rfl) (by kernel_rfl) (by kernel_rfl) (by kernel_rfl) (dl fun c=> (aN (fun hp=> ?_)))
 dsimp only [aT] at hp
 unfold gX at hp
 refine ⟨Nat.le_of_ble_eq_true rfl,L0,ay _,?_⟩
 ·unfold an Tryz.f37
  try unfold aI
  simp only [go_sem,Nat.reduceBEq,Nat.reduceLeDiff,Nat.reduceLT,decide_true,Nat.reduceAdd,Nat.reduceSub,Nat.reduceMul,Int.reduceLE,Int.reduceLT,Int.reduceToNat,Int.reduceNeg,reduceCtorEq,ca]
  all_goals exact cl
@[go_sem] def bu (d : District) (c : List Claim) (k_0 : Nat) (s_0 : List Claim) : Empty⊕(List Claim) :=(bif (((aj d (aI (s_0 ++ ([((ag c).getD k_0 (default : Claim))])))).2.2==0) && (aj d (aI (s_0 ++ ([((ag c).getD k_0 (default : Claim))])))).2.1) then .inr (aI (s_0 ++ ([((ag c).getD k_0 (default : Claim))]))) else .inr s_0)
def fT (d : District) (c : List Claim) (k_0 : Nat) (s_0 : List Claim) : Prop:=((s_0.length * 40≤dY)∧(((s_0 ++ ([((ag c).getD k_0 (default : Claim))])).length * 40≤dY)∧((s_0 ++ ([((ag c).getD k_0 (default : Claim))])).length≤bg→((gX (s_0 ++ ([((ag c).getD k_0 (default : Claim))])))∧(bC d (aI (s_0 ++ ([((ag c).getD k_0 (default : Claim))]))))))))
def ak (d : District) (c : List Claim) : List Claim×Int:=(bif ((am d c).2 !=0) then ([],(am d c).2) else (match az (bu d c) ((ag c).length) 0 ([]) with | .inl x=> x.elim | .inr s_0=> (s_0,0)))
def dK (d : District) (c : List Claim) : Prop:=((dx d c)∧(((am d c).2 !=0)=false→((dW c)∧((ag c).length≤bg→okI (bu d c) (fT d c) ((ag c).length) 0 ([])))))
@[go_sem] def im : List SV→Option Con:=(pD .district fun d=> (pR .claim fun c=> (pE (.det (dK d c) (.tup [.nw .claim ((ak d c).1),.v (.int .i64 ((ak d c).2))])))))
set_option maxHeartbeats 4000000 in
theorem kI : FnOk Tryz.prog 17 im:=by
 have hG : ConsOk Tryz.prog (mkG [(33,fun l=> iY (c6 [.st .district,.sl .claim] l)),(34,ca),(35,fun l=> cV (c6 [.sl .claim] l)),(37,fun l=> kH (c6 [.sl .claim] l)),(38,fun l=> ka (c6 [.sl .claim] l))] [(12,eD)]) :=aQ (cgc (lL.norm [.st .district,.sl .claim]) (cgc eY (cgc (ei.norm [.sl .claim]) (cgc (px.norm [.sl .claim]) (cgc (oq.norm [.sl .claim]) cg0))))) (cgc gW cg0)
 refine wr [(.tmp 4,.claim)] mixed aH hG (fn:=Tryz.f17) (c:=an Tryz.f17) (by kernel_rfl) (by kernel_rfl) (by kernel_rfl) (by kernel_rfl) (bI fun d=> (dl fun c=> (aN (fun hp=> ?_))))
 dsimp only [aT] at hp
 unfold dK at hp
 refine ⟨Nat.le_of_ble_eq_true rfl,(fun id st=> bif Nat.beq id 0 then some (LCR (ρ:=Empty) (σ:=(List Claim)) 2 [.slot 4 (.row .claim ([]))] [0,1,2] (fun k_0 s_0=> ⟨[(2,.ptr 0 0),(4,.os 2),(23,.os 1),(24,.v (.int .i64 ((ag c).length : Int))),(25,.v (.int .i64 (k_0 : Int)))],[.cells (cellsOf .district d),.row .claim (ag c),.row .claim s_0]⟩) (bu d c) (fT d c) ((ag c).length) ([]) ((ag c).length≤bg) ((·.elim)) ((·.elim)) st) else none),?_,?_⟩
 ·unfold an Tryz.f17
  simp only [aA,true_and,and_true]
  ·refine db mixed aH hG (by kernel_rfl) (fun _=> rfl) ((ag c).length : Int) rfl kQ (fun hb0 k_0 s_0 hlt0 hq0 hw hc=> ⟨L0,ay _,?_⟩) (fun hb0 s_0 hc=> ?_)
   ·unfold fT at hq0
    try simp only [hw,Int.toNat_natCast] at hq0
    exact KG
   ·exact KH
 ·unfold an Tryz.f17
  try unfold ak
  simp only [go_sem,Nat.reduceBEq,Nat.reduceLeDiff,Nat.reduceLT,decide_true,Nat.reduceAdd,Nat.reduceSub,Nat.reduceMul,Int.reduceLE,Int.reduceLT,Int.reduceToNat,Int.reduceNeg,reduceCtorEq,ca]
  all_goals exact cl
end Go.Sx
end
section
namespace Go.Sx
open Go.Proofs
set_option maxRecDepth 100000
set_option linter.unusedSimpArgs false
theorem Bv {p : Prop} (h : p:=by (first | done | (repeat' (first | with_reducible refine And.intro ?_ ?_ | ((with_reducible show _≠_);first | assumption | omega | (simp_all [aG,aM];done) | grind) | with_reducible intro _)) <;> (first | done | exact Empty.elim ‹Empty› | assumption | rfl | omega | decide | exact fk [] | (simp only [*,cond_true,cond_false,Bool.not_true,Bool.not_false,go_sem,Nat.reduceBEq,Nat.reduceLeDiff,Nat.reduceLT,decide_true,Nat.reduceAdd,Nat.reduceSub,Nat.reduceMul,Int.reduceLE,Int.reduceLT,Int.reduceToNat,Int.reduceNeg,reduceCtorEq];done) | (simp only [*,cond_true,cond_false,Bool.not_true,Bool.not_false,go_sem,Nat.reduceBEq,Nat.reduceLeDiff,Nat.reduceLT,decide_true,Nat.reduceAdd,Nat.reduceSub,Nat.reduceMul,Int.reduceLE,Int.reduceLT,Int.reduceToNat,Int.reduceNeg,reduceCtorEq];(repeat' (first | with_reducible refine And.intro ?_ ?_ | ((with_reducible show _≠_);first | assumption | omega | (simp_all [aG,aM];done) | grind) | with_reducible intro _)) <;> (first | done | assumption | rfl | omega | decide | exact fk [] | (simp_all [aG,aM];done))) | (simp_all [okI,aG,aM];done) | (simp_all [aG,aM];(first | done | exact fk2 [])) | exact fk2 []))) : p:=h
theorem wT {p : Prop} (h : p:=by (first | done | (repeat' (first | with_reducible refine And.intro ?_ ?_ | ((with_reducible show _≠_);first | assumption | omega | (simp_all [aG,aM];done) | grind) | with_reducible intro _)) <;> (first | done | exact Empty.elim ‹Empty› | assumption | rfl | omega | decide | exact fk [0] | (simp only [*,cond_true,cond_false,Bool.not_true,Bool.not_false,go_sem,Nat.reduceBEq,Nat.reduceLeDiff,Nat.reduceLT,decide_true,Nat.reduceAdd,Nat.reduceSub,Nat.reduceMul,Int.reduceLE,Int.reduceLT,Int.reduceToNat,Int.reduceNeg,reduceCtorEq];done) | (simp only [*,cond_true,cond_false,Bool.not_true,Bool.not_false,go_sem,Nat.reduceBEq,Nat.reduceLeDiff,Nat.reduceLT,decide_true,Nat.reduceAdd,Nat.reduceSub,Nat.reduceMul,Int.reduceLE,Int.reduceLT,Int.reduceToNat,Int.reduceNeg,reduceCtorEq];(repeat' (first | with_reducible refine And.intro ?_ ?_ | ((with_reducible show _≠_);first | assumption | omega | (simp_all [aG,aM];done) | grind) | with_reducible intro _)) <;> (first | done | assumption | rfl | omega | decide | exact fk [0] | (simp_all [aG,aM];done))) | (simp_all [okI,aG,aM];done) | (simp_all [aG,aM];(first | done | exact fk2 [0])) | exact fk2 [0]))) : p:=h
theorem Bw {p : Prop} (h : p:=by simp only [go_sem,Nat.reduceBEq,Nat.reduceLeDiff,Nat.reduceLT,decide_true,Nat.reduceAdd,Nat.reduceSub,Nat.reduceMul,Int.reduceLE,Int.reduceLT,Int.reduceToNat,Int.reduceNeg,reduceCtorEq,hc,hw];all_goals exact Bv) : p:=h
theorem Bx {p : Prop} (h : p:=by simp only [go_sem,Nat.reduceBEq,Nat.reduceLeDiff,Nat.reduceLT,decide_true,Nat.reduceAdd,Nat.reduceSub,Nat.reduceMul,Int.reduceLE,Int.reduceLT,Int.reduceToNat,Int.reduceNeg,reduceCtorEq,hc];all_goals exact Bv) : p:=h
theorem KI {p : Prop} (h : p:=by simp only [go_sem,Nat.reduceBEq,Nat.reduceLeDiff,Nat.reduceLT,decide_true,Nat.reduceAdd,Nat.reduceSub,Nat.reduceMul,Int.reduceLE,Int.reduceLT,Int.reduceToNat,Int.reduceNeg,reduceCtorEq,hc,hw];all_goals exact wT) : p:=h
theorem KJ {p : Prop} (h : p:=by simp only [go_sem,Nat.reduceBEq,Nat.reduceLeDiff,Nat.reduceLT,decide_true,Nat.reduceAdd,Nat.reduceSub,Nat.reduceMul,Int.reduceLE,Int.reduceLT,Int.reduceToNat,Int.reduceNeg,reduceCtorEq,hc];all_goals exact wT) : p:=h
theorem KK {p : Prop} (h : p:=by simp only [go_sem,Nat.reduceBEq,Nat.reduceLeDiff,Nat.reduceLT,decide_true,Nat.reduceAdd,Nat.reduceSub,Nat.reduceMul,Int.reduceLE,Int.reduceLT,Int.reduceToNat,Int.reduceNeg,reduceCtorEq];all_goals exact wT) : p:=h
def jE (a0 : District) (a1 : List Claim) : Bool:=(bif ((((((((decide ((a0.reaches.length : Int) > 8)) && (decide ((a0.reaches.length : Int)≤64))) || (decide ((a0.reaches.length : Int) > 100))) || ((decide ((a0.farms.length : Int) > 8)) && (decide ((a0.farms.length : Int)≤600)))) || (decide ((a0.farms.length : Int) > 700))) || (decide ((a0.rights.length : Int) > 300))) || (decide ((a0.duties.length : Int) > 300))) || (decide ((a0.crops.length : Int) > 100))) then false else (((decide (a0.hours≤30)) || (decide (a0.hours > 1024))) && (decide ((a1.length : Int)≤60))))
@[go_sem] def uh : List SV→Option Con:=(pD .district fun a0=> (pR .claim fun a1=> (pE (.det True (.v (.bool (jE a0 a1)))))))
theorem zx : FnOk Tryz.prog 11 uh:=by
 have hG : ConsOk Tryz.prog (mkG [] []) :=aQ cg0 cg0
 refine a8 [.o] mixed aH hG (fn:=Tryz.f11) (c:=an Tryz.f11) (by kernel_rfl) (by kernel_rfl) (by kernel_rfl) (by kernel_rfl) (bI fun a0=> (dl fun a1=> (aN (fun hp=> ?_))))
 dsimp only [aT] at hp
 refine ⟨Nat.le_of_ble_eq_true rfl,L0,ay _,?_⟩
 ·unfold an Tryz.f11
  try unfold jE
  simp only [go_sem,Nat.reduceBEq,Nat.reduceLeDiff,Nat.reduceLT,decide_true,Nat.reduceAdd,Nat.reduceSub,Nat.reduceMul,Int.reduceLE,Int.reduceLT,Int.reduceToNat,Int.reduceNeg,reduceCtorEq]
  all_goals exact cl
@[go_sem] def gY (a : List Order) (b : List Order) (k_0 : Nat) (s_0 : Unit) : Unit⊕Unit:=(bif (!(((a.getD k_0 (default : Order)).hour==(b.getD k_0 (default : Order)).hour) && (((a.getD k_0 (default : Order)).index==(b.getD k_0 (default : Order)).index) && (((a.getD k_0 (default : Order)).litres==(b.getD k_0 (default : Order)).litres) && ((a.getD k_0 (default : Order)).outlet==(b.getD k_0 (default : Order)).outlet))))) then .inl () else .inr ())
def fU (a : List Order) (b : List Order) (k_0 : Nat) (s_0 : Unit) : Prop:=(a.length≤bg→(0≤(k_0 : Int)∧(k_0 : Int) < (b.length : Int)))
def jF (a : List Order) (b : List Order) : Bool:=(bif ((a.length : Int) !=(b.length : Int)) then false else (match az (gY a b) a.length 0 () with | .inl x_0_0=> false | .inr s_0=> true))
def fD (a : List Order) (b : List Order) : Prop:=(a.length≤bg→(b.length≤bg→(((a.length : Int) !=(b.length : Int))=false→okI (gY a b) (fU a b) a.length 0 ())))
@[go_sem] def lO : List SV→Option Con:=(pR .order fun a=> (pR .order fun b=> (pE (.det (fD a b) (.v (.bool (jF a b)))))))
set_option maxHeartbeats 4000000 in
theorem qp : FnOk Tryz.prog 16 lO:=by
 have hG : ConsOk Tryz.prog (mkG [] []) :=aQ cg0 cg0
 refine a8 [.o] mixed aH hG (fn:=Tryz.f16) (c:=an Tryz.f16) (by kernel_rfl) (by kernel_rfl) (by kernel_rfl) (by kernel_rfl) (dl fun a=> (dl fun b=> (aN (fun hp=> ?_))))
 dsimp only [aT] at hp
 unfold fD at hp
 refine ⟨Nat.le_of_ble_eq_true rfl,(fun id st=> bif Nat.beq id 0 then some (LCR (ρ:=Unit) (σ:=Unit) 0 [] [] (fun k_0 s_0=> ⟨[(0,.rs .order a),(1,.rs .order b),(5,.v (.int .i64 (k_0 : Int)))],[]⟩) (gY a b) (fU a b) a.length () (True) (fun _=> .ret) (fun x_0_0=> ⟨[(4,.v (.bool false))],[]⟩) st) else none),?_,?_⟩
 ·unfold an Tryz.f16
  simp only [aA,true_and,and_true]
  ·refine v7 (a.length≤bg) mixed aH hG (by kernel_rfl) (fun _=> rfl) (a.length : Int) rfl kQ (fun hb0 k_0 s_0 hlt0 hq0 hw hc=> ⟨L0,ay _,?_⟩) (fun hb0 s_0 hc=> ?_) fun hb0 k_0 s_0=> ?_
   ·unfold fU at hq0
    try simp only [hw,Int.toNat_natCast] at hq0
    exact Bw
   ·exact Bx
   ·simp only [go_sem,Nat.reduceBEq,Nat.reduceLeDiff,Nat.reduceLT,decide_true,Nat.reduceAdd,Nat.reduceSub,Nat.reduceMul,Int.reduceLE,Int.reduceLT,Int.reduceToNat,Int.reduceNeg,reduceCtorEq,hb0]
 ·unfold an Tryz.f16
  try unfold jF
  simp only [go_sem,Nat.reduceBEq,Nat.reduceLeDiff,Nat.reduceLT,decide_true,Nat.reduceAdd,Nat.reduceSub,Nat.reduceMul,Int.reduceLE,Int.reduceLT,Int.reduceToNat,Int.reduceNeg,reduceCtorEq]
  all_goals exact cl
@[go_sem] def e_ (a : List Claim) (b : List Claim) (k_0 : Nat) (s_0 : Unit) : Unit⊕Unit:=(bif (!(((a.getD k_0 (default : Claim)).right==(b.getD k_0 (default : Claim)).right) && (((a.getD k_0 (default : Claim)).farm==(b.getD k_0 (default : Claim)).farm) && (((a.getD k_0 (default : Claim)).hour==(b.getD k_0 (default : Claim)).hour) && (((a.getD k_0 (default : Claim)).litres==(b.getD k_0 (default : Claim)).litres) && ((a.getD k_0 (default : Claim)).rank==(b.getD k_0 (default : Claim)).rank)))))) then .inl () else .inr ())
def fV (a : List Claim) (b : List Claim) (k_0 : Nat) (s_0 : Unit) : Prop:=(a.length≤bg→(0≤(k_0 : Int)∧(k_0 : Int) < (b.length : Int)))
def dg (a : List Claim) (b : List Claim) : Bool:=(bif ((a.length : Int) !=(b.length : Int)) then false else (match az (e_ a b) a.length 0 () with | .inl x_0_0=> false | .inr s_0=> true))
def dL (a : List Claim) (b : List Claim) : Prop:=(a.length≤bg→(b.length≤bg→(((a.length : Int) !=(b.length : Int))=false→okI (e_ a b) (fV a b) a.length 0 ())))
@[go_sem] def io : List SV→Option Con:=(pR .claim fun a=> (pR .claim fun b=> (pE (.det (dL a b) (.v (.bool (dg a b)))))))
set_option maxHeartbeats 4000000 in
theorem kJ : FnOk Tryz.prog 19 io:=by
 have hG : ConsOk Tryz.prog (mkG [] []) :=aQ cg0 cg0
 refine a8 [.o] mixed aH hG (fn:=Tryz.f19) (c:=an Tryz.f19) (by kernel_rfl) (by kernel_rfl) (by kernel_rfl) (by kernel_rfl) (dl fun a=> (dl fun b=> (aN (fun hp=> ?_))))
 dsimp only [aT] at hp
 unfold dL at hp
 refine ⟨Nat.le_of_ble_eq_true rfl,(fun id st=> bif Nat.beq id 0 then some (LCR (ρ:=Unit) (σ:=Unit) 0 [] [] (fun k_0 s_0=> ⟨[(0,.rs .claim a),(1,.rs .claim b),(5,.v (.int .i64 (k_0 : Int)))],[]⟩) (e_ a b) (fV a b) a.length () (True) (fun _=> .ret) (fun x_0_0=> ⟨[(4,.v (.bool false))],[]⟩) st) else none),?_,?_⟩
 ·unfold an Tryz.f19
  simp only [aA,true_and,and_true]
  ·refine v7 (a.length≤bg) mixed aH hG (by kernel_rfl) (fun _=> rfl) (a.length : Int) rfl kQ (fun hb0 k_0 s_0 hlt0 hq0 hw hc=> ⟨L0,ay _,?_⟩) (fun hb0 s_0 hc=> ?_) fun hb0 k_0 s_0=> ?_
   ·unfold fV at hq0
    try simp only [hw,Int.toNat_natCast] at hq0
    exact Bw
   ·exact Bx
   ·simp only [go_sem,Nat.reduceBEq,Nat.reduceLeDiff,Nat.reduceLT,decide_true,Nat.reduceAdd,Nat.reduceSub,Nat.reduceMul,Int.reduceLE,Int.reduceLT,Int.reduceToNat,Int.reduceNeg,reduceCtorEq,hb0]
 ·unfold an Tryz.f19
  try unfold dg
  simp only [go_sem,Nat.reduceBEq,Nat.reduceLeDiff,Nat.reduceLT,decide_true,Nat.reduceAdd,Nat.reduceSub,Nat.reduceMul,Int.reduceLE,Int.reduceLT,Int.reduceToNat,Int.reduceNeg,reduceCtorEq]
  all_goals exact cl
def aU : District:=({ name:=(ByteArray.mk #[]),hours:=8,tank:=({ cap:=60,start:=40} : Tank),reaches:=[({ name:=(ByteArray.mk #[]),up:=(-1),delay:=2,cap:=20,bank:=30,siphon:=5,evap:=({ lo:=0,hi:=3} : Range),seep:=(({ n:=0,d:=1} : Ratio),({ n:=0,d:=1} : Ratio))} : Reach)],farms:=[({ name:=(ByteArray.mk #[]),reach:=0,area:=0,crop:=(-1)} : Farm),({ name:=(ByteArray.mk #[]),reach:=0,area:=0,crop:=(-1)} : Farm)],crops:=[],rights:=[({ name:=(ByteArray.mk #[]),kind:=1,farm:=0,reach:=0,rank:=2,litres:=1,since:=0,to:=7,every:=1,length:=1} : Right),({ name:=(ByteArray.mk #[]),kind:=1,farm:=1,reach:=0,rank:=1,litres:=1,since:=0,to:=7,every:=1,length:=1} : Right)],duties:=[],wells:=[]} : District)
@[go_sem] def qI : List SV→Option Con:=(pE (.det True (.agg (cellsOf .district (aU)))))
theorem wU : FnOk Tryz.prog 30 qI:=by
 have hG : ConsOk Tryz.prog (mkG [] []) :=aQ cg0 cg0
 refine a8 [.st .district] mixed aH hG (fn:=Tryz.f30) (c:=an Tryz.f30) (by kernel_rfl) (by kernel_rfl) (by kernel_rfl) (by kernel_rfl) (aN (fun hp=> ?_))
 dsimp only [aT] at hp
 refine ⟨Nat.le_of_ble_eq_true rfl,L0,ay _,?_⟩
 ·unfold an Tryz.f30
  try unfold aU
  simp only [go_sem,Nat.reduceBEq,Nat.reduceLeDiff,Nat.reduceLT,decide_true,Nat.reduceAdd,Nat.reduceSub,Nat.reduceMul,Int.reduceLE,Int.reduceLT,Int.reduceToNat,Int.reduceNeg,reduceCtorEq]
  all_goals exact cl
def fl:=([({ right:=1,farm:=1,hour:=1,litres:=9,rank:=1} : Claim)])
def dz:=(dB aU fl)
def aX:=(dz.1)
def ja:=({ name:=(ByteArray.mk #[]),hours:=0,tank:=({ cap:=0,start:=0} : Tank),reaches:=[],farms:=[],crops:=[],rights:=[],duties:=[],wells:=[]} : District)
def gn:=(aj ja ([]))
def cn:=([({ right:=1,farm:=1,hour:=4,litres:=10,rank:=1} : Claim),({ right:=0,farm:=0,hour:=4,litres:=7,rank:=2} : Claim),({ right:=0,farm:=0,hour:=5,litres:=1,rank:=2} : Claim)])
def fm:=(cn.getD 1 (default : Claim))
def cJ:=(aj aU cn)
def g8:=(cJ.1)
def eV:=([({ hour:=2,index:=0,litres:=20,outlet:=false} : Order),({ hour:=3,index:=0,litres:=5,outlet:=false} : Order),({ hour:=4,index:=0,litres:=7,outlet:=true} : Order),({ hour:=4,index:=1,litres:=10,outlet:=true} : Order),({ hour:=5,index:=0,litres:=1,outlet:=true} : Order)])
def g9:=(jF g8 eV)
def be:=(cn.set 1 ({ right:=fm.right,farm:=fm.farm,hour:=fm.hour,litres:=8,rank:=fm.rank} : Claim))
def fO:=(be.length : Int)
def dN:=(dB aU be)
def fP:=(ak aU be)
def a6:=(dN.1)
def g_:=(fP.1)
def jR:=([(be.getD 0 (default : Claim)),(be.getD 2 (default : Claim))])
def gq : Bool:=(bif (((cJ.2.2 !=0) || (!cJ.2.1)) || (!g9)) then false else (bif ((((((dN.2.2 !=0) || (fP.2 !=0)) || (dz.2.2 !=0)) || (gn.2.2 !=191)) || (!dN.2.1)) || (!dz.2.1)) then false else ((((a6.kind==1) && ((a6.hour==2) && ((a6.index==0) && ((a6.litres==21) && (a6.limit==20))))) && ((aX.kind==7) && ((aX.hour==1) && ((aX.index==0) && ((aX.litres==9) && (aX.limit==0)))))) && (dg g_ jR))))
def jb : Prop:=((bC aU cn)∧((((cJ.2.2 !=0) || (!cJ.2.1))=false→(fD g8 eV))∧((((cJ.2.2 !=0) || (!cJ.2.1)) || (!g9))=false→((0≤1∧1 < (cn.length : Int))∧((eS aU be)∧((dK aU be)∧((eS aU fl)∧((bC ja ([]))∧(((((((dN.2.2 !=0) || (fP.2 !=0)) || (dz.2.2 !=0)) || (gn.2.2 !=191)) || (!dN.2.1)) || (!dz.2.1))=false→(((((a6.kind==1) && ((a6.hour==2) && ((a6.index==0) && ((a6.litres==21) && (a6.limit==20))))) && ((aX.kind==7) && ((aX.hour==1) && ((aX.index==0) && ((aX.litres==9) && (aX.limit==0))))))=true→(0≤0∧0 < fO))∧(((((a6.kind==1) && ((a6.hour==2) && ((a6.index==0) && ((a6.litres==21) && (a6.limit==20))))) && ((aX.kind==7) && ((aX.hour==1) && ((aX.index==0) && ((aX.litres==9) && (aX.limit==0))))))=true→(0≤2∧2 < fO))∧((((a6.kind==1) && ((a6.hour==2) && ((a6.index==0) && ((a6.litres==21) && (a6.limit==20))))) && ((aX.kind==7) && ((aX.hour==1) && ((aX.index==0) && ((aX.litres==9) && (aX.limit==0))))))=true→(dL g_ jR)))))))))))))
@[go_sem] def sM : List SV→Option Con:=(pE (.det (jb) (.v (.bool (gq)))))
set_option maxHeartbeats 4000000 in
theorem xv : FnOk Tryz.prog 10 sM:=by
 have hG : ConsOk Tryz.prog (mkG [(12,fun l=> jC (c6 [.st .district,.sl .claim] l)),(14,fun l=> mo (c6 [.st .district,.sl .claim] l)),(16,fun l=> lO (c6 [.sl .order,.sl .order] l)),(17,fun l=> im (c6 [.st .district,.sl .claim] l)),(19,fun l=> io (c6 [.sl .claim,.sl .claim] l)),(30,qI)] [(12,eD)]) :=aQ (cgc (mn.norm [.st .district,.sl .claim]) (cgc (rq.norm [.st .district,.sl .claim]) (cgc (qp.norm [.sl .order,.sl .order]) (cgc (kI.norm [.st .district,.sl .claim]) (cgc (kJ.norm [.sl .claim,.sl .claim]) (cgc wU cg0)))))) (cgc gW cg0)
 refine a8 [.o] mixed aH hG (fn:=Tryz.f10) (c:=an Tryz.f10) (by kernel_rfl) (by kernel_rfl) (by kernel_rfl) (by kernel_rfl) (aN (fun hp=> ?_))
 dsimp only [aT] at hp
 unfold jb at hp
 try simp only [fl,dz,aX,ja,gn,cn,fm,cJ,g8,eV,g9,be,fO,dN,fP,a6,g_,jR] at hp
 refine ⟨Nat.le_of_ble_eq_true rfl,L0,ay _,?_⟩
 ·unfold an Tryz.f10
  try unfold gq
  simp only [go_sem,Nat.reduceBEq,Nat.reduceLeDiff,Nat.reduceLT,decide_true,Nat.reduceAdd,Nat.reduceSub,Nat.reduceMul,Int.reduceLE,Int.reduceLT,Int.reduceToNat,Int.reduceNeg,reduceCtorEq,fl,dz,aX,ja,gn,cn,fm,cJ,g8,eV,g9,be,fO,dN,fP,a6,g_,jR]
  all_goals exact cl
@[go_sem] def uC (l_ : List Order) (k_0 : Nat) (s_0 : List (Acequialaw27Key×Int)) : Empty⊕(List (Acequialaw27Key×Int)) := .inr (dn .acequialaw27Key .int s_0 ({ outlet:=(l_.getD k_0 (default : Order)).outlet,index:=(l_.getD k_0 (default : Order)).index,hour:=(l_.getD k_0 (default : Order)).hour} : Acequialaw27Key) (IntKind.i64.wrap ((aD .acequialaw27Key .int s_0 ({ outlet:=(l_.getD k_0 (default : Order)).outlet,index:=(l_.getD k_0 (default : Order)).index,hour:=(l_.getD k_0 (default : Order)).hour} : Acequialaw27Key)) + (l_.getD k_0 (default : Order)).litres)))
def cN (l_ : List Order) : List (Acequialaw27Key×Int) :=(match az (uC l_) l_.length 0 ([]) with | .inl x=> x.elim | .inr s_0=> s_0)
@[go_sem] def KL : List SV→Option Con:=(pR .order fun l_=> (pE (.det True (.nm .acequialaw27Key .int (cN l_)))))
@[go_sem] def fQ (l_ : List Claim) (c : Claim) (k_0 : Nat) (s_0 : Unit) : Unit⊕Unit:=(bif (((l_.getD k_0 (default : Claim)).right==c.right) && (((l_.getD k_0 (default : Claim)).farm==c.farm) && (((l_.getD k_0 (default : Claim)).hour==c.hour) && (((l_.getD k_0 (default : Claim)).litres==c.litres) && ((l_.getD k_0 (default : Claim)).rank==c.rank))))) then .inl () else .inr ())
def eE (l_ : List Claim) (c : Claim) : Bool:=(match az (fQ l_ c) l_.length 0 () with | .inl x_0_0=> true | .inr s_0=> false)
@[go_sem] def sN : List SV→Option Con:=(pR .claim fun l_=> (pD .claim fun c=> (pE (.det True (.v (.bool (eE l_ c)))))))
set_option maxHeartbeats 4000000 in
theorem xw : FnOk Tryz.prog 23 sN:=by
 have hG : ConsOk Tryz.prog (mkG [] []) :=aQ cg0 cg0
 refine a8 [.o] mixed aH hG (fn:=Tryz.f23) (c:=an Tryz.f23) (by kernel_rfl) (by kernel_rfl) (by kernel_rfl) (by kernel_rfl) (dl fun l_=> (bI fun c=> (aN (fun hp=> ?_))))
 dsimp only [aT] at hp
 refine ⟨Nat.le_of_ble_eq_true rfl,(fun id st=> bif Nat.beq id 0 then some (LCR (ρ:=Unit) (σ:=Unit) 1 [] [0] (fun k_0 s_0=> ⟨[(3,.ptr 0 0),(7,.rs .claim l_),(8,.v (.int .i64 (l_.length : Int))),(9,.v (.int .i64 (k_0 : Int)))],[.cells (cellsOf .claim c)]⟩) (fQ l_ c) pT l_.length () (l_.length≤bg) (fun _=> .ret) (fun x_0_0=> ⟨[(4,.v (.bool true))],[.dead]⟩) st) else none),?_,?_⟩
 ·unfold an Tryz.f23
  simp only [aA,true_and,and_true]
  ·refine db mixed aH hG (by kernel_rfl) (fun _=> rfl) (l_.length : Int) rfl kQ (fun hb0 k_0 s_0 hlt0 _ hw hc=> ⟨L0,ay _,?_⟩) (fun hb0 s_0 hc=> ?_)
   ·exact KI
   ·exact KJ
 ·unfold an Tryz.f23
  try unfold eE
  simp only [go_sem,Nat.reduceBEq,Nat.reduceLeDiff,Nat.reduceLT,decide_true,Nat.reduceAdd,Nat.reduceSub,Nat.reduceMul,Int.reduceLE,Int.reduceLT,Int.reduceToNat,Int.reduceNeg,reduceCtorEq]
  all_goals exact cl
def cX (a : Claim) (b : Claim) : Bool:=(bif (a.rank !=b.rank) then (decide (a.rank < b.rank)) else (bif (a.right !=b.right) then (decide (a.right < b.right)) else (bif (a.farm !=b.farm) then (decide (a.farm < b.farm)) else (decide (a.hour < b.hour)))))
@[go_sem] def lP : List SV→Option Con:=(pD .claim fun a=> (pD .claim fun b=> (pE (.det True (.v (.bool (cX a b)))))))
theorem og : FnOk Tryz.prog 40 lP:=by
 have hG : ConsOk Tryz.prog (mkG [] []) :=aQ cg0 cg0
 refine a8 [.o] mixed aH hG (fn:=Tryz.f40) (c:=an Tryz.f40) (by kernel_rfl) (by kernel_rfl) (by kernel_rfl) (by kernel_rfl) (bI fun a=> (bI fun b=> (aN (fun hp=> ?_))))
 dsimp only [aT] at hp
 refine ⟨Nat.le_of_ble_eq_true rfl,L0,ay _,?_⟩
 ·unfold an Tryz.f40
  try unfold cX
  simp only [go_sem,Nat.reduceBEq,Nat.reduceLeDiff,Nat.reduceLT,decide_true,Nat.reduceAdd,Nat.reduceSub,Nat.reduceMul,Int.reduceLE,Int.reduceLT,Int.reduceToNat,Int.reduceNeg,reduceCtorEq]
  all_goals exact cl
def cF (a : Claim) (b : Claim) : Bool:=(bif (a.hour !=b.hour) then (decide (a.hour < b.hour)) else (cX a b))
@[go_sem] def py : List SV→Option Con:=(pD .claim fun a=> (pD .claim fun b=> (pE (.det True (.v (.bool (cF a b)))))))
theorem uD : FnOk Tryz.prog 41 py:=by
 have hG : ConsOk Tryz.prog (mkG [(40,lP)] []) :=aQ (cgc og cg0) cg0
 refine a8 [.o] mixed aH hG (fn:=Tryz.f41) (c:=an Tryz.f41) (by kernel_rfl) (by kernel_rfl) (by kernel_rfl) (by kernel_rfl) (bI fun a=> (bI fun b=> (aN (fun hp=> ?_))))
 dsimp only [aT] at hp
 refine ⟨Nat.le_of_ble_eq_true rfl,L0,ay _,?_⟩
 ·unfold an Tryz.f41
  try unfold cF
  simp only [go_sem,Nat.reduceBEq,Nat.reduceLeDiff,Nat.reduceLT,decide_true,Nat.reduceAdd,Nat.reduceSub,Nat.reduceMul,Int.reduceLE,Int.reduceLT,Int.reduceToNat,Int.reduceNeg,reduceCtorEq]
  all_goals exact cl
@[go_sem] def ew (l_ : List Claim) (x : Claim) (k_0 : Nat) (s_0 : Int) : Int⊕Int:=(bif ((decide (s_0 < (l_.length : Int))) && (cF (l_.getD (Int.toNat s_0) (default : Claim)) x)) then .inr (IntKind.i64.wrap (s_0 + 1)) else .inl s_0)
def ia (l_ : List Claim) (x : Claim) (k_0 : Nat) (s_0 : Int) : Prop:=(l_.length≤bg→((decide (s_0 < (l_.length : Int)))=true→(0≤s_0∧s_0 < (l_.length : Int))))
def bb (l_ : List Claim) (x : Claim) : List Claim:=(match az (ew l_ x) (l_.length + 1) 0 0 with | .inl x_0_0=> (((([]) ++ ((l_.take (Int.toNat x_0_0)).drop 0)) ++ ([x])) ++ ((l_.take (Int.toNat (l_.length : Int))).drop (Int.toNat x_0_0))) | .inr s_0=> default)
def kV (l_ : List Claim) (x : Claim) : Prop:=(okI (ew l_ x) (ia l_ x) (l_.length + 1) 0 0∧(∀ z_,az (ew l_ x) (l_.length + 1) 0 0≠ .inr z_)∧(∀ x_0_0,az (ew l_ x) (l_.length + 1) 0 0= .inl x_0_0→((0≤0∧0≤x_0_0∧x_0_0≤(l_.length : Int))∧(((([]) ++ ((l_.take (Int.toNat x_0_0)).drop 0)).length * 40≤dY)∧((([]) ++ ((l_.take (Int.toNat x_0_0)).drop 0)).length≤bg→((((([]) ++ ((l_.take (Int.toNat x_0_0)).drop 0)) ++ ([x])).length * 40≤dY)∧(((([]) ++ ((l_.take (Int.toNat x_0_0)).drop 0)) ++ ([x])).length≤bg→((0≤x_0_0∧x_0_0≤(l_.length : Int)∧(l_.length : Int)≤(l_.length : Int))∧((((([]) ++ ((l_.take (Int.toNat x_0_0)).drop 0)) ++ ([x])) ++ ((l_.take (Int.toNat (l_.length : Int))).drop (Int.toNat x_0_0))).length * 40≤dY)))))))))
@[go_sem] def sO : List SV→Option Con:=(pR .claim fun l_=> (pD .claim fun x=> (pE (.det (kV l_ x) (.nw .claim (bb l_ x))))))
set_option maxHeartbeats 4000000 in
theorem xx : FnOk Tryz.prog 22 sO:=by
 have hG : ConsOk Tryz.prog (mkG [(41,py)] []) :=aQ (cgc uD cg0) cg0
 refine qW true mixed aH hG (fn:=Tryz.f22) (c:=an Tryz.f22) (by kernel_rfl) (by kernel_rfl) (by kernel_rfl) (by kernel_rfl) (dl fun l_=> (bI fun x=> (aN (fun hp=> ?_))))
 dsimp only [aT] at hp
 unfold kV at hp
 refine ⟨Nat.le_of_ble_eq_true rfl,(fun id st=> bif Nat.beq id 0 then some (LCV (ρ:=Int) (σ:=Int) 1 [] [0] (fun k_0 s_0=> ⟨[(0,.rs .claim l_),(3,.ptr 0 0),(5,.v (.int .i64 s_0))],[.cells (cellsOf .claim x)]⟩) (ew l_ x) (ia l_ x) (l_.length + 1) 0 (fun _=> .normal) (fun x_0_0=> ⟨[(0,.rs .claim l_),(3,.ptr 0 0),(5,.v (.int .i64 x_0_0))],[.cells (cellsOf .claim x)]⟩) st) else none),?_,?_⟩
 ·unfold an Tryz.f22
  simp only [aA,true_and,and_true]
  ·refine v8 mixed aH hG (by kernel_rfl) (fun _=> rfl) fun k_0 s_0 hq0=> ⟨L0,ay _,?_⟩
   ·unfold ia at hq0
    exact KK
 ·unfold an Tryz.f22
  try unfold bb
  simp only [go_sem,Nat.reduceBEq,Nat.reduceLeDiff,Nat.reduceLT,decide_true,Nat.reduceAdd,Nat.reduceSub,Nat.reduceMul,Int.reduceLE,Int.reduceLT,Int.reduceToNat,Int.reduceNeg,reduceCtorEq]
  all_goals exact cl
end Go.Sx
end
section
namespace Go.Sx
@[go_sem ↓] theorem Uz (x : Reach) : mkE .reach [.v (.string x.name),.v (.int .i64 x.up),.v (.int .i64 x.delay),.v (.int .i64 x.cap),.v (.int .i64 x.bank),.v (.int .i64 x.siphon),.v (.int .i64 x.evap.lo),.v (.int .i64 x.evap.hi),.v (.int .i64 x.seep.1.n),.v (.int .i64 x.seep.1.d),.v (.int .i64 x.seep.2.n),.v (.int .i64 x.seep.2.d)]=x:=(rfl)
@[go_sem ↓] theorem UA (x : Order) : mkE .order [.v (.int .i64 x.hour),.v (.int .i64 x.index),.v (.int .i64 x.litres),.v (.bool x.outlet)]=x:=(rfl)
@[go_sem ↓] theorem UB (x : Claim) : mkE .claim [.v (.int .i64 x.right),.v (.int .i64 x.farm),.v (.int .i64 x.hour),.v (.int .i64 x.litres),.v (.int .i64 x.rank)]=x:=(rfl)
@[go_sem ↓] theorem Wf (x : Tank) : mkE .tank [.v (.int .i64 x.cap),.v (.int .i64 x.start)]=x:=(rfl)
end Go.Sx
end
section
namespace Go.Sx
open Go.Proofs
set_option maxRecDepth 100000
set_option linter.unusedSimpArgs false
@[go_sem] def pz (a1 : List Claim) (k_0 : Nat) (s_0 : List (Acequialaw27Key×Int)) : Empty⊕(List (Acequialaw27Key×Int)) := .inr (dn .acequialaw27Key .int s_0 ({ outlet:=true,index:=(a1.getD k_0 (default : Claim)).farm,hour:=(a1.getD k_0 (default : Claim)).hour} : Acequialaw27Key) (IntKind.i64.wrap ((aD .acequialaw27Key .int s_0 ({ outlet:=true,index:=(a1.getD k_0 (default : Claim)).farm,hour:=(a1.getD k_0 (default : Claim)).hour} : Acequialaw27Key)) + (a1.getD k_0 (default : Claim)).litres)))
@[go_sem] def lQ (a2 : List Order) (s_0 : List (Acequialaw27Key×Int)) (k_1 : Acequialaw27Key×Int) (s_1 : Unit) : Unit⊕Unit:=(bif (decide ((aD .acequialaw27Key .int (cN a2) k_1.1) < k_1.2)) then .inl () else .inr ())
def tJ (a2 : List Order) (s_0 : List (Acequialaw27Key×Int)) (k_1 : Acequialaw27Key×Int) (s_1 : Unit) : Prop:=True
@[go_sem] def pA (a0 : District) (a2 : List Order) (k_2 : Nat) (k_3 : Nat) (k_4 : Nat) (s_4 : Int×Int) : Int⊕(Int×Int) :=(bif (decide (s_4.2≤(k_3 : Int))) then .inr ((IntKind.i64.wrap (s_4.1 + (aD .acequialaw27Key .int (cN a2) ({ outlet:=false,index:=(k_2 : Int),hour:=s_4.2} : Acequialaw27Key)))),(IntKind.i64.wrap (s_4.2 + 1))) else .inl s_4.1)
@[go_sem] def wV (a0 : District) (a2 : List Order) (k_2 : Nat) (k_3 : Nat) (k_5 : Nat) (s_5 : Int) : Empty⊕Int:=(bif ((a0.reaches.getD k_5 (default : Reach)).up==(k_2 : Int)) then .inr (IntKind.i64.wrap (s_5 + (aD .acequialaw27Key .int (cN a2) ({ outlet:=false,index:=(k_5 : Int),hour:=(k_3 : Int)} : Acequialaw27Key)))) else .inr s_5)
@[go_sem] def wW (a0 : District) (a2 : List Order) (k_2 : Nat) (k_3 : Nat) (k_6 : Nat) (s_6 : Int) : Empty⊕Int:=(bif ((a0.farms.getD k_6 (default : Farm)).reach==(k_2 : Int)) then .inr (IntKind.i64.wrap (s_6 + (aD .acequialaw27Key .int (cN a2) ({ outlet:=true,index:=(k_6 : Int),hour:=(k_3 : Int)} : Acequialaw27Key)))) else .inr s_6)
@[go_sem] def pC (a0 : District) (a2 : List Order) (k_2 : Nat) (k_3 : Nat) (s_3 : Int) : Unit⊕Int:=(match az (pA a0 a2 k_2 k_3) (1 + Int.toNat (a0.reaches.getD k_2 (default : Reach)).delay) 0 (0,(IntKind.i64.wrap ((IntKind.i64.wrap ((k_3 : Int) - (a0.reaches.getD k_2 (default : Reach)).delay)) + 1))) with | .inl x_4_0=> (bif (((decide ((aD .acequialaw27Key .int (cN a2) ({ outlet:=false,index:=(k_2 : Int),hour:=(k_3 : Int)} : Acequialaw27Key)) > (a0.reaches.getD k_2 (default : Reach)).cap)) || ((decide ((aD .acequialaw27Key .int (cN a2) ({ outlet:=false,index:=(k_2 : Int),hour:=(k_3 : Int)} : Acequialaw27Key)) > 0)) && (decide ((aD .acequialaw27Key .int (cN a2) ({ outlet:=false,index:=(k_2 : Int),hour:=(k_3 : Int)} : Acequialaw27Key)) < (a0.reaches.getD k_2 (default : Reach)).siphon)))) || (decide (x_4_0 > (a0.reaches.getD k_2 (default : Reach)).bank))) then .inl () else (match az (wV a0 a2 k_2 k_3) a0.reaches.length 0 0 with | .inl x=> x.elim | .inr s_5=> (match az (wW a0 a2 k_2 k_3) a0.farms.length 0 s_5 with | .inl x=> x.elim | .inr s_6=> (bif (((dp (a0.reaches.getD k_2 (default : Reach)) (aD .acequialaw27Key .int (cN a2) ({ outlet:=false,index:=(k_2 : Int),hour:=(IntKind.i64.wrap ((k_3 : Int) - (a0.reaches.getD k_2 (default : Reach)).delay))} : Acequialaw27Key))).2 !=0) || (decide ((dp (a0.reaches.getD k_2 (default : Reach)) (aD .acequialaw27Key .int (cN a2) ({ outlet:=false,index:=(k_2 : Int),hour:=(IntKind.i64.wrap ((k_3 : Int) - (a0.reaches.getD k_2 (default : Reach)).delay))} : Acequialaw27Key))).1 < s_6))) then .inl () else .inr (bif ((k_2 : Int) ==0) then (IntKind.i64.wrap (s_3 + (aD .acequialaw27Key .int (cN a2) ({ outlet:=false,index:=(k_2 : Int),hour:=(k_3 : Int)} : Acequialaw27Key)))) else s_3))))) | .inr s_4=> .inr default)
def tK (a0 : District) (a2 : List Order) (k_2 : Nat) (k_3 : Nat) (s_3 : Int) : Prop:=(∀ z_,az (pA a0 a2 k_2 k_3) (1 + Int.toNat (a0.reaches.getD k_2 (default : Reach)).delay) 0 (0,(IntKind.i64.wrap ((IntKind.i64.wrap ((k_3 : Int) - (a0.reaches.getD k_2 (default : Reach)).delay)) + 1)))≠ .inr z_)
@[go_sem] def pF (a0 : District) (a2 : List Order) (k_2 : Nat) (s_2 : Int) : Unit⊕Int:=(match az (pC a0 a2 k_2) (Int.toNat a0.hours) 0 s_2 with | .inl x_3_0=> .inl () | .inr s_3=> .inr s_3)
def tL (a0 : District) (a2 : List Order) (k_2 : Nat) (s_2 : Int) : Prop:=((a0.hours < 9223372036854775808)∧okI (pC a0 a2 k_2) (tK a0 a2 k_2) (Int.toNat a0.hours) 0 s_2)
def By (a0 : District) (a1 : List Claim) (a2 : List Order) : Bool:=(match az (pz a1) a1.length 0 ([]) with | .inl x=> x.elim | .inr s_0=> (match cq (lQ a2 s_0) s_0 () with | .inl x_1_0=> false | .inr s_1=> (match az (pF a0 a2) a0.reaches.length 0 0 with | .inl x_2_0=> false | .inr s_2=> (decide (s_2≤a0.tank.start)))))
def xy (a0 : District) (a1 : List Claim) (a2 : List Order) : Prop:=(a1.length≤bg→(∀ s_0,az (pz a1) a1.length 0 ([])= .inr s_0→(okM (lQ a2 s_0) (tJ a2 s_0) s_0 ()∧(∀ s_1,cq (lQ a2 s_0) s_0 ()= .inr s_1→(a0.reaches.length≤bg→okI (pF a0 a2) (tL a0 a2) a0.reaches.length 0 0)))))
@[go_sem] def Ln : List SV→Option Con:=(pD .district fun a0=> (pR .claim fun a1=> (pR .order fun a2=> (pE (.det (xy a0 a1 a2) (.v (.bool (By a0 a1 a2))))))))
end Go.Sx
end
section
namespace Go.Sx
open Go.Proofs
section
variable {d : District} {c : List Claim} {l : List Order}
end
end Go.Sx
end
section
namespace Go.Sx
open Go.Proofs
section
variable {d : District} {c : List Claim} {l : List Order}
end
end Go.Sx
end
