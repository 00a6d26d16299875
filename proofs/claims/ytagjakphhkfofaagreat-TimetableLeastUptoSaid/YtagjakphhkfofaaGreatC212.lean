/- Part of the proof that the law TimetableLeast returns true and leaves its arguments as they were, for all arguments of bulk at most 1048576 (the Upto form). -/
import Derived.Test.YtagjakphhkfofaaGreatC211
import Derived.Test.YtagjakphhkfofaaGreatC207
import Derived.Test.YtagjakphhkfofaaGreatC206
import Derived.Deep.Slices
import Derived.OpenShut
import Derived.ChangeSame
import Derived.WideKeyArgs
import Derived.Below
import Derived.Test.YtagjakphhkfofaaGreatRows
import Derived.WalkKit
import Derived.ProofKit
import Derived.JoinedCond
import Derived.Carry
set_option linter.all false
section
namespace Go.Sx
open Go.Proofs
section
variable {d : District} {c : List Claim} {l : List Order}
def wl (o : Bool) (i h : Int) : Acequialaw27Key:= { outlet:=o,index:=i,hour:=h}
theorem AW {o o' : Bool} {i i' h h' : Int} : (wl o i h=wl o' i' h')=(o=o'∧i=i'∧h=h') :=by
 unfold wl
 simp only [Acequialaw27Key.mk.injEq]
theorem qI (ho : Orders1 d l) (o : Bool) (i h : Int) : ay .acequialaw27Key .int (aJ l) (wl o i h)=aP (fY h i o) l:=by
 obtain ⟨m,e,hm⟩ :=o5 (step:=kg l) (fun j m=> ∀ o i h,ay .acequialaw27Key .int m (wl o i h)=aP (fY h i o) (l.take j)) l.length 0 [] (fun _ _ _=> rfl) (fun j m _ hj hm=> by
  have hj : j < l.length:=by omega
  have hlit:=ho.lit _ (List.getElem_mem hj)
  refine ⟨_,rfl,fun o i h=> ?_⟩
  rw [dp _ _ hj]
  show ay .acequialaw27Key .int (c5 .acequialaw27Key .int m (wl l[j].outlet l[j].index l[j].hour) (IntKind.i64.wrap (ay .acequialaw27Key .int m (wl l[j].outlet l[j].index l[j].hour) + l[j].litres))) (wl o i h)=_
  have hb:=yO ho (fY l[j].hour l[j].index l[j].outlet) j
  rw [fV,hm,hm,cp (by omega) (by omega),kO hj]
  by_cases q : wl o i h=wl l[j].outlet l[j].index l[j].hour
  ·rw [if_pos q]
   rw [AW] at q
   obtain ⟨rfl,rfl,rfl⟩ :=q
   have : fY l[j].hour l[j].index l[j].outlet l[j]=true:=by unfold fY;simp
   rw [this,cond_true]
  ·rw [if_neg q]
   have : fY h i o l[j]=false:=by
    cases hc : fY h i o l[j] with
    | false=> rfl
    | true=>
     unfold fY at hc
     simp only [Bool.and_eq_true,beq_iff_eq] at hc
     exact absurd (by rw [AW];exact ⟨hc.2.symm,hc.1.2.symm,hc.1.1.symm⟩) q
   rw [this,cond_false,Int.add_zero])
 rw [Nat.zero_add,List.take_length] at hm
 unfold aJ
 simp only [e]
 exact hm o i h
theorem pe (ho : Orders1 d l) (i h : Int) : ay .acequialaw27Key .int (aJ l) ({ outlet:=false,index:=i,hour:=h} : Acequialaw27Key)=aP (aV i h h) l:=
 (qI ho false i h).trans (nv fun x _=> Cd i h x)
theorem qJ (ho : Orders1 d l) (i h : Int) : ay .acequialaw27Key .int (aJ l) ({ outlet:=true,index:=i,hour:=h} : Acequialaw27Key)=aP (mn i h) l:=
 (qI ho true i h).trans (nv fun x _=> FP i h x)
theorem AX {c : List Claim} (h : okL1 c) : ∃ m,aw (cH c) c.length 0 []= .inr m∧SM .acequialaw27Key (fun p=> if p.outlet=true then lA c p.index p.hour else 0) m:=by
 obtain ⟨m,e,hm⟩ :=o5 (step:=cH c) (fun j m=> SM .acequialaw27Key (fun p=> if p.outlet=true then lA (c.take j) p.index p.hour else 0) m) c.length 0 [] (by
  refine SM.congr SM.nil fun p=> ?_
  simp only [List.take_zero,lA,eA,ite_self]) (fun j m _ hj hm=> by
  have hj : j < c.length:=by omega
  refine ⟨_,rfl,?_⟩
  rw [dp _ _ hj]
  have h1:=ED (h.take j) c[j].farm c[j].hour
  have h2:=h.2 _ (List.getElem_mem hj)
  have h3:=hm.get ({ outlet:=true,index:=c[j].farm,hour:=c[j].hour} : Acequialaw27Key)
  simp only [if_true] at h3
  refine hm.put _ (v:=_) ?_ fun p=> ?_
  ·rw [h3,cp (by omega) (by omega)];omega
  ·rw [h3,cp (by omega) (by omega)]
   by_cases hp : p=({ outlet:=true,index:=c[j].farm,hour:=c[j].hour} : Acequialaw27Key)
   ·subst hp
    rw [if_pos rfl,if_pos rfl,s5 hj,if_pos (by rfl)]
   ·rw [if_neg hp]
    by_cases ho : p.outlet=true
    ·rw [if_pos ho,if_pos ho,s5 hj,if_neg (fun q=> hp (by
      unfold oP qF at q
      simp only [CertifyPlace.mk.injEq] at q
      obtain ⟨a,b,t⟩ :=p
      simp only [Acequialaw27Key.mk.injEq]
      exact ⟨ho,q.2.1,q.1⟩))]
     exact Int.add_zero _
    ·rw [if_neg ho,if_neg ho])
 rw [Nat.zero_add,List.take_length] at hm
 exact ⟨m,e,hm⟩
theorem wm (ho : Orders1 d l) {i h : Nat} (hh : h≤4096) {dl : Nat} (hd : dl≤16) : ∀ (m n j t : Nat),t + m=dl→m < n→
  aw (d9 d l i h) n j (aP (aV i ((h : Int) - dl + 1) ((h : Int) - dl + t)) l,(h : Int) - dl + 1 + t)= .inl (aP (aV i ((h : Int) - dl + 1) h) l)
 | 0,n + 1,j,t,e1,_=> by
  simp only [aw]
  unfold d9
  simp only
  rw [decide_eq_false (by omega),cond_false,show (h : Int) - dl + t=h by omega]
 | m + 1,n + 1,j,t,e1,hn=> by
  simp only [aw]
  have ih:=wm ho (i:=i) hh hd m n (j + 1) (t + 1) (by omega) (by omega)
  have a1:=mo ho (aV i ((h : Int) - dl + 1) ((h : Int) - dl + t))
  have a2:=qG ho (i : Int) ((h : Int) - dl + 1 + t)
  have a3:=vQ ho (i : Int) (a:=(h : Int) - dl + 1) (m:=(h : Int) - dl + 1 + t) (b:=(h : Int) - dl + 1 + t) (by omega) (by omega)
  rw [show (h : Int) - dl + 1 + t - 1=(h : Int) - dl + t by omega] at a3
  unfold d9
  simp only
  rw [decide_eq_true (by omega),cond_true,pe ho,cp (by omega) (by omega),cp (by omega) (by omega),a3]
  simp only
  rw [show (h : Int) - dl + ((t + 1 : Nat) : Int)=(h : Int) - dl + 1 + t by omega,show (h : Int) - dl + 1 + ((t + 1 : Nat) : Int)=(h : Int) - dl + 1 + t + 1 by omega] at ih
  exact ih
def dgP (d : District) (i h : Int) (k : Int) (x : Order) : Bool:=(x.hour==h) && (!x.outlet && (d.reaches.getD x.index.toNat default).up==i && decide (x.index < k))
def doP (d : District) (i h : Int) (k : Int) (x : Order) : Bool:=(x.hour==h) && (x.outlet && (d.farms.getD x.index.toNat default).reach==i && decide (x.index < k))
theorem Ol (hg : Good d l) (i h : Nat) : aw (eS d l i h) d.reaches.length 0 0= .inr (aP (dgP d i h d.reaches.length) l) :=by
 have ho:=hg.orders
 obtain ⟨s,e,hs⟩ :=o5 (step:=eS d l i h) (fun k s=> s=aP (dgP d i h k) l) d.reaches.length 0 0 (by
  refine (eo fun x hx=> ?_).symm
  have:=(hg.one x hx).index0
  unfold dgP
  rw [decide_eq_false (by omega),Bool.and_false,Bool.and_false]) (fun k s _ hk hs=> by
  have hk : k < d.reaches.length:=by omega
  have a1:=mo ho (dgP d i h k)
  have a2:=qG ho (k : Int) (h : Int)
  have key : ∀ x∈l,dgP d i h ((k + 1 : Nat) : Int) x=(dgP d i h k x || ((d.reaches.getD k (default : Reach)).up==(i : Int) && aV k h h x))∧(dgP d i h k x && ((d.reaches.getD k (default : Reach)).up==(i : Int) && aV k h h x))=false:=fun x hx=> by
   have h0:=(hg.one x hx).index0
   unfold dgP aV
   constructor
   ·refine xH ?_
    simp only [Bool.and_eq_true,Bool.or_eq_true,Bool.not_eq_true',beq_iff_eq,decide_eq_true_eq]
    constructor
    ·rintro ⟨h1,⟨h2,h3⟩,h4⟩
     by_cases q : x.index < k
     ·exact .inl ⟨h1,⟨h2,h3⟩,q⟩
     ·have : x.index.toNat=k:=by omega
      rw [this] at h3
      exact .inr ⟨h3,⟨⟨h2,by omega⟩,by omega⟩,by omega⟩
    ·rintro (⟨h1,⟨h2,h3⟩,h4⟩ | ⟨h3,⟨⟨h2,h5⟩,h6⟩,h7⟩)
     ·exact ⟨h1,⟨h2,h3⟩,by omega⟩
     ·have : x.index.toNat=k:=by omega
      rw [this]
      exact ⟨by omega,⟨h2,h3⟩,by omega⟩
   ·refine Bool.eq_false_iff.2 fun q=> ?_
    simp only [Bool.and_eq_true,Bool.not_eq_true',beq_iff_eq,decide_eq_true_eq] at q
    obtain ⟨⟨_,_,q1⟩,_,⟨⟨_,q2⟩,_⟩,_⟩ :=q
    omega
  have hsum:=rJ key
  unfold eS
  cases hu : ((d.reaches.getD k (default : Reach)).up==(i : Int)) with
  | true=>
   rw [hu] at hsum
   simp only [Bool.true_and] at hsum
   have hsum : aP (dgP d i h k) l + aP (aV k h h) l=aP (dgP d i h ((k + 1 : Nat) : Int)) l:=hsum
   rw [cond_true,pe ho,hs,cp (by omega) (by omega),hsum]
   exact ⟨_,rfl,rfl⟩
  | false=>
   rw [hu] at hsum
   simp only [Bool.false_and] at hsum
   have h0 : aP (fun _=> false) l=0:=eo fun _ _=> rfl
   rw [h0,Int.add_zero] at hsum
   rw [cond_false,hs,hsum]
   exact ⟨_,rfl,rfl⟩)
 rw [Nat.zero_add] at hs
 rw [e,hs]
theorem Om (hg : Good d l) (i h : Nat) {s0 : Int} (h0 : 0≤s0) (h1 : s0≤4398046511104) : aw (f7 d l i h) d.farms.length 0 s0= .inr (s0 + aP (doP d i h d.farms.length) l) :=by
 have ho:=hg.orders
 obtain ⟨s,e,hs⟩ :=o5 (step:=f7 d l i h) (fun k s=> s=s0 + aP (doP d i h k) l) d.farms.length 0 s0 (by
  have : aP (doP d i h ((0 : Nat) : Int)) l=0:=eo fun x hx=> by
   have:=(hg.one x hx).index0
   unfold doP
   rw [decide_eq_false (by omega),Bool.and_false,Bool.and_false]
  rw [this,Int.add_zero]) (fun k s _ hk hs=> by
  have hk : k < d.farms.length:=by omega
  have a1:=mo ho (doP d i h k)
  have a2:=mo ho (mn k h)
  have key : ∀ x∈l,doP d i h ((k + 1 : Nat) : Int) x=(doP d i h k x || ((d.farms.getD k (default : Farm)).reach==(i : Int) && mn k h x))∧(doP d i h k x && ((d.farms.getD k (default : Farm)).reach==(i : Int) && mn k h x))=false:=fun x hx=> by
   have h0:=(hg.one x hx).index0
   unfold doP mn
   constructor
   ·refine xH ?_
    simp only [Bool.and_eq_true,Bool.or_eq_true,beq_iff_eq,decide_eq_true_eq]
    constructor
    ·rintro ⟨h1,⟨h2,h3⟩,h4⟩
     by_cases q : x.index < k
     ·exact .inl ⟨h1,⟨h2,h3⟩,q⟩
     ·have : x.index.toNat=k:=by omega
      rw [this] at h3
      exact .inr ⟨h3,⟨h2,by omega⟩,h1⟩
    ·rintro (⟨h1,⟨h2,h3⟩,h4⟩ | ⟨h3,⟨h2,h5⟩,h6⟩)
     ·exact ⟨h1,⟨h2,h3⟩,by omega⟩
     ·have : x.index.toNat=k:=by omega
      rw [this]
      exact ⟨h6,⟨h2,h3⟩,by omega⟩
   ·refine Bool.eq_false_iff.2 fun q=> ?_
    simp only [Bool.and_eq_true,beq_iff_eq,decide_eq_true_eq] at q
    obtain ⟨⟨_,_,q1⟩,_,⟨_,q2⟩,_⟩ :=q
    omega
  have hsum:=rJ key
  unfold f7
  cases hu : ((d.farms.getD k (default : Farm)).reach==(i : Int)) with
  | true=>
   rw [hu] at hsum
   simp only [Bool.true_and] at hsum
   have hsum : aP (doP d i h k) l + aP (mn k h) l=aP (doP d i h ((k + 1 : Nat) : Int)) l:=hsum
   rw [cond_true,qJ ho,hs,cp (by omega) (by omega)]
   exact ⟨_,rfl,by omega⟩
  | false=>
   rw [hu] at hsum
   simp only [Bool.false_and] at hsum
   have h0 : aP (fun _=> false) l=0:=eo fun _ _=> rfl
   rw [h0,Int.add_zero] at hsum
   rw [cond_false,hs,hsum]
   exact ⟨_,rfl,rfl⟩)
 rw [Nat.zero_add] at hs
 rw [e,hs]
theorem FX (hg : Good d l) (i h : Nat) : aP (dgP d i h d.reaches.length) l + aP (doP d i h d.farms.length) l=drw d l i h:=rJ fun x hx=> by
 have h1:=hg.one x hx
 have h3:=h1.farm
 have h4:=h1.reach
 unfold dgP doP mV
 cases ho : x.outlet with
 | true=>
  have:=h3 ho
  rw [decide_eq_true this]
  simp
 | false=>
  have:=h4 ho
  rw [decide_eq_true this]
  simp
end
end Go.Sx
end
section
namespace Go.Sx
open Go.Proofs
theorem yV {σ ρ : Type} {step : Nat→σ→ρ⊕σ} {bad : Nat→Bool} {f : Nat→σ→σ} {r : ρ} {J : Nat→σ→Prop} : ∀ (n i : Nat) (s : σ),(∀ j s,i≤j→j < i + n→J j s→step j s=(bif bad j then .inl r else .inr (f j s))∧(bad j=false→J (j + 1) (f j s)))→J i s→
  ((∀ j,i≤j→j < i + n→bad j=false)∧∃ s',aw step n i s= .inr s'∧J (i + n) s')∨((∃ j,i≤j∧j < i + n∧bad j=true)∧aw step n i s= .inl r)
 | 0,i,s,_,h=> .inl ⟨fun j h1 h2=> by omega,s,rfl,h⟩
 | n + 1,i,s,hs,h=> by
  obtain ⟨e,h1⟩ :=hs i s (Nat.le_refl _) (by omega) h
  simp only [aw]
  rw [e]
  cases hb : bad i with
  | true=> exact .inr ⟨⟨i,Nat.le_refl _,by omega,hb⟩,rfl⟩
  | false=>
   rw [cond_false]
   simp only
   rcases yV n (i + 1) (f i s) (fun j s a b=> hs j s (by omega) (by omega)) (h1 hb) with ⟨q1,s',q2,q3⟩ | ⟨⟨j,q1,q2,q3⟩,q4⟩
   ·refine .inl ⟨fun j a b=> ?_,s',q2,?_⟩
    ·by_cases q : j=i
     ·rw [q];exact hb
     ·exact q1 j (by omega) (by omega)
    ·rw [show i + (n + 1)=i + 1 + n by omega];exact q3
   ·exact .inr ⟨⟨j,by omega,by omega,q3⟩,q4⟩
section
variable {d : District} {c : List Claim} {l : List Order}
def mX (d : District) (l : List Order) (i h : Nat) : Bool:=
 (((decide (aP (aV i h h) l > (d.reaches.getD i (default : Reach)).cap)) || ((decide (aP (aV i h h) l > 0)) && (decide (aP (aV i h h) l < (d.reaches.getD i (default : Reach)).siphon)))) || (decide (aP (aV i ((h : Int) - (d.reaches.getD i (default : Reach)).delay + 1) h) l > (d.reaches.getD i (default : Reach)).bank))) ||
 (((bL (d.reaches.getD i (default : Reach)) (aP (aV i ((h : Int) - (d.reaches.getD i (default : Reach)).delay) ((h : Int) - (d.reaches.getD i (default : Reach)).delay)) l)).2 !=0) || (decide ((bL (d.reaches.getD i (default : Reach)) (aP (aV i ((h : Int) - (d.reaches.getD i (default : Reach)).delay) ((h : Int) - (d.reaches.getD i (default : Reach)).delay)) l)).1 < drw d l i h)))
theorem Pe (hg : Good d l) {i h : Nat} (hi : i < d.reaches.length) (hh : h < d.hours.toNat) :
  aw (d9 d l i h) (1 + Int.toNat (d.reaches.getD i (default : Reach)).delay) 0 (0,(IntKind.i64.wrap ((IntKind.i64.wrap ((h : Int) - (d.reaches.getD i (default : Reach)).delay)) + 1)))= .inl (aP (aV i ((h : Int) - (d.reaches.getD i (default : Reach)).delay + 1) h) l) :=by
 have ho:=hg.orders
 have hR:=hg.right
 have hx:=hR.reach1 hi
 have d1:=hx.delay1
 have d2:=hx.delay
 have a1:=hR.hours
 generalize (d.reaches.getD i (default : Reach)).delay=dl at d1 d2 ⊢
 obtain ⟨dl,rfl⟩ :=Int.eq_ofNat_of_zero_le (a:=dl) (by omega)
 have:=wm ho (i:=i) (h:=h) (by omega) (dl:=dl) (by omega) dl (1 + dl) 0 0 (by omega) (by omega)
 rw [cp (n:=(h : Int) - (dl : Int)) (by omega) (by omega),cp (by omega) (by omega)]
 have e0 : aP (aV i ((h : Int) - dl + 1) ((h : Int) - dl + ((0 : Nat) : Int))) l=0:=eo fun x _=> by
  cases hc : aV i ((h : Int) - dl + 1) ((h : Int) - dl + ((0 : Nat) : Int)) x with
  | false=> rfl
  | true=>
   unfold aV at hc
   simp only [Bool.and_eq_true,decide_eq_true_eq] at hc
   omega
 rw [e0] at this
 rw [Int.toNat_natCast,show (h : Int) - dl + 1=(h : Int) - dl + 1 + ((0 : Nat) : Int) by omega]
 rw [show (h : Int) - dl + 1 + ((0 : Nat) : Int)=(h : Int) - dl + 1 + ((0 : Nat) : Int) from rfl] at this
 refine this.trans ?_
 rw [show (h : Int) - dl + 1 + ((0 : Nat) : Int)=(h : Int) - dl + 1 by omega]
theorem On (hg : Good d l) {i h : Nat} (hi : i < d.reaches.length) (hh : h < d.hours.toNat) {s : Int} (s0 : 0≤s) (s1 : s≤8796093022208) :
  df d l i h s=(bif mX d l i h then .inl () else .inr (if i=0 then s + aP (aV i h h) l else s)) :=by
 have ho:=hg.orders
 have hR:=hg.right
 have hx:=hR.reach1 hi
 have d1:=hx.delay1
 have d2:=hx.delay
 have a1:=hR.hours
 have b1:=qG ho (i : Int) (h : Int)
 have b2:=mo ho (dgP d i h d.reaches.length)
 unfold df mX
 simp only [Pe hg hi hh,pe ho,Ol hg,Om hg i h b2.1 b2.2,FX hg]
 rw [cp (n:=(h : Int) - (d.reaches.getD i (default : Reach)).delay) (by omega) (by omega),cp (n:=s + aP (aV i h h) l) (by omega) (by omega)]
 have e0 : ((i : Int) ==0)=decide (i=0) :=by
  by_cases q : i=0
  ·subst q;rfl
  ·rw [decide_eq_false q];simpa using q
 rw [e0]
 generalize (((decide (aP (aV i h h) l > (d.reaches.getD i (default : Reach)).cap)) || ((decide (aP (aV i h h) l > 0)) && (decide (aP (aV i h h) l < (d.reaches.getD i (default : Reach)).siphon)))) || (decide (aP (aV i ((h : Int) - (d.reaches.getD i (default : Reach)).delay + 1) h) l > (d.reaches.getD i (default : Reach)).bank)))=A
 generalize (((bL (d.reaches.getD i (default : Reach)) (aP (aV i ((h : Int) - (d.reaches.getD i (default : Reach)).delay) ((h : Int) - (d.reaches.getD i (default : Reach)).delay)) l)).2 !=0) || (decide ((bL (d.reaches.getD i (default : Reach)) (aP (aV i ((h : Int) - (d.reaches.getD i (default : Reach)).delay) ((h : Int) - (d.reaches.getD i (default : Reach)).delay)) l)).1 < drw d l i h)))=B
 cases A <;> cases B <;> simp
theorem U1 (hg : Good d l) {i : Nat} (hi : i < d.reaches.length) {s0 : Int} (h0 : 0≤s0) (h1 : s0≤4398046511104) :
  ((∀ h,h < d.hours.toNat→mX d l i h=false)∧aw (df d l i) d.hours.toNat 0 s0= .inr (if i=0 then s0 + aP g0P l else s0))∨
  ((∃ h,h < d.hours.toNat∧mX d l i h=true)∧aw (df d l i) d.hours.toNat 0 s0= .inl ()) :=by
 have ho:=hg.orders
 rcases yV (step:=df d l i) (bad:=mX d l i) (f:=fun h s=> if i=0 then s + aP (aV i h h) l else s) (r:=()) (J:=fun h s=> s=if i=0 then s0 + aP (aV (0 : Nat) 0 ((h : Int) - 1)) l else s0) d.hours.toNat 0 s0 (fun j s _ hj hs=> by
   have a1:=mo ho (aV (0 : Nat) 0 ((j : Int) - 1))
   have hb : 0≤s∧s≤8796093022208:=by rw [hs];split <;> omega
   refine ⟨On hg hi (by omega) hb.1 hb.2,fun _=> ?_⟩
   by_cases q : i=0
   ·subst q
    rw [if_pos rfl] at hs
    rw [if_pos rfl,if_pos rfl]
    have:=vQ ho ((0 : Nat) : Int) (a:=0) (m:=(j : Int)) (b:=(j : Int)) (by omega) (by omega)
    rw [show ((j + 1 : Nat) : Int) - 1=(j : Int) by omega]
    omega
   ·rw [if_neg q] at hs
    rw [if_neg q,if_neg q];exact hs) (by
   by_cases q : i=0
   ·rw [if_pos q]
    have : aP (aV (0 : Nat) 0 (((0 : Nat) : Int) - 1)) l=0:=eo fun x _=> by
     cases hc : aV (0 : Nat) 0 (((0 : Nat) : Int) - 1) x with
     | false=> rfl
     | true=>
      unfold aV at hc
      simp only [Bool.and_eq_true,decide_eq_true_eq] at hc
      omega
    rw [this,Int.add_zero]
   ·rw [if_neg q]) with ⟨q1,s',q2,q3⟩ | ⟨⟨j,_,q2,q3⟩,q4⟩
 ·refine .inl ⟨fun h hh=> q1 h (Nat.zero_le _) (by omega),?_⟩
  rw [q2,q3]
  have hH:=hg.right.hours1
  have:=Rb hg
  rw [show (((0 + d.hours.toNat : Nat) : Int) - 1)=((d.hours.toNat - 1 : Nat) : Int) by omega,this]
 ·exact .inr ⟨⟨j,by omega,q3⟩,q4⟩
theorem Rc (hg : Good d l) :
  ((∀ i h,i < d.reaches.length→h < d.hours.toNat→mX d l i h=false)∧aw (d_ d l) d.reaches.length 0 0= .inr (aP g0P l))∨
  (¬ (∀ i h,i < d.reaches.length→h < d.hours.toNat→mX d l i h=false)∧aw (d_ d l) d.reaches.length 0 0= .inl ()) :=by
 have ho:=hg.orders
 have a1:=mo ho g0P
 have hst : ∀ i s,i < d.reaches.length→0≤s→s≤4398046511104→d_ d l i s=match aw (df d l i) d.hours.toNat 0 s with | .inl _=> .inl () | .inr s'=> .inr s':=fun i s _ _ _=> rfl
 let bad : Nat→Bool:=fun i=> !decide (∀ h,h < d.hours.toNat→mX d l i h=false)
 have hbad : ∀ i,bad i=false↔∀ h,h < d.hours.toNat→mX d l i h=false:=fun i=> by
  show (!decide _)=false↔_
  rw [Bool.not_eq_false',decide_eq_true_eq]
 rcases yV (step:=d_ d l) (bad:=bad) (f:=fun i s=> if i=0 then s + aP g0P l else s) (r:=()) (J:=fun i s=> s=if i=0 then 0 else aP g0P l) d.reaches.length 0 0 (fun i s _ hi hs=> by
   have hb : 0≤s∧s≤4398046511104:=by rw [hs];split <;> omega
   have hi : i < d.reaches.length:=by omega
   refine ⟨?_,fun _=> ?_⟩
   ·rw [hst i s hi hb.1 hb.2]
    rcases U1 hg hi hb.1 hb.2 with ⟨q1,q2⟩ | ⟨⟨h,q1,q3⟩,q2⟩
    ·rw [q2,(hbad i).2 q1];rfl
    ·have : bad i=true:=by
      cases hq : bad i with
      | true=> rfl
      | false=> rw [(hbad i).1 hq h q1] at q3;cases q3
     rw [q2,this];rfl
   ·show (if i=0 then s + aP g0P l else s)=if i + 1=0 then 0 else aP g0P l
    rw [(if_neg (Nat.succ_ne_zero i) : (if i + 1=0 then (0 : Int) else aP g0P l)=aP g0P l)]
    by_cases q : i=0
    ·rw [if_pos q] at hs ⊢;omega
    ·rw [if_neg q] at hs ⊢;exact hs) rfl with ⟨q1,s',q2,q3⟩ | ⟨⟨j,_,q2,q3⟩,q4⟩
 ·refine .inl ⟨fun i h hi hh=> (hbad i).1 (q1 i (Nat.zero_le _) (by omega)) h hh,?_⟩
  rw [q2,q3,if_neg (by have:=hg.right.one;omega)]
 ·refine .inr ⟨fun q=> ?_,q4⟩
  have:=(hbad j).2 fun h hh=> q j h (by omega) hh
  rw [this] at q3;cases q3
theorem FY (hg : Good d l) (hc : okL1 c) : eX d c l=true↔(∀ f h,lA c f h≤aP (mn f h) l)∧(∀ i h,i < d.reaches.length→h < d.hours.toNat→mX d l i h=false)∧aP g0P l≤d.tank.start:=by
 have ho:=hg.orders
 obtain ⟨m,e,hm⟩ :=AX hc
 have hw : bK (d8 l m) m ()= .inr ()↔∀ f h,lA c f h≤aP (mn f h) l:=by
  rw [gM]
  have hst : ∀ x,d8 l m x ()=bif decide (ay .acequialaw27Key .int (aJ l) x.1 < x.2) then .inl () else .inr () :=fun _=> rfl
  constructor
  ·intro h f t
   by_cases h0 : lA c f t=0
   ·rw [h0];exact (mo ho _).1
   ·have h1:=h _ (hm.mem (p:= { outlet:=true,index:=f,hour:=t}) (by simp only [if_true];exact h0))
    rw [hst] at h1
    simp only [if_true] at h1
    rw [qJ ho] at h1
    by_cases q : aP (mn f t) l < lA c f t
    ·rw [decide_eq_true q] at h1;cases h1
    ·omega
  ·intro h x hx
   have h1:=hm.entry hx
   rw [hst,h1.1]
   obtain ⟨⟨o,i,t⟩,n⟩ :=x
   simp only at h1 ⊢
   cases o with
   | false=> simp at h1
   | true=>
    simp only [if_true] at h1 ⊢
    rw [qJ ho,decide_eq_false (p:=aP (mn i t) l < lA c i t) (by have:=h i t;omega)]
    rfl
 unfold eX
 simp only [e]
 cases hr : bK (d8 l m) m () with
 | inl x=> simp only [Bool.false_eq_true,false_iff];intro q;rw [hw.2 q.1] at hr;cases hr
 | inr s=>
  have h1:=hw.1 hr
  simp only
  rcases Rc hg with ⟨q1,q2⟩ | ⟨q1,q2⟩
  ·rw [q2]
   simp only [decide_eq_true_eq]
   exact ⟨fun q=> ⟨h1,q1,q⟩,fun q=> q.2.2⟩
  ·rw [q2]
   simp only [Bool.false_eq_true,false_iff]
   exact fun q=> q1 q.2.1
theorem JZ (hg : Good d l) (hc : okL1 c) : jH d c l:=by
 obtain ⟨m,e,hm⟩ :=AX hc
 intro _ s hs
 rw [e] at hs
 simp only [Sum.inr.injEq] at hs
 subst hs
 refine ⟨Jh fun x _=> trivial,fun _ _ _=> ?_⟩
 have hH:=hg.right.hours
 refine kF (fun _ _=> True) _ _ _ trivial fun i s _ hi _=> ⟨⟨by omega,kF (fun _ _=> True) _ _ _ trivial fun h s _ hh _=> ⟨fun z hz=> ?_,fun _ _=> trivial⟩⟩,fun _ _=> trivial⟩
 rw [Pe hg (by omega) (by omega)] at hz
 cases hz
theorem pA {i h : Nat} : mX d l i h=false↔aP (aV i h h) l≤(rch d i).cap∧¬ (0 < aP (aV i h h) l∧aP (aV i h h) l < (rch d i).siphon)∧aP (aV i ((h : Int) - (rch d i).delay + 1) h) l≤(rch d i).bank∧
  (bL (rch d i) (aP (aV i ((h : Int) - (rch d i).delay) ((h : Int) - (rch d i).delay)) l)).2=0∧drw d l i h≤(bL (rch d i) (aP (aV i ((h : Int) - (rch d i).delay) ((h : Int) - (rch d i).delay)) l)).1:=by
 have e4 : d.reaches.getD i (default : Reach)=rch d (i : Int) :=by show _=d.reaches.getD (Int.toNat (i : Int)) default;rw [Int.toNat_natCast]
 unfold mX
 rw [e4]
 simp only [Bool.or_eq_false_iff,Bool.and_eq_false_iff,decide_eq_false_iff_not,bne_eq_false_iff_eq]
 omega
theorem yW (hg : Good d l) (hw : (d.reaches.length : Int) * d.hours≤1024) (h1 : ∀ f h,lA c f h≤aP (mn f h) l) (h2 : ∀ i h,i < d.reaches.length→h < d.hours.toNat→mX d l i h=false) (h3 : aP g0P l≤d.tank.start) : Srv d c l:=by
 have ho:=hg.orders
 refine ⟨⟨hg,fun x hx hout=> ?_,fun r t hr0 hd=> ?_⟩,hw,⟨fun t i ht hi=> (pA.1 (h2 i t hi ht)).1,fun t i ht hi=> (pA.1 (h2 i t hi ht)).2.2.1,h3⟩,h1⟩
 ·have q:=hg.one x hx
  have i0:=q.index0
  have i1:=q.reach hout
  have t0:=q.hour0
  have t1:=q.hour
  have:=(pA.1 (h2 x.index.toNat x.hour.toNat (by omega) (by omega))).2.1
  rw [Int.toNat_of_nonneg i0,Int.toNat_of_nonneg t0,←xP,Jj hg.keys hx hout] at this
  have:=q.litres1
  omega
 ·obtain ⟨b1,b2,b3⟩ :=EA (r:=r) (h:=t) hg hr0 (by omega)
  obtain ⟨r,rfl⟩ :=Int.eq_ofNat_of_zero_le hr0
  obtain ⟨t,rfl⟩ :=Int.eq_ofNat_of_zero_le b2
  have:=(pA.1 (h2 r t (by omega) (by omega))).2.2.2
  refine ⟨_,?_,this.2⟩
  rw [xP]
  exact Prod.ext rfl this.1
end
end Go.Sx
end
section
namespace Go.Sx
open Go.Proofs Go.Shelf Go.Sort Go.Lib
set_option maxRecDepth 100000
theorem gK {α : Type} {cf : α→α→Int} (hO : SWO (ltOf cf)) {l m : List α} (hp : m.Perm l) (hs : m.Pairwise fun x y=> ltOf cf x y=true) : srt cf l=m:=by
 have h1 : (srt cf l).Pairwise fun x y=> (!(ltOf cf y x))=true:=by
  refine List.pairwise_mergeSort (fun a b c h1 h2=> ?_) (fun a b=> ?_) l
  ·simp only [Bool.not_eq_true'] at h1 h2 ⊢
   exact hO.ntrans _ _ _ h2 h1
  ·cases q : ltOf cf b a with
   | false=> rfl
   | true=>
    cases q2 : ltOf cf a b with
    | false=> rfl
    | true=> have:=hO.trans _ _ _ q q2;rw [hO.irrefl] at this;cases this
 have h2 : m.Pairwise fun x y=> (!(ltOf cf y x))=true:=hs.imp fun {x y} q=> by
  cases q2 : ltOf cf y x with
  | false=> rfl
  | true=> have:=hO.trans _ _ _ q q2;rw [hO.irrefl] at this;cases this
 have hpm : (srt cf l).Perm l:=List.mergeSort_perm _ _
 refine List.Perm.eq_of_pairwise (fun a b ha hb q1 q2=> ?_) h1 h2 (hpm.trans hp.symm)
 have ha : a∈m:=hp.mem_iff.2 (hpm.mem_iff.1 ha)
 obtain ⟨i,hi,rfl⟩ :=List.getElem_of_mem ha
 obtain ⟨j,hj,rfl⟩ :=List.getElem_of_mem hb
 rw [List.pairwise_iff_getElem] at hs
 rcases Nat.lt_trichotomy i j with q | q | q
 ·have:=hs i j hi hj q;rw [this] at q2;cases q2
 ·subst q;rfl
 ·have:=hs j i hj hi q;rw [this] at q1;cases q1
theorem pf {d : District} {c : List Claim} {out l : List Order} {B : List Fault} (h1 : aS d c=0) (h2 : decide ((IntKind.i64.wrap ((d.reaches.length : Int) * d.hours)) > 1024)=false) (h3 : aj c=out)
  (h4 : aH out=false) (h5 : aq d out=(l,true,0)) (h6 : bq l d=B) :
  ar d c=match B with | [] => (l,({ kind:=0,hour:=0,index:=0,litres:=0,limit:=0} : Fault),0) | f :: _=> ([],f,0) :=by
 have ha : ae d c=(out,0) :=by
  unfold ae
  rw [h1,h2,h3,h4];rfl
 unfold ar
 simp only [ha,h5,h6,bne_self_eq_false,cond_false,Bool.not_true]
 cases B <;> rfl
theorem Cj {d : District} {c : List Claim} {out : List Order} {f : Fault} (h1 : aS d c=0) (h2 : decide ((IntKind.i64.wrap ((d.reaches.length : Int) * d.hours)) > 1024)=false) (h3 : aj c=out)
  (h4 : aH out=false) (h5 : aq d out=([],false,0)) (h6 : fu out d=f) :
  ar d c=([],f,0) :=by
 have ha : ae d c=(out,0) :=by
  unfold ae
  rw [h1,h2,h3,h4];rfl
 unfold ar
 simp only [ha,h5,h6,bne_self_eq_false,cond_false,Bool.not_false,cond_true]
abbrev b9 (h i n : Int) (o : Bool) : Order:= { hour:=h,index:=i,litres:=n,outlet:=o}
theorem ev_a : ar aT cb=(eE,({ kind:=0,hour:=0,index:=0,litres:=0,limit:=0} : Fault),0) :=by
 have e1 : aj cb=srt am [b9 4 1 10 true,b9 4 0 7 true,b9 5 0 1 true] :=by kernel_rfl
 rw [gK (m:=[b9 4 0 7 true,b9 4 1 10 true,b9 5 0 1 true]) dD (by decide) (by decide)] at e1
 have e2 : aq aT [b9 4 0 7 true,b9 4 1 10 true,b9 5 0 1 true]=(srt ax [b9 4 0 7 true,b9 4 1 10 true,b9 5 0 1 true,b9 2 0 20 false,b9 3 0 5 false],true,0) :=by kernel_rfl
 rw [gK (m:=eE) nu (by decide) (by decide)] at e2
 exact pf (B:=[]) (by kernel_rfl) (by kernel_rfl) e1 (by kernel_rfl) e2 (by kernel_rfl)
theorem ev_b : ar aT bf=([],({ kind:=1,hour:=2,index:=0,litres:=21,limit:=20} : Fault),0) :=by
 have e1 : aj bf=srt am [b9 4 1 10 true,b9 4 0 8 true,b9 5 0 1 true] :=by kernel_rfl
 rw [gK (m:=[b9 4 0 8 true,b9 4 1 10 true,b9 5 0 1 true]) dD (by decide) (by decide)] at e1
 have e2 : aq aT [b9 4 0 8 true,b9 4 1 10 true,b9 5 0 1 true]=(srt ax [b9 4 0 8 true,b9 4 1 10 true,b9 5 0 1 true,b9 2 0 21 false,b9 3 0 5 false],true,0) :=by kernel_rfl
 rw [gK (m:=[b9 2 0 21 false,b9 3 0 5 false,b9 4 0 8 true,b9 4 1 10 true,b9 5 0 1 true]) nu (by decide) (by decide)] at e2
 exact pf (B:=[{ kind:=1,hour:=2,index:=0,litres:=21,limit:=20}]) (by kernel_rfl) (by kernel_rfl) e1 (by kernel_rfl) e2 (by kernel_rfl)
theorem ev_c : ar aT eQ=([],({ kind:=7,hour:=1,index:=0,litres:=9,limit:=0} : Fault),0) :=by
 have e1 : aj eQ=srt am [b9 1 1 9 true] :=by kernel_rfl
 rw [gK (m:=[b9 1 1 9 true]) dD (by decide) (by decide)] at e1
 exact Cj (by kernel_rfl) (by kernel_rfl) e1 (by kernel_rfl) (by kernel_rfl) (by kernel_rfl)
abbrev clA : Claim:= { right:=1,farm:=1,hour:=4,litres:=10,rank:=1}
abbrev clB : Claim:= { right:=0,farm:=0,hour:=4,litres:=8,rank:=2}
abbrev clC : Claim:= { right:=0,farm:=0,hour:=5,litres:=1,rank:=2}
theorem ev_d : ar aT [clA]=([b9 2 0 13 false,b9 4 1 10 true],({ kind:=0,hour:=0,index:=0,litres:=0,limit:=0} : Fault),0) :=by
 have e1 : aj [clA]=srt am [b9 4 1 10 true] :=by kernel_rfl
 rw [gK (m:=[b9 4 1 10 true]) dD (by decide) (by decide)] at e1
 have e2 : aq aT [b9 4 1 10 true]=(srt ax [b9 4 1 10 true,b9 2 0 13 false],true,0) :=by kernel_rfl
 rw [gK (m:=[b9 2 0 13 false,b9 4 1 10 true]) nu (by decide) (by decide)] at e2
 exact pf (B:=[]) (by kernel_rfl) (by kernel_rfl) e1 (by kernel_rfl) e2 (by kernel_rfl)
theorem ev_e : ar aT [clA,clB]=([],({ kind:=1,hour:=2,index:=0,litres:=21,limit:=20} : Fault),0) :=by
 have e1 : aj [clA,clB]=srt am [b9 4 1 10 true,b9 4 0 8 true] :=by kernel_rfl
 rw [gK (m:=[b9 4 0 8 true,b9 4 1 10 true]) dD (by decide) (by decide)] at e1
 have e2 : aq aT [b9 4 0 8 true,b9 4 1 10 true]=(srt ax [b9 4 0 8 true,b9 4 1 10 true,b9 2 0 21 false],true,0) :=by kernel_rfl
 rw [gK (m:=[b9 2 0 21 false,b9 4 0 8 true,b9 4 1 10 true]) nu (by decide) (by decide)] at e2
 exact pf (B:=[{ kind:=1,hour:=2,index:=0,litres:=21,limit:=20}]) (by kernel_rfl) (by kernel_rfl) e1 (by kernel_rfl) e2 (by kernel_rfl)
theorem ev_f : ar aT [clA,clC]=([b9 2 0 13 false,b9 3 0 5 false,b9 4 1 10 true,b9 5 0 1 true],({ kind:=0,hour:=0,index:=0,litres:=0,limit:=0} : Fault),0) :=by
 have e1 : aj [clA,clC]=srt am [b9 4 1 10 true,b9 5 0 1 true] :=by kernel_rfl
 rw [gK (m:=[b9 4 1 10 true,b9 5 0 1 true]) dD (by decide) (by decide)] at e1
 have e2 : aq aT [b9 4 1 10 true,b9 5 0 1 true]=(srt ax [b9 4 1 10 true,b9 5 0 1 true,b9 2 0 13 false,b9 3 0 5 false],true,0) :=by kernel_rfl
 rw [gK (m:=[b9 2 0 13 false,b9 3 0 5 false,b9 4 1 10 true,b9 5 0 1 true]) nu (by decide) (by decide)] at e2
 exact pf (B:=[]) (by kernel_rfl) (by kernel_rfl) e1 (by kernel_rfl) e2 (by kernel_rfl)
theorem EK : ak bf=[clA,clB,clC] :=by
 have : ak bf=srt bp [clA,clB,clC] :=by kernel_rfl
 rw [this]
 exact gK vI (by decide) (by decide)
theorem e_o1 : aO [clA]=[clA] :=gK lW (by decide) (by decide)
theorem e_o2 : aO [clA,clB]=[clA,clB] :=gK lW (by decide) (by decide)
theorem e_o3 : aO [clA,clC]=[clA,clC] :=gK lW (by decide) (by decide)
theorem ev_s : d5 aT bf=([clA,clC],0) :=by
 have h0 : (ae aT bf).2=0:=by
  have e1 : aj bf=srt am [b9 4 1 10 true,b9 4 0 8 true,b9 5 0 1 true] :=by kernel_rfl
  rw [gK (m:=[b9 4 0 8 true,b9 4 1 10 true,b9 5 0 1 true]) dD (by decide) (by decide)] at e1
  refine kS.2 ⟨by kernel_rfl,by unfold aT;simp,?_⟩
  rw [e1]
  decide
 have s1 : bO aT bf 0 []= .inr [clA] :=by
  unfold bO
  rw [EK]
  show (bif (((an aT (aO [clA])).2.2==0) && (an aT (aO [clA])).2.1) then .inr (aO [clA]) else .inr ([] : List Claim))=(.inr [clA] : Empty⊕List Claim)
  rw [e_o1]
  unfold an
  rw [ev_d];rfl
 have s2 : bO aT bf 1 [clA]= .inr [clA] :=by
  unfold bO
  rw [EK]
  show (bif (((an aT (aO [clA,clB])).2.2==0) && (an aT (aO [clA,clB])).2.1) then .inr (aO [clA,clB]) else .inr ([clA] : List Claim))=(.inr [clA] : Empty⊕List Claim)
  rw [e_o2]
  unfold an
  rw [ev_e];rfl
 have s3 : bO aT bf 2 [clA]= .inr [clA,clC] :=by
  unfold bO
  rw [EK]
  show (bif (((an aT (aO [clA,clC])).2.2==0) && (an aT (aO [clA,clC])).2.1) then .inr (aO [clA,clC]) else .inr ([clA] : List Claim))=(.inr [clA,clC] : Empty⊕List Claim)
  rw [e_o3]
  unfold an
  rw [ev_f];rfl
 unfold d5
 rw [h0,EK]
 simp only [bne_self_eq_false,cond_false,List.length_cons,List.length_nil,Nat.zero_add,aw,s1,s2,s3]
theorem m10 : ct=(eE,true,0) :=by unfold ct an;rw [ev_a];rfl
theorem m4 : dx=(({ kind:=1,hour:=2,index:=0,litres:=21,limit:=20} : Fault),true,0) :=by unfold dx dh;rw [ev_b];rfl
theorem m16 : dc=(({ kind:=7,hour:=1,index:=0,litres:=9,limit:=0} : Fault),true,0) :=by unfold dc dh;rw [ev_c];rfl
theorem m13 : f5=([],false,191) :=by kernel_rfl
theorem J0 : jp=true:=by
 unfold jp gS gR a7 gT aY fB
 rw [m10,m4,ev_s,m16,m13]
 kernel_rfl
def CK (a b : Claim) : Prop:=a.hour=b.hour∧a.rank=b.rank∧a.right=b.right∧a.farm=b.farm
theorem Pf {c : List Claim} (h : c.Pairwise s4) {a b : Claim} (ha : a∈c) (hb : b∈c) (hk : CK a b) : a=b:=by
 obtain ⟨i,hi,rfl⟩ :=List.getElem_of_mem ha
 obtain ⟨j,hj,rfl⟩ :=List.getElem_of_mem hb
 obtain ⟨k1,k2,k3,k4⟩ :=hk
 rw [List.pairwise_iff_getElem] at h
 rcases Nat.lt_trichotomy i j with q | q | q
 ·have:=h i j hi hj q;unfold s4 at this;omega
 ·subst q;rfl
 ·have:=h j i hj hi q;unfold s4 at this;omega
theorem xR {c l : List Claim} (h : c.Pairwise s4) (hs : ∀ x∈l,x∈c) : apart bp l∧apart bj l:=by
 refine ⟨fun x hx y hy h1 h2=> Pf h (hs x hx) (hs y hy) ?_,fun x hx y hy h1 h2=> Pf h (hs x hx) (hs y hy) ?_⟩
 ·unfold ltOf at h1 h2
  rw [decide_eq_false_iff_not,sU] at h1 h2
  unfold slt at h1 h2
  simp only [mU,and_false,or_false] at h1 h2
  unfold CK;omega
 ·unfold ltOf at h1 h2
  rw [decide_eq_false_iff_not,vH] at h1 h2
  unfold clt at h1 h2
  simp only [mU,and_false,or_false] at h1 h2
  unfold CK;omega
theorem AY (c : List Claim) : (ak c).Perm c:=List.mergeSort_perm _ _
theorem AZ (c : List Claim) : (aO c).Perm c:=List.mergeSort_perm _ _
theorem FZ (d : District) (c : List Claim) : ff d c:=by
 refine ⟨AK d c,fun h=> ?_⟩
 have hA : Askd d c:=kS.1 (by simpa using h)
 obtain ⟨_,h2,h3,h4⟩ :=(nC d c).1 hA.chk
 have hlen : (ak c).length=c.length:=(AY c).length_eq
 refine ⟨⟨by unfold b4 fN;omega,(xR h4 fun x hx=> hx).1⟩,fun _=> ?_⟩
 refine kF (fun j s=> (∀ x∈s,x∈c)∧s.length≤j) _ _ _ ⟨fun x hx=> (by cases hx),Nat.le_refl _⟩ fun j s _ hj ⟨hs,hl⟩ => ?_
 have hx : (ak c).getD j (default : Claim)∈c:=(AY c).mem_iff.1 (kP _ _ (by omega))
 have hs2 : ∀ x∈s ++ [(ak c).getD j (default : Claim)],x∈c:=fun x hq=> by
  rcases List.mem_append.1 hq with q | q
  ·exact hs x q
  ·simp only [List.mem_cons,List.not_mem_nil,or_false] at q;rw [q];exact hx
 refine ⟨⟨by unfold fN;omega,by unfold fN;simp;omega,fun _=> ⟨⟨by unfold b4 fN;simp;omega,(xR h4 hs2).2⟩,uh _ _⟩⟩,fun s' e=> ?_⟩
 unfold bO at e
 generalize (((an d (aO (s ++ ([((ak c).getD j (default : Claim))])))).2.2==0) && (an d (aO (s ++ ([((ak c).getD j (default : Claim))])))).2.1)=b at e
 cases b with
 | true=>
  simp only [cond_true,Sum.inr.injEq] at e
  subst e
  refine ⟨fun x hq=> hs2 x ((AZ _).mem_iff.1 hq),?_⟩
  rw [(AZ _).length_eq]
  simp;omega
 | false=>
  simp only [cond_false,Sum.inr.injEq] at e
  subst e
  exact ⟨hs,by omega⟩
theorem J1 (a b : List Order) : fg a b:=fun _ _ h=> by
 have h : (a.length : Int)=b.length:=by simpa using h
 refine kF (fun _ _=> True) _ _ _ trivial fun j s _ hj _=> ⟨fun _=> by omega,fun _ _=> trivial⟩
theorem J2 (a b : List Claim) : fh a b:=fun _ _ h=> by
 have h : (a.length : Int)=b.length:=by simpa using h
 refine kF (fun _ _=> True) _ _ _ trivial fun j s _ hj _=> ⟨fun _=> by omega,fun _ _=> trivial⟩
theorem J3 : kK:=by
 refine ⟨uh _ _,fun _=> J1 _ _,fun _=> ⟨by unfold cb;simp,AM _ _,FZ _ _,AM _ _,uh _ _,fun _=> ⟨fun _=> ?_,fun _=> ?_,fun _=> J2 _ _⟩⟩⟩
 ·unfold fA bf cb;simp
 ·unfold fA bf cb;simp
end Go.Sx
end
section
namespace Go.Sx
open Go.Proofs
set_option maxRecDepth 100000
set_option linter.unusedSimpArgs false
theorem A0 {p : Prop} (h : p:=by (first | done | (repeat' (first | with_reducible refine And.intro ?_ ?_ | ((with_reducible show _≠_);first | assumption | omega | (simp_all [aD,aK];done) | grind) | with_reducible intro _)) <;> (first | done | exact Empty.elim ‹Empty› | assumption | rfl | omega | decide | exact fk [0,1] | (simp only [*,cond_true,cond_false,Bool.not_true,Bool.not_false,go_sem,Nat.reduceBEq,Nat.reduceLeDiff,Nat.reduceLT,decide_true,Nat.reduceAdd,Nat.reduceSub,Nat.reduceMul,Int.reduceLE,Int.reduceLT,Int.reduceToNat,Int.reduceNeg,reduceCtorEq];done) | (simp only [*,cond_true,cond_false,Bool.not_true,Bool.not_false,go_sem,Nat.reduceBEq,Nat.reduceLeDiff,Nat.reduceLT,decide_true,Nat.reduceAdd,Nat.reduceSub,Nat.reduceMul,Int.reduceLE,Int.reduceLT,Int.reduceToNat,Int.reduceNeg,reduceCtorEq];(repeat' (first | with_reducible refine And.intro ?_ ?_ | ((with_reducible show _≠_);first | assumption | omega | (simp_all [aD,aK];done) | grind) | with_reducible intro _)) <;> (first | done | assumption | rfl | omega | decide | exact fk [0,1] | (simp_all [aD,aK];done))) | (simp_all [okI,aD,aK];done) | (simp_all [aD,aK];(first | done | exact fk2 [0,1])) | exact fk2 [0,1] | (simp_all only [aD,aK,cond_true,cond_false];(first | done | exact fk [0,1] | exact fk2 [0,1] | (simp only [go_sem,Nat.reduceBEq,Nat.reduceLeDiff,Nat.reduceLT,decide_true,Nat.reduceAdd,Nat.reduceSub,Nat.reduceMul,Int.reduceLE,Int.reduceLT,Int.reduceToNat,Int.reduceNeg,reduceCtorEq];((repeat' (first | with_reducible refine And.intro ?_ ?_ | ((with_reducible show _≠_);first | assumption | omega | (simp_all [aD,aK];done) | grind) | with_reducible intro _)) <;> (first | done | rfl | exact fk [0,1] | exact fk2 [0,1])))))))) : p:=h
theorem J4 {p : Prop} (h : p:=by simp only [go_sem,Nat.reduceBEq,Nat.reduceLeDiff,Nat.reduceLT,decide_true,Nat.reduceAdd,Nat.reduceSub,Nat.reduceMul,Int.reduceLE,Int.reduceLT,Int.reduceToNat,Int.reduceNeg,reduceCtorEq,hc,hw];all_goals exact A0) : p:=h
theorem J5 {p : Prop} (h : p:=by simp only [go_sem,Nat.reduceBEq,Nat.reduceLeDiff,Nat.reduceLT,decide_true,Nat.reduceAdd,Nat.reduceSub,Nat.reduceMul,Int.reduceLE,Int.reduceLT,Int.reduceToNat,Int.reduceNeg,reduceCtorEq,hc];all_goals exact A0) : p:=h
@[go_sem] def dP (a0 : District) (a1 : List Claim) (a2 : List Order) (k_0 : Nat) (s_0 : Unit) : Unit⊕Unit:=(bif (decide ((ay .acequialaw27Key .int (aJ a2) ({ outlet:=(((an a0 a1).1).getD k_0 (default : Order)).outlet,index:=(((an a0 a1).1).getD k_0 (default : Order)).index,hour:=(((an a0 a1).1).getD k_0 (default : Order)).hour} : Acequialaw27Key)) < (((an a0 a1).1).getD k_0 (default : Order)).litres)) then .inl () else .inr ())
def dI (a0 : District) (a1 : List Claim) (a2 : List Order) : Bool:=(bif (!jp) then false else (bif (((((!(gj a0 a1)) || ((aS a0 a1) !=0)) || (decide ((a2.length : Int) > 500))) || ((be a0 a2) !=0)) || (!(eX a0 a1 a2))) then true else (bif ((an a0 a1).2.2==2) then (!(an a0 a1).2.1) else (bif (((an a0 a1).2.2 !=0) || (!(an a0 a1).2.1)) then false else (match aw (dP a0 a1 a2) (((an a0 a1).1).length) 0 () with | .inl x_0_0=> false | .inr s_0=> true)))))
def dX (a0 : District) (a1 : List Claim) (a2 : List Order) : Prop:=((kK)∧((!jp)=false→(((!(gj a0 a1))=false→(eM a0 a1))∧(((((!(gj a0 a1)) || ((aS a0 a1) !=0)) || (decide ((a2.length : Int) > 500)))=false→(ei a0 a2))∧((((((!(gj a0 a1)) || ((aS a0 a1) !=0)) || (decide ((a2.length : Int) > 500))) || ((be a0 a2) !=0))=false→(jH a0 a1 a2))∧((((((!(gj a0 a1)) || ((aS a0 a1) !=0)) || (decide ((a2.length : Int) > 500))) || ((be a0 a2) !=0)) || (!(eX a0 a1 a2)))=false→(cy a0 a1)))))))
@[go_sem] def fj : List SV→Option Con:=(pD .district fun a0=> (pR .claim fun a1=> (pR .order fun a2=> (pE (.det (dX a0 a1 a2) (.v (.bool (dI a0 a1 a2))))))))
set_option maxHeartbeats 4000000 in
theorem mY : FnOk Tryz.prog 8 fj:=by
 have hG : ConsOk Tryz.prog (mkG [(10,r9),(11,fun l=> tE (cK [.st .district,.sl .claim] l)),(12,fun l=> jl (cK [.st .district,.sl .claim] l)),(20,fun l=> lG (cK [.sl .order] l)),(24,fun l=> iD (cK [.st .district,.sl .claim] l)),(25,fun l=> j_ (cK [.st .district,.sl .order] l)),(26,fun l=> qj (cK [.st .district,.sl .claim,.sl .order] l))] []) :=aQ (cgc wI (cgc (yT.norm [.st .district,.sl .claim]) (cgc (l7.norm [.st .district,.sl .claim]) (cgc (nT.norm [.sl .order]) (cgc (kc.norm [.st .district,.sl .claim]) (cgc (mQ.norm [.st .district,.sl .order]) (cgc (wj.norm [.st .district,.sl .claim,.sl .order]) cg0))))))) cg0
 refine a_ [.o] mixed aF hG (fn:=Tryz.f8) (c:=ag Tryz.f8) (by kernel_rfl) (by kernel_rfl) (by kernel_rfl) (by kernel_rfl) (bS fun a0=> (cL fun a1=> (cL fun a2=> (aM (fun hp=> ?_)))))
 dsimp only [aW] at hp
 unfold dX at hp
 refine ⟨Nat.le_of_ble_eq_true rfl,(fun id st=> bif Nat.beq id 0 then some (LCR (ρ:=Unit) (σ:=Unit) 2 [] [0,1] (fun k_0 s_0=> ⟨[(10,.os 1),(62,.rs .order ((an a0 a1).1)),(63,.v (.int .i64 (((an a0 a1).1).length : Int))),(64,.v (.int .i64 (k_0 : Int)))],[.dead,.mp .acequialaw27Key .int (aJ a2) none]⟩) (dP a0 a1 a2) pT (((an a0 a1).1).length) () (((an a0 a1).1).length≤bv) (fun _=> .ret) (fun x_0_0=> ⟨[(6,.v (.bool false))],[.dead,.dead]⟩) st) else none),?_,?_⟩
 ·unfold ag Tryz.f8
  simp only [az,true_and,and_true]
  ·refine cq mixed aF hG (by kernel_rfl) (fun _=> rfl) (((an a0 a1).1).length : Int) rfl j7 (fun hb0 k_0 s_0 hlt0 _ hw hc=> ⟨L0,av _,?_⟩) (fun hb0 s_0 hc=> ?_)
   ·exact J4
   ·exact J5
 ·unfold ag Tryz.f8
  try unfold dI
  simp only [go_sem,Nat.reduceBEq,Nat.reduceLeDiff,Nat.reduceLT,decide_true,Nat.reduceAdd,Nat.reduceSub,Nat.reduceMul,Int.reduceLE,Int.reduceLT,Int.reduceToNat,Int.reduceNeg,reduceCtorEq]
  all_goals exact cl
end Go.Sx
end
section
namespace Go.Sx
open Go.Proofs
section
variable {d : District} {c : List Claim} {l : List Order}
theorem F0 (hc : aS d c=0) (hw : ¬ (d.reaches.length : Int) * d.hours≤1024) : (an d c).2=(false,2) :=by
 have ha : ae d c=([],2) :=by
  unfold ae
  rw [hc]
  simp only [bne_self_eq_false,cond_false]
  rw [yS hc,decide_eq_true (by omega),cond_true]
 unfold an ar
 rw [ha]
 rfl
theorem yX {d : District} {c : List Claim} {l : List Order} (h : ((((!(gj d c)) || ((aS d c) !=0)) || (decide ((l.length : Int) > 500))) || ((be d l) !=0))=false) : aS d c=0∧be d l=0:=by
 simp only [Bool.or_eq_false_iff,bne_eq_false_iff_eq] at h
 exact ⟨h.1.1.2,h.2⟩
theorem F4 (d : District) (c : List Claim) (l : List Order) : dX d c l:=
 ⟨J3,fun _=> ⟨fun _=> xI d c,fun _=> vw d l,fun h=> JZ (yK (yX h).2) (r6 (yX h).1),fun _=> uh d c⟩⟩
theorem F5 (d : District) (c : List Claim) (l : List Order) : dI d c l=true:=by
 unfold dI
 rw [J0]
 simp only [Bool.not_true,cond_false]
 cases hb : (((((!(gj d c)) || ((aS d c) !=0)) || (decide ((l.length : Int) > 500))) || ((be d l) !=0)) || (!(eX d c l))) with
 | true=> rfl
 | false=>
  rw [cond_false]
  rw [Bool.or_eq_false_iff] at hb
  obtain ⟨hc,hr⟩ :=yX hb.1
  have hg:=yK hr
  have hm : eX d c l=true:=by simpa using hb.2
  by_cases hw : (d.reaches.length : Int) * d.hours≤1024
  ·obtain ⟨h1,h2,h3⟩ :=(FY hg (r6 hc)).1 hm
   have hS:=yW hg hw h1 h2 h3
   rcases FT hS hc with ⟨e1,e2⟩ | ⟨e1,e2,hd⟩
   ·rw [e1,e2];rfl
   ·rw [e1,e2]
    have hrun : aw (dP d c l) (((an d c).1).length) 0 ()= .inr () :=vA.2 fun j hj=> by
     unfold dP
     have hx:=kP (an d c).1 (default : Order) hj
     generalize (an d c).1.getD j (default : Order)=x at hx ⊢
     obtain ⟨z,hz,hk,hle⟩ :=hd x hx
     have e3:=qI hg.orders x.outlet x.index x.hour
     have e4 : aP (fY x.hour x.index x.outlet) l=z.litres:=lX hg.keys (fun a b h1 h2=> by
      unfold fY at h1 h2
      simp only [Bool.and_eq_true,beq_iff_eq] at h1 h2
      exact ⟨by rw [h1.1.1,h2.1.1],by rw [h1.1.2,h2.1.2],by rw [h1.2,h2.2]⟩) hz (by
      unfold fY
      rw [hk.1,hk.2.1,hk.2.2];simp)
     unfold wl at e3
     rw [e3,e4,decide_eq_false (p:=z.litres < x.litres) (by omega),cond_false]
    simp only [hrun]
    rfl
  ·rw [F0 hc hw];rfl
end
end Go.Sx
end
section
namespace Go.Sx
open Go.RowKit Go.Deep
section
variable {F : Nat→Prop} {own : Own} {w : World}
def RC (F : Nat→Prop) (own : Own) (w : World) (ks : List Kd) (cs : List Value) : Prop:=
 ∃ l : List SV,mt ks l=true∧l.length=cs.length∧∀ (j : Nat) (s : SV) (v : Value),l[j]? =some s→cs[j]? =some v→Rel F own w s v
theorem A1 : ∀ {a b : List Kd} {l m : List SV},mt a l=true→mt b m=true→mt (a ++ b) (l ++ m)=true
 | [],b,l,m,h1,h2=> by rw [mD h1];exact h2
 | k :: a,b,l,m,h1,h2=> by
  obtain ⟨x,r,rfl,e1,e2⟩ :=i9 h1
  simp only [List.cons_append,mt,e1,A1 e2 h2,Bool.and_self]
theorem RC.nil : RC F own w [] [] :=⟨[],rfl,rfl,fun j s v h=> by cases h⟩
theorem RC.app {a b : List Kd} {c d : List Value} (h1 : RC F own w a c) (h2 : RC F own w b d) : RC F own w (a ++ b) (c ++ d) :=by
 obtain ⟨l,f1,n1,r1⟩ :=h1
 obtain ⟨m,f2,n2,r2⟩ :=h2
 refine ⟨l ++ m,A1 f1 f2,by simp [n1,n2],fun j s v hs hv=> ?_⟩
 by_cases hj : j < l.length
 ·rw [List.getElem?_append_left hj] at hs
  rw [List.getElem?_append_left (by omega)] at hv
  exact r1 j s v hs hv
 ·rw [List.getElem?_append_right (by omega)] at hs
  rw [List.getElem?_append_right (by omega),←n1] at hv
  exact r2 _ s v hs hv
theorem RC.one {k : Kd} {s : SV} {v : Value} (h1 : fit k s=true) (h2 : Rel F own w s v) : RC F own w [k] [v] :=
 ⟨[s],by simp [mt,h1],rfl,fun j s' v' hs hv=> by
  cases j with
  | zero=> simp only [List.getElem?_cons_zero,Option.some.injEq] at hs hv;subst hs;subst hv;exact h2
  | succ j=> simp at hs⟩
end
def Rd : Kd→Kd→Bool
 | .s,.s=> true
 | .b,.b=> true
 | .n a,.n b=> decide (a=b)
 | .r a,.r b=> decide (a=b)
 | .m a c,.m b d=> decide (a=b) && decide (c=d)
 | _,_=> false
theorem Oo : ∀ {a b : Kd},Rd a b=true→a=b:=by
 intro a b h
 cases a <;> cases b <;> simp_all [Rd]
def J6 : List Kd→List Kd→Bool
 | [],[] => true
 | a :: l,b :: m=> Rd a b && J6 l m
 | _,_=> false
theorem EL : ∀ {a b : List Kd},J6 a b=true→a=b
 | [],[],_=> rfl
 | a :: l,b :: m,h=> by
  simp only [J6,Bool.and_eq_true] at h
  rw [Oo h.1,EL h.2]
def wn (P : Program) (g : TypeId→Option (List Kd)) : List Field→Nat→Nat→Option (List Kd)
 | [],off,tot=> bif Nat.beq off tot then some [] else none
 | f :: r,off,tot=> match g f.type with
  | some a=> bif Nat.beq f.offset off && Nat.beq a.length (P.cellsOf f.type) then (wn P g r (off + a.length) tot).map (a ++ ·) else none
  | none=> none
def Ck (a : List Kd) : Nat→List Kd
 | 0=> []
 | n + 1=> a ++ Ck a n
def wo (P : Program) : Nat→TypeId→Option (List Kd)
 | 0,_=> none
 | n + 1,t=> match P.underlying t with
  | some .bool=> some [.b]
  | some (.int k) => some [.n k]
  | some .string=> some [.s]
  | some (.slice e) => match y7 P e,wo P n e with
   | some k,some ks=> bif J6 ks (ci k) && Nat.beq (P.cellsOf e) (aa k) && Nat.ble 1 (aa k) then some [.r k] else none
   | _,_=> none
  | some (.struct fs) => wn P (wo P n) fs.toList 0 (P.cellsOf t)
  | some (.array m e) => match wo P n e with
   | some a=> bif Nat.beq a.length (P.cellsOf e) && Nat.beq (P.cellsOf t) (m * a.length) then some (Ck a m) else none
   | none=> none
  | _=> none
section
variable {H : Type} {enc : TypeId×Value→H} {P : Program} {F : Nat→Prop} {own : Own} {w : World} {base : Nat} {spare : Nat→Bool} {held : Bool} {S : DataW H→Prop}
theorem EM {g : TypeId→Option (List Kd)} (hg : ∀ t ks,g t=some ks→∀ (fuel : Nat) (cs : List Value) (x : DataW H×List MemPlace),DataW.trod enc P w base spare held fuel t cs=some x→S x.1→RC F own w ks cs)
  (fuel : Nat) (cs : List Value) : ∀ (fs : List Field) (off : Nat) (ks : List Kd),wn P g fs off cs.length=some ks→(∀ f∈fs,∃ x,DataW.trod enc P w base spare held fuel f.type ((cs.drop f.offset).take (P.cellsOf f.type))=some x∧S x.1)→RC F own w ks (cs.drop off)
 | [],off,ks,h,_=> by
  unfold wn at h
  cases hb : Nat.beq off cs.length with
  | false=> rw [hb] at h;cases h
  | true=>
   rw [hb] at h
   have : off=cs.length:=Nat.eq_of_beq_eq_true hb
   subst this
   cases h
   rw [List.drop_length]
   exact RC.nil
 | f :: r,off,ks,h,hx=> by
  unfold wn at h
  cases ha : g f.type with
  | none=> rw [ha] at h;cases h
  | some a=>
   rw [ha] at h
   dsimp only at h
   cases hb : Nat.beq f.offset off && Nat.beq a.length (P.cellsOf f.type) with
   | false=> rw [hb] at h;cases h
   | true=>
    rw [hb] at h
    simp only [cond_true,Option.map_eq_some_iff] at h
    obtain ⟨ks2,h2,rfl⟩ :=h
    rw [Bool.and_eq_true] at hb
    have e1 : f.offset=off:=Nat.eq_of_beq_eq_true hb.1
    have e2 : a.length=P.cellsOf f.type:=Nat.eq_of_beq_eq_true hb.2
    obtain ⟨x,hx1,hs1⟩ :=hx f (by simp)
    have h3:=hg _ _ ha _ _ _ hx1 hs1
    have h4:=EM hg fuel cs r (off + a.length) ks2 h2 fun f hf=> hx f (by simp [hf])
    have:=h3.app h4
    rw [e1,←e2] at this
    rwa [←List.drop_drop,List.take_append_drop] at this
theorem EN {e : TypeId} {a : List Kd} (ha : ∀ (fuel : Nat) (cs : List Value) (x : DataW H×List MemPlace),DataW.trod enc P w base spare held fuel e cs=some x→S x.1→RC F own w a cs)
  (fuel : Nat) : ∀ (m : Nat) (cs : List Value),cs.length=m * a.length→(∀ i,i < m→∃ x,DataW.trod enc P w base spare held fuel e ((cs.drop (i * a.length)).take a.length)=some x∧S x.1)→RC F own w (Ck a m) cs
 | 0,cs,h,_=> by
  have : cs=[] :=by simpa using h
  subst this
  exact RC.nil
 | m + 1,cs,h,hx=> by
  obtain ⟨x,hx1,hs1⟩ :=hx 0 (by omega)
  rw [Nat.zero_mul,List.drop_zero] at hx1
  have h3:=ha _ _ _ hx1 hs1
  have h4:=EN ha fuel m (cs.drop a.length) (by rw [List.length_drop,h,Nat.succ_mul];omega) fun i hi=> by
   obtain ⟨x,hx2,hs2⟩ :=hx (i + 1) (by omega)
   refine ⟨x,?_,hs2⟩
   rw [List.drop_drop]
   rwa [Nat.succ_mul,Nat.add_comm] at hx2
  have:=h3.app h4
  rwa [List.take_append_drop] at this
structure Small (S : DataW H→Prop) : Prop where
 agg : ∀ l,S (.agg l)→∀ d∈l,S d
 slice : ∀ l m,S (.slice l m)→l.length≤bv∧∀ d∈l,S d
theorem ju (hS : Small S) (hown : ∀ b,¬ bB F own b) : ∀ (n : Nat) (t : TypeId) (ks : List Kd),wo P n t=some ks→∀ (fuel : Nat) (cs : List Value) (x : DataW H×List MemPlace),DataW.trod enc P w base spare held fuel t cs=some x→S x.1→RC F own w ks cs
 | 0,_,_,h,_,_,_,_,_=> by cases h
 | n + 1,t,ks,h,fuel,cs,x,hx,hs=> by
  unfold wo at h
  split at h
  ·rename_i ht
   cases h
   obtain ⟨b,rfl,rfl⟩ :=DataW.trod_bool ht hx
   exact RC.one (s:= .v (.bool b)) rfl (.v _)
  ·rename_i k ht
   cases h
   obtain ⟨m,rfl,rfl,_⟩ :=DataW.trod_int ht hx
   exact RC.one (s:= .v (.int k m)) (by simp [fit]) (.v _)
  ·rename_i ht
   cases h
   obtain ⟨b,rfl,rfl,_⟩ :=DataW.trod_string ht hx
   exact RC.one (s:= .v (.string b)) rfl (.v _)
  ·rename_i e ht
   split at h
   ·rename_i k ks2 hk hks
    cases hb : J6 ks2 (ci k) && Nat.beq (P.cellsOf e) (aa k) && Nat.ble 1 (aa k) with
    | false=> rw [hb] at h;cases h
    | true=>
     rw [hb] at h
     cases h
     simp only [Bool.and_eq_true] at hb
     have e1:=EL hb.1.1
     have e2 : P.cellsOf e=aa k:=Nat.eq_of_beq_eq_true hb.1.2
     have e3 : 1≤aa k:=Nat.le_of_ble_eq_true hb.2
     subst e1
     rcases open_slice ht hx with ⟨rfl,rfl⟩ | ⟨a,len,cap,m,f2,D,Pl,rfl,hb1,hl,hm,hmm,rfl,hel⟩
     ·exact RC.one (s:= .rs k []) (by simp [fit]) .rs0
     ·have hlm : len≤m:=by subst hmm;split <;> omega
      obtain ⟨hs1,hs2⟩ :=hS.slice _ _ hs
      simp only [List.length_map,List.length_range] at hs1
      have helt : ∀ i,i < len→∃ cs',cs'.length=aa k∧(∀ j v,cs'[j]? =some v→w.cell? ((a.add (i * aa k)).add j)=some v)∧RC F own w (ci k) cs':=fun i hi=> by
       obtain ⟨cs',h1,h2⟩ :=hel i (by omega)
       have h3:=ju hS hown n e (ci k) hks f2 cs' _ h2 (hs2 _ (List.mem_map_of_mem (List.mem_range.2 hi)))
       unfold World.cells? at h1
       split at h1
       ·refine ⟨cs',by rw [mapM_some_length h1,List.length_range,e2],fun j v hj=> ?_,h3⟩
        have hlt : j < P.cellsOf e:=by
         have:=(List.getElem?_eq_some_iff.1 hj).1
         rwa [mapM_some_length h1,List.length_range] at this
        have:=mapM_some_get h1 j j (by simp [hlt])
        rw [e2] at this
        rw [this,hj]
       ·cases h1
      by_cases h0 : len=0
      ·subst h0
       exact RC.one (s:= .rs k []) (by simp [fit]) .rs0
      ·have hsp : a.spot=none:=by
        obtain ⟨cs',h1,h2,_⟩ :=helt 0 (by omega)
        have:=h2 0 (cs'[0]'(by omega)) (by rw [List.getElem?_eq_getElem])
        rw [Nat.zero_mul] at this
        simp only [Addr.add,if_true] at this
        unfold World.cell? at this
        split at this
        ·cases hsp : a.spot with
         | none=> rfl
         | some q=> rw [hsp] at this;simp at this
        ·cases this
       obtain ⟨ab,ao,asp⟩ :=a
       dsimp only at hsp
       subst hsp
       haveI : Inhabited k.T:=⟨cW k⟩
       obtain ⟨X,hX⟩ :=choose_lt (p:=fun i (x : k.T) => ∀ (j : Nat) (s : SV),(cellsOf k x)[j]? =some s→∃ v,w.cell? ⟨ab,ao + i * aa k + j,none⟩=some v∧Rel F own w s v) (n:=len) fun i hi=> by
        obtain ⟨cs',h1,h2,l,h3,h4,h5⟩ :=helt i hi
        refine ⟨mkE k l,fun j s hj=> ?_⟩
        rw [jP (k:=k) (l:=l) (x:=mkE k l) (by unfold mu;rw [h3];rfl)] at hj
        have hlt : j < cs'.length:=by
         have:=(List.getElem?_eq_some_iff.1 hj).1
         omega
        refine ⟨cs'[j],?_,h5 j s _ hj (List.getElem?_eq_getElem hlt)⟩
        have:=h2 j cs'[j] (List.getElem?_eq_getElem hlt)
        have hadd : ∀ p q,((⟨ab,ao,none⟩ : Addr).add p).add q=⟨ab,ao + p + q,none⟩ :=fun p q=> by
         unfold Addr.add
         by_cases hp : p=0 <;> by_cases hq : q=0 <;> simp [hp,hq]
        rwa [hadd] at this
       have hL : ((List.range len).map X).length=len:=by simp
       refine RC.one (s:= .rs k ((List.range len).map X)) (by simp [fit]) ?_
       have hget : ∀ (i : Nat) (x : k.T),((List.range len).map X)[i]? =some x→i < len∧x=X i:=fun i x hi=> by
        obtain ⟨h1,h2⟩ :=List.getElem?_eq_some_iff.1 hi
        rw [hL] at h1
        simp only [List.getElem_map,List.getElem_range] at h2
        subst h2
        exact ⟨h1,rfl⟩
       have:=Rel.rs (F:=F) (own:=own) (w:=w) (k:=k) (l:=(List.range len).map X) (b:=ab) (o:=ao) (cap:=cap) (fun i j=> (w.cell? ⟨ab,ao + i * aa k + j,none⟩).getD undef) (by rw [hL];exact hl) (by rw [hL];exact hs1)
        (fun i x hi j s hj=> by
         obtain ⟨h1,rfl⟩ :=hget i x hi
         obtain ⟨v,h2,_⟩ :=hX i h1 j s hj
         exact ⟨hown _,by rw [h2];rfl⟩)
        (fun i x hi j s hj=> by
         obtain ⟨h1,rfl⟩ :=hget i x hi
         obtain ⟨v,h2,h3⟩ :=hX i h1 j s hj
         rw [h2];exact h3)
       rwa [hL] at this
   ·cases h
  ·rename_i fs ht
   obtain ⟨xs,m,rfl,rfl,hl,hlen,hf⟩ :=DataW.trod_struct ht hx
   rw [←hl] at h
   have:=EM (ju hS hown n) m cs fs.toList 0 ks h fun f hfm=> by
    obtain ⟨i,hi,rfl⟩ :=List.getElem_of_mem hfm
    have hi' : i < fs.size:=by simpa using hi
    have h1:=hf i fs[i] (by simp [hi'])
    rw [List.getElem?_eq_getElem (by omega)] at h1
    refine ⟨_,by simpa using h1,hS.agg _ hs _ (List.mem_map_of_mem (List.getElem_mem _))⟩
   simpa using this
  ·rename_i m e ht
   split at h
   ·rename_i a ha
    cases hb : Nat.beq a.length (P.cellsOf e) && Nat.beq (P.cellsOf t) (m * a.length) with
    | false=> rw [hb] at h;cases h
    | true=>
     rw [hb] at h
     cases h
     rw [Bool.and_eq_true] at hb
     have e1 : a.length=P.cellsOf e:=Nat.eq_of_beq_eq_true hb.1
     have e2 : P.cellsOf t=m * a.length:=Nat.eq_of_beq_eq_true hb.2
     obtain ⟨xs,f2,rfl,rfl,hl,hlen,hf⟩ :=DataW.trod_array ht hx
     refine EN (ju hS hown n e a ha) f2 m cs (by rw [hl,e2]) fun i hi=> ?_
     have h1:=hf i hi
     rw [List.getElem?_eq_getElem (by omega),←e1] at h1
     exact ⟨_,h1,hS.agg _ hs _ (List.mem_map_of_mem (List.getElem_mem _))⟩
   ·cases h
  ·cases h
end
end Go.Sx
end
section
namespace Go.Sx
open Go.Proofs
section
variable {F : Nat→Prop} {own : Own} {w : World}
theorem Oq {k : Tag} {cs : Array Value} (h : RC F own w (ci k) cs.toList) : ∃ x : k.T,Rel F own w (.agg (cellsOf k x)) (.agg cs) :=by
 obtain ⟨l,h3,h4,h5⟩ :=h
 refine ⟨mkE k l,?_⟩
 rw [jP (k:=k) (l:=l) (x:=mkE k l) (by unfold mu;rw [h3];rfl)]
 refine .agg (by simpa using h4.symm) fun j s hj=> ?_
 have hlt : j < cs.size:=by
  have:=(List.getElem?_eq_some_iff.1 hj).1
  simpa [h4] using this
 exact h5 j s _ hj (by simp [Array.getD,hlt])
theorem J7 {k : Tag} {v : Value} (h : RC F own w [.r k] [v]) : ∃ l : List k.T,Rel F own w (.rs k l) v:=by
 obtain ⟨l,h3,h4,h5⟩ :=h
 obtain ⟨x,r,rfl,h6,h7⟩ :=i9 h3
 have h8:=h5 0 x v rfl rfl
 cases x with
 | rs k' l'=>
  have : k=k':=by
   simp only [fit] at h6
   exact oi h6
  subst this
  exact ⟨l',h8⟩
 | _=> simp [fit] at h6
end
end Go.Sx
end
section
namespace Go.Sx
open Go.RowKit Go.WideShapes Go.ChangeShapes
section
variable {H : Type} {enc : TypeId×Value→H} {P : Program}
def Ot (P : Program) : List TypeId→Bool
 | [] => true
 | t :: r=> P.readableRec t && Nat.blt t P.types.size && Ot P r
theorem xS (hl : laidOutB P=true) {W W' : World} (hg : Below W.heap.size W W') : ∀ {ts : List TypeId} {vs : List Value} {ds : List (DataW H)} {ps : List MemPlace},Ot P ts=true→
  DataW.TrodAll enc P W 0 (fun _=> true) true ts vs ds ps→(∀ x∈ps,x.block < W.heap.size)→DataW.TrodAll enc P W' 0 (fun b=> decide (b < W.heap.size)) true ts vs ds ps
 | [],vs,ds,ps,_,h,_=> by
  obtain ⟨rfl,rfl,rfl⟩ :=trodAll_nil h
  exact trodAll_mk0
 | t :: ts,vs,ds,ps,hk,h,hlt=> by
  unfold Ot at hk
  rw [Bool.and_eq_true,Bool.and_eq_true] at hk
  obtain ⟨v,vs',d,ds',p,q,rfl,rfl,rfl,h1,h2⟩ :=trodAll_cons h
  refine trodAll_cons_mk (WideElems.Trod_stays hl hk.1.1 (by simpa [Nat.blt_eq] using hk.1.2) h1 (fun x hx=> hg.same (hlt x (List.mem_append_left _ hx))) (fun x hx=> by simpa using hlt x (List.mem_append_left _ hx))) ?_
  exact xS hl hg hk.2 h2 fun x hx=> hlt x (List.mem_append_right _ hx)
theorem J8 (hl : laidOutB P=true) {f : Func} {s : ChangeSpec} {W W' : World} {args : Array Value} {ds gs : List (DataW H)} {before : List MemPlace} {t : TypeId}
  (hk : Ot P f.params.toList=true) (hW : DataW.Whole enc P f.params.toList s.vars false W args.toList ds gs before)
  (hr : f.resultTypes= #[t]) (ht : P.underlying t=some .bool) (hv : s.vars=[]) (h1 : (s.fn H (ds ++ gs)).results=[.lit (.bool true)]) (h2 : (s.fn H (ds ++ gs)).args=ds) (h3 : (s.fn H (ds ++ gs)).vars=[])
  (hg : Below W.heap.size W W') : s.post enc P f false true false false W args (.bool true) W':=by
 have hlt:=hW.lt
 have hW0:=hW
 obtain ⟨p,q,hA,hV,rfl,_,_⟩ :=hW
 rw [hv] at hV
 obtain ⟨rfl,rfl⟩ :=trodVars_none hV
 refine ⟨ds,[],p ++ [],[],p,[],hW0,?_,?_,?_,?_,fun h=> by cases h⟩
 ·rw [h1,hr]
  exact trodAll_cons_mk (shut_bool ht _) trodAll_mk0
 ·rw [h2]
  exact xS hl hg hk hA fun x hx=> hlt x (by simpa using hx)
 ·rw [h3,hv]
  rfl
 ·exact World.keptBut_mono (fun x hx=> ⟨hx,.inr (.inl (by simpa using hx))⟩) (hg.frame (· ∈p ++ []))
end
end Go.Sx
end
section
namespace Go.Proofs.YtagjakphhkfofaaGreat.bulks
theorem one_le {H : Type} (d : DataW H) : 1≤Rows.uptoBulk d:=by
 cases d with
 | lit l=> cases l <;> simp [Rows.uptoBulk]
 | nil=> simp [Rows.uptoBulk]
 | ptr d=> simp [Rows.uptoBulk]
 | slice kl spare=> simp [Rows.uptoBulk]
 | agg parts=> simp [Rows.uptoBulk]
 | iface t d=> simp [Rows.uptoBulk]
 | map entries=> simp [Rows.uptoBulk]
 | held h=> simp [Rows.uptoBulk]
theorem part_le {H : Type} {d : DataW H} {l : List (DataW H)} (h : d∈l) : Rows.uptoBulk d≤Rows.uptoBulkAll l:=by
 induction l with
 | nil=> cases h
 | cons x r ih=>
  simp only [Rows.uptoBulkAll]
  cases List.mem_cons.1 h with
  | inl e=> subst e;omega
  | inr e=> have:=ih e;omega
theorem append {H : Type} (l r : List (DataW H)) : Rows.uptoBulkAll (l ++ r)=Rows.uptoBulkAll l + Rows.uptoBulkAll r:=by
 induction l with
 | nil=> simp [Rows.uptoBulkAll]
 | cons x l ih=> simp only [List.cons_append,Rows.uptoBulkAll,ih];omega
theorem length_le {H : Type} (l : List (DataW H)) : l.length≤Rows.uptoBulkAll l:=by
 induction l with
 | nil=> simp [Rows.uptoBulkAll]
 | cons x r ih=> have:=one_le x;simp only [Rows.uptoBulkAll,List.length_cons];omega
theorem slice_le {H : Type} (kl spare : List (DataW H)) : kl.length + spare.length + 1≤Rows.uptoBulk (.slice kl spare) :=by
 have h1:=length_le kl
 have h2:=length_le spare
 simp only [Rows.uptoBulk]
 omega
theorem slice_elems {H : Type} (kl spare : List (DataW H)) : Rows.uptoBulkAll kl + 1≤Rows.uptoBulk (.slice kl spare) :=by
 simp only [Rows.uptoBulk]
 omega
theorem bound {H : Type} {l : List (DataW H)} (hk : Rows.uptoSmall H l=true) : Rows.uptoBulkAll l≤1048576:=by
 simpa [Rows.uptoSmall] using hk
theorem room {n b : Nat} (hn : n≤2097152) (hb : b≤4096) : (n + n / 4 + 192) * b≤281474976710656:=by
 have h : (n + n / 4 + 192) * b≤2621632 * 4096:=Nat.mul_le_mul (by omega) hb
 omega
end Go.Proofs.YtagjakphhkfofaaGreat.bulks
end
section
namespace Go.Proofs.YtagjakphhkfofaaGreat.timetableLeast
open Go.ChangeShapes Go.WideShapes Go.ChangeAt Go.RowKit Go.Sx
set_option linter.unusedVariables false
theorem con_eq (x0 : Tag.district.T) (x1 : List Tag.claim.T) (x2 : List Tag.order.T) : fj [.agg (cellsOf .district x0),.rs .claim x1,.rs .order x2]=some (.det (dX x0 x1 x2) (.v (.bool (dI x0 x1 x2)))) :=by
 unfold fj
 simp only [go_sem,Nat.reduceBEq]
theorem call_true {W : World} {cs0 : Array Value} (h0 : RC (fun _=> False) bY W (ci .district) cs0.toList) {v1 : Value} (h1 : RC (fun _=> False) bY W [.r .claim] [v1]) {v2 : Value} (h2 : RC (fun _=> False) bY W [.r .order] [v2]) :
  Calls Tryz.prog 8 #[.agg cs0,v1,v2] W (fun e W'=> e= .returned (.bool true)∧Below W.heap.size W W') :=by
 obtain ⟨x0,r0⟩ :=Oq h0
 obtain ⟨x1,r1⟩ :=J7 h1
 obtain ⟨x2,r2⟩ :=J7 h2
 refine (mY.calls _ _ (con_eq x0 x1 x2) (F4 x0 x1 x2) (fun _=> False) W _ (fun b h=> h.elim) ⟨rfl,fun j s hj=> ?_⟩).mono fun e W' he=> ?_
 ·match j,hj with
  | 0,hj=> cases hj;exact r0
  | 1,hj=> cases hj;exact r1
  | 2,hj=> cases hj;exact r2
 ·rcases he with ⟨s,u,own',hs,rfl,hh,hb⟩ | ⟨x,hx,_⟩
  ·simp only [cj] at hs
   subst hs
   rw [F5 x0 x1 x2] at hh
   have:=hh.val
   simp only [ov] at this
   rw [bG this]
   exact ⟨rfl,hb⟩
  ·exact hx.elim
theorem own : ownKnob Tryz.prog.godebug=none:=by kernel_rfl
theorem small (H : Type) : Small (fun d : DataW H=> Rows.uptoBulk d≤1048576) where
 agg l h d hd:=by
  have h1:=bulks.part_le hd
  simp only [Rows.uptoBulk] at h
  omega
 slice l m h:=by
  have h1:=bulks.slice_le l m
  have h2:=bulks.slice_elems l m
  refine ⟨by unfold bv;omega,fun d hd=> ?_⟩
  have:=bulks.part_le hd
  omega
theorem laid : laidOutB Tryz.prog=true:=by kernel_rfl
set_option maxRecDepth 100000 in
theorem contract (H : Type) (enc : TypeId×Value→H) (W : World) (base : Nat) (args : Array Value) (ds gs : List (DataW H)) (before : List MemPlace)
  (hval : ∀ (j : Nat) t v,Tryz.f8.params[j]? =some t→args[j]? =some v→Value.okWide Tryz.prog W .any base t v)
  (hW : DataW.Whole enc Tryz.prog Tryz.f8.params.toList Rows.timetableLeastSpec.vars false W args.toList ds gs before) (hk : Rows.uptoSmall H (ds ++ gs)=true) :
  Calls Tryz.prog 8 args W fun e W'=> ∃ v,e= .returned v∧Rows.timetableLeastSpec.post enc Tryz.prog Tryz.f8 false true false false W args v W':=by
 have hW':=hW
 obtain ⟨p,q,hA0,hV,rfl,hfz,hnd⟩ :=hW
 have hA : DataW.TrodAll enc Tryz.prog W 0 (fun _=> true) true Tryz.f8.params.toList args.toList ds p:=hA0
 rw [Tryz.params8] at hA hval
 obtain ⟨v0,vs0,d0,ds0,p0,q0,hargs,rfl,rfl,h0,r0⟩ :=trodAll_cons hA
 obtain ⟨v1,vs1,d1,ds1,p1,q1,rfl,rfl,rfl,h1,r1⟩ :=trodAll_cons r0
 obtain ⟨v2,vs2,d2,ds2,p2,q2,rfl,rfl,rfl,h2,r2⟩ :=trodAll_cons r1
 obtain ⟨rfl,rfl,rfl⟩ :=trodAll_nil r2
 obtain rfl : args= #[v0,v1,v2] :=by cases args;simp_all
 obtain ⟨rfl,rfl⟩ :=trodVars_none hV
 have hb:=bulks.bound hk
 simp only [Rows.uptoBulkAll,List.append_nil,List.cons_append,List.nil_append] at hb
 have ho : ∀ b,¬ bB (fun _=> False) bY b:=fun b h=> by
  rcases h with h | ⟨_,_,h,_⟩
  ·exact h
  ·cases h
 have s0 : ∃ cs,v0= .agg cs:=by
  have:=hval 0 31 v0 rfl rfl
  simp only [Value.okWide,Tryz.underlying31] at this
  exact ⟨_,this.choose_spec.1⟩
 obtain ⟨cs0,rfl⟩ :=s0
 obtain ⟨a1,l1,c1,rfl⟩ :=okWide_slice Tryz.underlying32 (hval 1 32 v1 rfl rfl)
 obtain ⟨a2,l2,c2,rfl⟩ :=okWide_slice Tryz.underlying35 (hval 2 35 v2 rfl rfl)
 have R0 : RC (fun _=> False) bY W (ci .district) cs0.toList:=by
  obtain ⟨f,hf⟩ :=h0
  exact ju (n:=6) (t:=31) (small H) ho _ (by kernel_rfl) f _ _ hf (by show Rows.uptoBulk d0≤_;omega)
 have R1 : RC (fun _=> False) bY W [.r .claim] [.slice a1 l1 c1] :=by
  obtain ⟨f,hf⟩ :=h1
  exact ju (n:=6) (t:=32) (small H) ho _ (by kernel_rfl) f _ _ hf (by show Rows.uptoBulk d1≤_;omega)
 have R2 : RC (fun _=> False) bY W [.r .order] [.slice a2 l2 c2] :=by
  obtain ⟨f,hf⟩ :=h2
  exact ju (n:=6) (t:=35) (small H) ho _ (by kernel_rfl) f _ _ hf (by show Rows.uptoBulk d2≤_;omega)
 refine (call_true R0 R1 R2).mono fun e W' ⟨he,hg⟩ => ?_
 subst he
 exact ⟨_,rfl,J8 laid (by kernel_rfl) hW' (by kernel_rfl) Tryz.underlying4 rfl rfl rfl rfl hg⟩
def zeroV : Kd→Value
 | .n k=> .int k 0
 | .b=> .bool false
 | .s=> .string (ByteArray.mk #[])
 | .r _=> .slice none 0 0
 | .m _ _=> .map none
def wit : Array Value:= #[.agg ((ci .district).map zeroV).toArray,.slice none 0 0,.slice none 0 0]
set_option maxRecDepth 100000 in
theorem lifted (os : Os) (started : os.Started) (H : Type) (enc : TypeId×Value→H) (F : Stop.Interp) :
  ReturnsInHanded {} Tryz.checked os 8 .any ((Rows.OpenSpec.upto Rows.timetableLeastSpec).pre6 enc Tryz.prog Tryz.f8 Rows.timetableLeastUptoRow.domain false) (((Rows.OpenSpec.upto Rows.timetableLeastSpec).at F).post enc Tryz.prog Tryz.f8 false true false false) :=by
 refine returnsInHanded_of_cond (C:=Tryz.checked) (s:=Rows.OpenSpec.upto Rows.timetableLeastSpec) (k:=Rows.uptoSmall) rfl own started (by kernel_rfl) Tryz.func8
  (OpenSpec.witness (enc:=enc) (C:=Tryz.checked) (s:=Rows.OpenSpec.upto Rows.timetableLeastSpec) (k:=Rows.uptoSmall) rfl false ⟨#[],wit,[]⟩ 8 (by kernel_rfl) (by kernel_rfl) (by kernel_rfl)
   (x:=(DataW.whole enc Tryz.prog (World.plainHolding Tryz.prog os ⟨#[],wit,[]⟩).memory Tryz.f8.params.toList Rows.timetableLeastSpec.vars false wit.toList 8).getD ([],[],[])) (by kernel_rfl) rfl (by kernel_rfl)) ?_
 intro W base args ds gs before hval hW _ hk _
 exact contract H enc W base args ds gs before hval hW hk
theorem over : Rows.timetableLeastUptoRow.holds Tryz.pinned (Rows.OpenSpec.upto Rows.timetableLeastSpec) :=
 OpenClaim.holds_of_cond 8 Tryz.f8 rfl rfl rfl rfl rfl rfl rfl ⟨rfl,rfl,rfl,rfl,rfl⟩ rfl rfl rfl rfl rfl (by kernel_rfl) Tryz.func8 (by kernel_rfl)
  (of_decide_eq_true (by kernel_rfl)) (by unfold Func.isWrapper;first | (rw [if_pos (by decide +kernel)];kernel_rfl) | (rw [if_neg (by decide +kernel)];exact ⟨rfl,rfl⟩))
  (fun os started H enc _ F=> lifted os started H enc F)
theorem proved : Rows.TimetableLeastUptoSaid:=over
end Go.Proofs.YtagjakphhkfofaaGreat.timetableLeast
end
