/- Part of the proof that the law TimetableSure returns true and leaves its arguments as they were, for all arguments of bulk at most 1048576 (the Upto form). -/
import Derived.Test.YtagjakphhkfofaaGreatC310
import Derived.Shelf.SlSortCmp.NoneTotal
import Derived.Ground.SlsfProg
import Derived.Test.YtagjakphhkfofaaGreatProg
import Derived.Test.YtagjakphhkfofaaGreatC309
import Derived.Test.YtagjakphhkfofaaGreatC307
import Derived.Test.YtagjakphhkfofaaGreatC306
import Derived.Test.YtagjakphhkfofaaGreatC301
set_option linter.all false
section
namespace Go.Sx
open Go.Proofs
def Eqv (w : WM) (m : Mp) : Prop:= ∀ a b,ay .timetableSlot .int w (sl a b)=ay .int2 .int m (a,b)
theorem Cl {a b x y : Int} : (sl x y=sl a b)=((x,y)=(a,b)) :=by
 unfold sl
 simp only [TimetableSlot.mk.injEq,Prod.mk.injEq]
theorem Eqv.put {w : WM} {m : Mp} (h : Eqv w m) (a b v : Int) : Eqv (cU .timetableSlot .int w (sl a b) v) (cU .int2 .int m (a,b) v) :=fun x y=> by
 rw [eZ,eZ,h]
 by_cases q : (x,y)=(a,b)
 ·rw [if_pos (by rw [Cl];exact q),if_pos q]
 ·rw [if_neg (by rw [Cl];exact q),if_neg q]
theorem tA {ρ σ τ : Type} (step : τ→σ→ρ⊕σ) : ∀ (A B : List τ) (s : σ),bJ step (A ++ B) s=match bJ step A s with | .inl y=> .inl y | .inr s'=> bJ step B s'
 | [],B,s=> rfl
 | x :: A,B,s=> by
  simp only [List.cons_append,bJ]
  cases h : step x s with
  | inl y=> rfl
  | inr s'=> exact tA step A B s'
section
variable {d : District} {out : List Order}
theorem Pj : ∀ (n k : Nat) (w : WM) (m m' : Mp),Eqv w m→az (a6 d out) n k m= .inr m'→∃ w',az (cF out d) n k w= .inr w'∧Eqv w' m'
 | 0,k,w,m,m',h,e=> by
  simp only [az,Sum.inr.injEq] at e
  subst e
  exact ⟨w,rfl,h⟩
 | n + 1,k,w,m,m',h,e=> by
  simp only [az] at e ⊢
  cases hs : a6 d out k m with
  | inl x=> rw [hs] at e;cases e
  | inr m1=>
   rw [hs] at e
   simp only at e
   refine Pj n (k + 1) _ m1 m' ?_ e
   unfold a6 at hs
   cases ho : (out.getD k (default : Order)).outlet with
   | false=> rw [ho] at hs;cases hs
   | true=>
    rw [ho] at hs
    simp only [Bool.not_true,cond_false,Sum.inr.injEq] at hs
    subst hs
    have h1:=h (d.farms.getD (Int.toNat ((out.getD k (default : Order)).index)) (default : Farm)).reach (out.getD k (default : Order)).hour
    have:=h.put (d.farms.getD (Int.toNat ((out.getD k (default : Order)).index)) (default : Farm)).reach (out.getD k (default : Order)).hour (IntKind.i64.wrap ((ay .int2 .int m ((d.farms.getD (Int.toNat ((out.getD k (default : Order)).index)) (default : Farm)).reach,(out.getD k (default : Order)).hour)) + (out.getD k (default : Order)).litres))
    rw [←h1] at this ⊢
    exact this
theorem yR (s : TimetableSlot) : ay .timetableSlot .bool [] s=false:=rfl
theorem v6 {s1 : List Fault×WM×UM×Int} {r : Nat} (hs : s1.2.2.2=(r : Int)) {H : Nat} : ∀ (n k : Nat) (l : List Order) (m : Mp) (w : WM),k + n=H→Eqv w m→
  (∃ l' m' w',bJ (aF d) (tX r H k) (l,m)= .inr (l',m')∧az (aD d s1) n k ([],[],w)= .inr ([],[],w')∧Eqv w' m')∨
  ((∃ y,bJ (aF d) (tX r H k) (l,m)= .inl y)∧∃ u' F' w',az (aD d s1) n k ([],[],w)= .inr (u',F',w')∧F'≠[])
 | 0,k,l,m,w,hk,h=> by
  have : k=H:=by omega
  subst this
  rw [rR]
  exact .inl ⟨l,m,w,rfl,rfl,h⟩
 | n + 1,k,l,m,w,hk,h=> by
  rw [kP (by omega : k < H)]
  have hg:=h (r : Int) (k : Int)
  rw [←hs] at hg
  simp only [bJ,az]
  by_cases h0 : ay .timetableSlot .int w (sl s1.2.2.2 k)=0
  ·have e1 : aF d ((r : Int),(k : Int)) (l,m)= .inr (l,m) :=by
    unfold aF
    rw [h0,hs] at hg
    simp only [←hg,BEq.rfl,cond_true]
   rw [e1,sZ (yR _) h0]
   exact v6 hs n (k + 1) l m w (by omega) h
  ·by_cases hb : (aA (rch d s1.2.2.2) (ay .timetableSlot .int w (sl s1.2.2.2 k))).2=false∨(k : Int) < (rch d s1.2.2.2).delay
   ·refine .inr ⟨?_,?_⟩
    ·have e1 : aF d ((r : Int),(k : Int)) (l,m)= .inl m:=by
      unfold aF
      rw [hg,hs] at h0 hb
      have h1 : (ay .int2 .int m ((r : Int),(k : Int)) ==(0 : Int))=false:=beq_eq_false_iff_ne.2 h0
      simp only [h1,cond_false]
      have h2 : ((!(aA (d.reaches.getD (Int.toNat (r : Int)) (default : Reach)) (ay .int2 .int m ((r : Int),(k : Int)))).2) || (decide ((k : Int) < (d.reaches.getD (Int.toNat (r : Int)) (default : Reach)).delay)))=true:=by
       rcases hb with hb | hb
       ·rw [hb];rfl
       ·rw [decide_eq_true hb,Bool.or_true]
      rw [h2,cond_true]
     rw [e1]
     exact ⟨_,rfl⟩
    ·obtain ⟨u',e⟩ :=vZ (F:=[]) (yR _) h0 hb
     rw [e]
     obtain ⟨u2,T2,w2,e2,_⟩ :=rZ (d:=d) (s1:=s1) n (k + 1) u' ([] ++ [ltF k s1.2.2.2 (ay .timetableSlot .int w (sl s1.2.2.2 k))]) w
     exact ⟨u2,_,w2,e2,by simp⟩
   ·have hv : (aA (rch d s1.2.2.2) (ay .timetableSlot .int w (sl s1.2.2.2 k))).2=true:=by
     cases q : (aA (rch d s1.2.2.2) (ay .timetableSlot .int w (sl s1.2.2.2 k))).2 with
     | true=> rfl
     | false=> exact absurd (.inl q) hb
    have hk2 : ¬ (k : Int) < (rch d s1.2.2.2).delay:=fun q=> hb (.inr q)
    rw [s4 (yR _) h0 hv hk2]
    rw [hg] at h0 hv ⊢
    rw [hs] at h0 hv hk2 ⊢
    have e1 : aF d ((r : Int),(k : Int)) (l,m)= .inr (l ++ [({ hour:=(IntKind.i64.wrap ((k : Int) - (rch d (r : Int)).delay)),index:=(r : Int),litres:=(aA (rch d (r : Int)) (ay .int2 .int m ((r : Int),(k : Int)))).1,outlet:=false} : Order)],cU .int2 .int m ((rch d (r : Int)).up,IntKind.i64.wrap ((k : Int) - (rch d (r : Int)).delay)) (IntKind.i64.wrap ((ay .int2 .int m ((rch d (r : Int)).up,IntKind.i64.wrap ((k : Int) - (rch d (r : Int)).delay))) + (aA (rch d (r : Int)) (ay .int2 .int m ((r : Int),(k : Int)))).1))) :=by
     unfold aF
     have h1 : (ay .int2 .int m ((r : Int),(k : Int)) ==(0 : Int))=false:=beq_eq_false_iff_ne.2 h0
     simp only [h1,cond_false]
     have h2 : ((!(aA (d.reaches.getD (Int.toNat (r : Int)) (default : Reach)) (ay .int2 .int m ((r : Int),(k : Int)))).2) || (decide ((k : Int) < (d.reaches.getD (Int.toNat (r : Int)) (default : Reach)).delay)))=false:=by
      rw [decide_eq_false hk2,Bool.or_false]
      show (!(aA (rch d (r : Int)) (ay .int2 .int m ((r : Int),(k : Int)))).2)=false
      rw [hv];rfl
     rw [h2,cond_false]
    rw [e1,h]
    exact v6 hs n (k + 1) _ _ _ (by omega) (h.put _ _ _)
theorem AI : ∀ (m n j : Nat) (l : List Order) (md : Mp) (w : WM),m < n→m≤1000000→Eqv w md→(∃ y,bJ (aF d) (pM d.hours.toNat m) (l,md)= .inl y)→
  ∃ T,az (a7 d) n j ([],w,[],(m : Int) - 1)= .inl T∧T≠[]
 | 0,n,j,l,md,w,_,_,_,⟨y,e⟩ => by simp [pM,bJ] at e
 | m + 1,n + 1,j,l,md,w,hmn,hm,h,⟨y,e⟩ => by
  rw [o5] at e
  have hs : (([],w,[],((m + 1 : Nat) : Int) - 1) : List Fault×WM×UM×Int).2.2.2=(m : Int) :=by simp only;omega
  rcases v6 (d:=d) hs (H:=d.hours.toNat) d.hours.toNat 0 l md w (by omega) h with ⟨l',m',w',e1,e2,h'⟩ | ⟨_,u',F',w',e2,hF⟩
  ·rw [tA,e1] at e
   obtain ⟨T,e3,hT⟩ :=AI m n (j + 1) l' m' w' (by omega) (by omega) h' ⟨y,e⟩
   refine ⟨T,?_,hT⟩
   simp only [az]
   rw [AH (by omega) (by omega) e2,show ((m + 1 : Nat) : Int) - 1 - 1=(m : Int) - 1 by omega]
   exact e3
  ·obtain ⟨T,e3,_⟩ :=ui (d:=d) m n (j + 1) F' w' u' (by omega) (by omega)
   refine ⟨F' ++ T,?_,by simp [hF]⟩
   simp only [az]
   rw [AH (by omega) (by omega) e2,show ((m + 1 : Nat) : Int) - 1 - 1=(m : Int) - 1 by omega]
   exact e3
theorem qJ (hr : Right1 d) (ho : Orders1 d out) (hall : ∀ x∈out,x.outlet=true) : ∃ w0,az (cF out d) out.length 0 []= .inr w0∧(∃ m,az (a6 d out) out.length 0 []= .inr m∧Eqv w0 m)∧
  az (a7 d) (d.reaches.length + 1) 0 ([],w0,[],IntKind.i64.wrap ((d.reaches.length : Int) - 1))= .inl (bn out d)∧∀ f∈bn out d,f.kind=7:=by
 obtain ⟨m,hm⟩ :=(pG hr ho).2.2 hall
 obtain ⟨w0,e0,h0⟩ :=Pj out.length 0 [] [] m (fun _ _=> rfl) hm
 have hR:=hr.reaches
 obtain ⟨T,e1,h1⟩ :=ui (d:=d) d.reaches.length (d.reaches.length + 1) 0 [] w0 [] (by omega) (by omega)
 have hw : IntKind.i64.wrap ((d.reaches.length : Int) - 1)=(d.reaches.length : Int) - 1:=cd (by omega) (by omega)
 have e2 : bn out d=T:=by
  unfold bn
  rw [hw]
  simp only [e0,e1,List.nil_append]
 rw [hw,e2]
 exact ⟨w0,e0,⟨m,hm,h0⟩,by rw [e1,List.nil_append],h1⟩
theorem Rf (hr : Right1 d) (ho : Orders1 d out) (hall : ∀ x∈out,x.outlet=true) : d9 out d ((bn out d).map du) :=by
 obtain ⟨w0,e0,_,e1,_⟩ :=qJ hr ho hall
 intro _
 have hR:=hr.reaches
 have hh:=hr.hours
 refine ⟨?_,fun s_0 hs _=> ?_⟩
 ·have hst : ∀ j s,0≤j→j < 0 + out.length→ef out d j s:=fun j s _ hj=> by
   have h1:=ho.one j (by omega)
   have h2 : (out.getD j (default : Order)).outlet=true:=hall _ (mT _ _ (by omega))
   exact ⟨h1.index0,h1.farm h2⟩
  exact kE (fun _ _=> True) _ _ _ trivial fun j s h1 h2 _=> ⟨hst j s h1 h2,fun _ _=> trivial⟩
 ·rw [e0] at hs
  simp only [Sum.inr.injEq] at hs
  subst hs
  have hw : IntKind.i64.wrap ((d.reaches.length : Int) - 1)=(d.reaches.length : Int) - 1:=cd (by omega) (by omega)
  refine ⟨?_,fun z hz=> ?_,fun x hx=> ?_⟩
  ·rw [hw] at e1 ⊢
   exact JH hh _ _ _ _ _ _ (by omega) (by omega) (Nat.le_refl _) fun x hx=> by
    rw [e1] at hx
    simp only [Sum.inl.injEq] at hx
    subst hx
    exact List.prefix_rfl
  ·rw [e1] at hz;cases hz
  ·rw [e1] at hx
   simp only [Sum.inl.injEq] at hx
   subst hx
   simp
theorem Oj (hr : Right1 d) (ho : Orders1 d out) (hall : ∀ x∈out,x.outlet=true) (hP : (ar d out).2.1=false) (hP2 : (ar d out).2.2=0) : bn out d≠[] :=by
 obtain ⟨w0,e0,⟨m,hm,h0⟩,e1,_⟩ :=qJ hr ho hall
 have hR:=hr.reaches
 have hw : IntKind.i64.wrap ((d.reaches.length : Int) - 1)=(d.reaches.length : Int) - 1:=cd (by omega) (by omega)
 have hy : ∃ y,bJ (aF d) (bv d) (out,m)= .inl y:=by
  cases q : bJ (aF d) (bv d) (out,m) with
  | inl y=> exact ⟨y,rfl⟩
  | inr s=>
   exfalso
   unfold ar at hP hP2
   simp only [hm,q] at hP hP2
   cases hn : ((bE d out) !=0) with
   | true=>
    rw [hn] at hP2
    simp only [cond_true] at hP2
    rw [hP2] at hn;cases hn
   | false=>
    rw [hn] at hP hP2
    simp only [cond_false] at hP hP2
    cases hd : decide ((s.1.length : Int) > 4096) with
    | true=> rw [hd] at hP2;cases hP2
    | false=> rw [hd] at hP;cases hP
 obtain ⟨T,e3,hT⟩ :=AI (d:=d) d.reaches.length (d.reaches.length + 1) 0 out m w0 (by omega) (by omega) h0 hy
 rw [hw,e3] at e1
 simp only [Sum.inl.injEq] at e1
 rw [←e1]
 exact hT
end
abbrev F5:=Int×Int×Int×Int×Int
def Cm (f : Fault) : F5:=(f.kind,f.hour,f.index,f.litres,f.limit)
theorem yS (out : List Order) (d : District) : ∀ (L : List Fault) (s : F5),∃ s',bJ (bY out d) L s= .inr s'∧(s'=s∨∃ f∈L,s'=Cm f)
 | [],s=> ⟨s,rfl,.inl rfl⟩
 | f :: L,s=> by
  have h1 : bY out d f s= .inr (Cm f)∨bY out d f s= .inr s:=by
   unfold bY Cm
   cases (((s.1==0) && ((s.2.1==0) && ((s.2.2.1==0) && ((s.2.2.2.1==0) && (s.2.2.2.2==0))))) || (decide ((bK ([(aS f.hour s.2.1),(aS s.2.2.1 f.index)])) < 0))) with
   | true=> exact .inl rfl
   | false=> exact .inr rfl
  simp only [bJ]
  rcases h1 with h1 | h1
  ·rw [h1]
   obtain ⟨s',e,h⟩ :=yS out d L (Cm f)
   refine ⟨s',e,.inr ?_⟩
   rcases h with rfl | ⟨g,hg,rfl⟩
   ·exact ⟨f,List.mem_cons_self,rfl⟩
   ·exact ⟨g,List.mem_cons_of_mem _ hg,rfl⟩
  ·rw [h1]
   obtain ⟨s',e,h⟩ :=yS out d L s
   refine ⟨s',e,?_⟩
   rcases h with rfl | ⟨g,hg,rfl⟩
   ·exact .inl rfl
   ·exact .inr ⟨g,List.mem_cons_of_mem _ hg,rfl⟩
theorem FZ {out : List Order} {d : District} (h : bn out d≠[]) : dp out d∈bn out d:=by
 unfold dp
 cases hL : bn out d with
 | nil=> exact absurd hL h
 | cons f L=>
  have h1 : bY out d f (0,0,0,0,0)= .inr (Cm f) :=by
   unfold bY Cm
   simp only [BEq.rfl,Bool.and_true,Bool.true_or,cond_true]
  obtain ⟨s',e,h⟩ :=yS out d L (Cm f)
  simp only [bJ,h1,e]
  rcases h with rfl | ⟨g,hg,rfl⟩
  ·exact List.mem_cons_self
  ·exact List.mem_cons_of_mem _ hg
end Go.Sx
end
section
namespace Go.Sx
open Go.Proofs
theorem s5 {f : Nat→List Fault} {step : Nat→List Fault→Empty⊕List Fault} : ∀ (n i : Nat) (s : List Fault),(∀ j s,i≤j→j < i + n→step j s= .inr (s ++ f j))→az step n i s= .inr (s ++ (List.range' i n).flatMap f)
 | 0,i,s,_=> by simp [az]
 | n + 1,i,s,h=> by
  simp only [az,h i s (Nat.le_refl _) (by omega)]
  rw [s5 n (i + 1) (s ++ f i) fun j s h1 h2=> h j s (by omega) (by omega)]
  simp [List.range'_succ]
theorem v7 {f : Nat→List Fault} {step : Nat→List Fault→Empty⊕List Fault} {p : Nat→List Fault→Prop} {items : List (List SV)} : ∀ (n i : Nat) (s : List Fault),(∀ j s,i≤j→j < i + n→step j s= .inr (s ++ f j))→
  (∀ j s,i≤j→j < i + n→(s ++ f j).map du <+: items→p j s)→(s ++ (List.range' i n).flatMap f).map du <+: items→okI step p n i s
 | 0,_,_,_,_,_=> trivial
 | n + 1,i,s,h,hp,hi=> by
  rw [List.range'_succ,List.flatMap_cons,←List.append_assoc] at hi
  refine ⟨hp i s (Nat.le_refl _) (by omega) (List.IsPrefix.trans (by rw [List.map_append (l₂:=List.flatMap f _)];exact List.prefix_append _ _) hi),fun s' e=> ?_⟩
  rw [h i s (Nat.le_refl _) (by omega)] at e
  simp only [Sum.inr.injEq] at e
  subst e
  exact v7 n (i + 1) (s ++ f i) (fun j s h1 h2=> h j s (by omega) (by omega)) (fun j s h1 h2=> hp j s (by omega) (by omega)) hi
def g0P (x : Order) : Bool:= !x.outlet && x.index==0
section
variable {d : District} {l : List Order}
theorem Cn (ho : Orders1 d l) : ∃ s0,az (aL l) l.length 0 ([],0)= .inr s0∧(∀ r h,ay .timetableSlot .int s0.1 (sl r h)=aT (aY r h h) l)∧s0.2=aT g0P l:=by
 obtain ⟨s,e,h1,h2⟩ :=nB (step:=aL l) (fun j s=> (∀ r h,ay .timetableSlot .int s.1 (sl r h)=aT (aY r h h) (l.take j))∧s.2=aT g0P (l.take j)) l.length 0 ([],0) ⟨fun _ _=> rfl,rfl⟩ (fun j s _ hj ⟨h1,h2⟩ => by
  have hj : j < l.length:=by omega
  have hb:=yO ho g0P j
  have hlit:=ho.lit _ (List.getElem_mem hj)
  unfold aL
  rw [c9 _ _ hj]
  cases hout : l[j].outlet with
  | true=>
   refine ⟨_,rfl,fun r h=> ?_,?_⟩
   ·rw [kO hj,h1]
    have : aY r h h l[j]=false:=by unfold aY;rw [hout];rfl
    rw [this];simp
   ·rw [kO hj,h2]
    have : g0P l[j]=false:=by unfold g0P;rw [hout];rfl
    rw [this];simp
  | false=>
   have hg : ∀ r h,ay .timetableSlot .int (cU .timetableSlot .int s.1 (sl l[j].index l[j].hour) l[j].litres) (sl r h)=aT (aY r h h) (l.take (j + 1)) :=fun r h=> by
    rw [eZ,kO hj,h1]
    by_cases q : r=l[j].index∧h=l[j].hour
    ·obtain ⟨rfl,rfl⟩ :=q
     have hp : aY l[j].index l[j].hour l[j].hour l[j]=true:=by unfold aY;rw [hout];simp
     rw [if_pos rfl,hp,FW ho hj (fun x hx=> ?_)]
     ·simp
     ·unfold aY at hx
      simp only [Bool.and_eq_true,Bool.not_eq_true',beq_iff_eq,decide_eq_true_eq] at hx
      exact ⟨by omega,hx.1.1.2,by rw [hx.1.1.1,hout]⟩
    ·have hp : aY r h h l[j]=false:=by
      cases hc : aY r h h l[j] with
      | false=> rfl
      | true=>
       unfold aY at hc
       simp only [Bool.and_eq_true,Bool.not_eq_true',beq_iff_eq,decide_eq_true_eq] at hc
       exact absurd ⟨hc.1.1.2.symm,by omega⟩ q
     rw [if_neg (fun e=> q (by rw [Cl] at e;simp only [Prod.mk.injEq] at e;exact e)),hp]
     simp
   by_cases h0 : l[j].index=0
   ·have hb0 : (l[j].index==0)=true:=by rw [h0];rfl
    simp only [Bool.not_false,cond_true,hb0]
    refine ⟨_,rfl,hg,?_⟩
    have : g0P l[j]=true:=by unfold g0P;rw [hout,hb0];rfl
    rw [kO hj,this,h2,cd (by omega) (by omega),cond_true]
   ·have hb0 : (l[j].index==0)=false:=by simpa using h0
    simp only [Bool.not_false,cond_true,hb0,cond_false]
    refine ⟨_,rfl,hg,?_⟩
    have : g0P l[j]=false:=by unfold g0P;rw [hout,hb0];rfl
    rw [kO hj,this,h2]
    simp)
 rw [Nat.zero_add,List.take_length] at h1 h2
 exact ⟨s,e,h1,h2⟩
theorem JI (ho : Orders1 d l) {s0 : WM×Int} (hg : ∀ r h,ay .timetableSlot .int s0.1 (sl r h)=aT (aY r h h) l) (h i : Nat) (hh : h≤1000000) (n : Nat) (hn : n≤1000000) :
  az (dx d s0 h i) n 0 0= .inr (aT (aY i ((h : Int) - n + 1) h) l) :=by
 obtain ⟨s,e,h1⟩ :=nB (step:=dx d s0 h i) (fun j s=> s=aT (aY i ((h : Int) - j + 1) h) l) n 0 0 (ew (fun x _=> by
   cases hc : aY i ((h : Int) - (0 : Nat) + 1) h x with
   | false=> rfl
   | true=>
    unfold aY at hc
    simp only [Bool.and_eq_true,decide_eq_true_eq] at hc
    omega)).symm (fun j s _ hj hs=> by
  refine ⟨_,rfl,?_⟩
  have e1:=hg (i : Int) ((h : Int) - (j : Int))
  unfold sl at e1
  have e2:=vQ ho (i : Int) (a:=(h : Int) - j) (m:=(h : Int) - j + 1) (b:=(h : Int)) (by omega) (by omega)
  have e3:=mn ho (aY i ((h : Int) - j) ((h : Int) - j))
  have e4:=mn ho (aY i ((h : Int) - j + 1) h)
  rw [show (h : Int) - j + 1 - 1=(h : Int) - j by omega] at e2
  rw [cd (n:=(h : Int) - (j : Int)) (by omega) (by omega),e1,hs,cd (by omega) (by omega),show (h : Int) - ((j + 1 : Nat) : Int) + 1=(h : Int) - j by omega]
  omega)
 rw [e,h1,Nat.zero_add]
def bk (d : District) (l : List Order) (h i : Nat) : List Fault:=
 (if aT (aY i h h) l > (rch d i).cap then [{ kind:=1,hour:=(h : Int),index:=(i : Int),litres:=aT (aY i h h) l,limit:=(rch d i).cap}] else []) ++
 (if aT (aY i ((h : Int) - (rch d i).delay + 1) h) l > (rch d i).bank then [{ kind:=3,hour:=(h : Int),index:=(i : Int),litres:=aT (aY i ((h : Int) - (rch d i).delay + 1) h) l,limit:=(rch d i).bank}] else [])
theorem EO (ho : Orders1 d l) {s0 : WM×Int} (hg : ∀ r h,ay .timetableSlot .int s0.1 (sl r h)=aT (aY r h h) l) {h i : Nat} (hh : h≤1000000) (hi : i < d.reaches.length) (s : List Fault) {items : List (List SV)} :
  cH d s0 h i s= .inr (s ++ bk d l h i)∧((s ++ bk d l h i).map du <+: items→dP d items s0 h i s) :=by
 have hx:=ho.right.reach1 hi
 have hd1:=hx.delay1
 have hd2:=hx.delay
 have e1:=JI ho hg h i hh (Int.toNat (d.reaches.getD i (default : Reach)).delay) (by omega)
 have e2:=hg (i : Int) (h : Int)
 unfold sl at e2
 have e3 : ((Int.toNat (d.reaches.getD i (default : Reach)).delay : Nat) : Int)=(rch d (i : Int)).delay:=by
  show _=(d.reaches.getD (Int.toNat (i : Int)) (default : Reach)).delay
  rw [Int.toNat_natCast];omega
 rw [e3] at e1
 have e4 : d.reaches.getD i (default : Reach)=rch d (i : Int) :=by show _=d.reaches.getD (Int.toNat (i : Int)) default;rw [Int.toNat_natCast]
 have hdl : (d.reaches.getD i (default : Reach)).delay < 9223372036854775808:=by omega
 refine ⟨?_,fun hp=> ⟨hdl,fun s3 h3=> ?_⟩⟩
 ·unfold cH bk
  simp only [e1,e2]
  rw [e4]
  generalize aT (aY i ((h : Int) - (rch d (i : Int)).delay + 1) h) l=B
  generalize aT (aY i h h) l=A
  generalize rch d (i : Int)=x
  by_cases c1 : A > x.cap <;> by_cases c2 : B > x.bank <;> simp [c1,c2]
 ·rw [e1] at h3
  simp only [Sum.inr.injEq] at h3
  subst h3
  simp only [e2]
  rw [e4]
  unfold bk at hp
  generalize aT (aY i ((h : Int) - (rch d (i : Int)).delay + 1) h) l=B at hp ⊢
  generalize aT (aY i h h) l=A at hp ⊢
  generalize rch d (i : Int)=x at hp ⊢
  refine ⟨fun q1=> ⟨?_,fun q2=> ?_,fun q=> q⟩,fun q1=> ⟨q1,fun q2=> ?_,fun q=> q⟩⟩
  ·rw [if_pos (of_decide_eq_true q1),←List.append_assoc] at hp
   refine uh (List.IsPrefix.trans ?_ hp)
   rw [List.map_append (l₁:=s ++ _)]
   exact List.prefix_append _ _
  ·rw [if_pos (of_decide_eq_true q1),if_pos (of_decide_eq_true q2),←List.append_assoc] at hp
   exact uh hp
  ·rw [if_neg (of_decide_eq_false q1),if_pos (of_decide_eq_true q2),List.nil_append] at hp
   exact uh hp
def bkH (d : District) (l : List Order) (h : Nat) : List Fault:=(List.range' 0 d.reaches.length).flatMap (bk d l h)
theorem EP (ho : Orders1 d l) {s0 : WM×Int} (hg : ∀ r h,ay .timetableSlot .int s0.1 (sl r h)=aT (aY r h h) l) {h : Nat} (hh : h≤1000000) (s : List Fault) {items : List (List SV)} :
  cm d s0 h s= .inr (s ++ bkH d l h)∧((s ++ bkH d l h).map du <+: items→dQ d items s0 h s) :=by
 have key : ∀ j s,0≤j→j < 0 + d.reaches.length→cH d s0 h j s= .inr (s ++ bk d l h j) :=fun j s _ hj=> (EO ho hg hh (by omega) s (items:=items)).1
 refine ⟨?_,fun hp _=> ?_⟩
 ·unfold cm
  rw [s5 d.reaches.length 0 s key]
  rfl
 ·exact v7 d.reaches.length 0 s key (fun j s _ hj hq=> (EO ho hg hh (by omega) s).2 hq) hp
def mW (d : District) (l : List Order) : List Fault:=(List.range' 0 d.hours.toNat).flatMap (bkH d l) ++ (if aT g0P l > d.tank.start then [{ kind:=4,hour:=0,index:=0,litres:=aT g0P l,limit:=d.tank.start}] else [])
theorem xM (ho : Orders1 d l) : br l d=mW d l∧c5 l d ((br l d).map du) :=by
 obtain ⟨s0,e0,hg,h0⟩ :=Cn ho
 have hh:=ho.right.hours
 have key : ∀ j s,0≤j→j < 0 + d.hours.toNat→cm d s0 j s= .inr (s ++ bkH d l j) :=fun j s _ hj=> (EP ho hg (by omega) s (items:=[])).1
 have e1:=s5 d.hours.toNat 0 [] key
 have e2 : br l d=mW d l:=by
  unfold br mW
  simp only [e0,e1,h0,List.nil_append]
  by_cases c : aT g0P l > d.tank.start
  ·rw [decide_eq_true c,cond_true,if_pos c]
  ·rw [decide_eq_false c,cond_false,if_neg c,List.append_nil]
 refine ⟨e2,?_⟩
 rw [e2]
 intro _ s hs
 rw [e0] at hs
 simp only [Sum.inr.injEq] at hs
 subst hs
 refine ⟨by omega,?_,fun s1 hs1=> ?_⟩
 ·refine v7 d.hours.toNat 0 [] key (fun j s _ hj hq=> (EP ho hg (by omega) s).2 hq) ?_
  unfold mW
  rw [List.nil_append,List.map_append]
  exact List.prefix_append _ _
 ·rw [e1] at hs1
  simp only [List.nil_append,Sum.inr.injEq] at hs1
  subst hs1
  rw [h0]
  unfold mW
  by_cases c : aT g0P l > d.tank.start
  ·rw [decide_eq_true c,if_pos c]
   simp
  ·rw [decide_eq_false c,if_neg c]
   simp
structure Lim (d : District) (l : List Order) : Prop where
 cap : ∀ h i : Nat,h < d.hours.toNat→i < d.reaches.length→aT (aY i h h) l≤(rch d i).cap
 bank : ∀ h i : Nat,h < d.hours.toNat→i < d.reaches.length→aT (aY i ((h : Int) - (rch d i).delay + 1) h) l≤(rch d i).bank
 tank : aT g0P l≤d.tank.start
theorem Rg {h i : Nat} : bk d l h i=[]↔aT (aY i h h) l≤(rch d i).cap∧aT (aY i ((h : Int) - (rch d i).delay + 1) h) l≤(rch d i).bank:=by
 unfold bk
 by_cases c1 : aT (aY i h h) l > (rch d i).cap <;> by_cases c2 : aT (aY i ((h : Int) - (rch d i).delay + 1) h) l > (rch d i).bank <;> simp only [c1,c2,if_true,if_false,List.append_eq_nil_iff,List.cons_ne_nil,false_and,and_false,false_iff,true_and,true_iff] <;> omega
theorem xN : mW d l=[]↔Lim d l:=by
 unfold mW bkH
 simp only [List.append_eq_nil_iff,List.flatMap_eq_nil_iff,List.mem_range',Rg]
 constructor
 ·rintro ⟨h1,h2⟩
  refine ⟨fun h i hh hi=> (h1 h ⟨h,hh,by omega⟩ i ⟨i,hi,by omega⟩).1,fun h i hh hi=> (h1 h ⟨h,hh,by omega⟩ i ⟨i,hi,by omega⟩).2,?_⟩
  by_cases c : aT g0P l > d.tank.start
  ·rw [if_pos c] at h2;cases h2
  ·omega
 ·intro h
  refine ⟨?_,if_neg (by have:=h.tank;omega)⟩
  rintro a ⟨h',hh,rfl⟩ b ⟨i,hi,rfl⟩
  exact ⟨h.cap _ _ (by omega) (by omega),h.bank _ _ (by omega) (by omega)⟩
theorem Co : ∀ f∈mW d l,f.kind≠0∧f.limit < f.litres:=by
 intro f hf
 unfold mW bkH bk at hf
 simp only [List.mem_append,List.mem_flatMap] at hf
 rcases hf with ⟨h,_,i,_,hf | hf⟩ | hf
 all_goals
  split at hf
  ·rename_i c
   simp only [List.mem_cons,List.not_mem_nil,or_false] at hf
   subst hf
   exact ⟨by simp,c⟩
  ·cases hf
end
end Go.Sx
end
section
namespace Go.Sx
open Go.Proofs
section
variable {d : District} {c : List Claim}
theorem qk (s : List Order) : aI s=true↔∃ x∈s,x.litres > 1073741824:=by
 unfold aI b5
 have hst : ∀ j,aX s j ()=bif decide ((s.getD j default).litres > 1073741824) then .inl (j : Int) else .inr () :=fun j=> rfl
 have key : ∀ n i,(∀ j,i≤j→j < i + n→¬ (s.getD j default).litres > 1073741824)→az (aX s) n i ()= .inr () :=by
  intro n
  induction n with
  | zero=> intro i _;rfl
  | succ n ih=>
   intro i h
   simp only [az,hst]
   rw [decide_eq_false (h i (Nat.le_refl _) (by omega)),cond_false]
   exact ih (i + 1) fun j h1 h2=> h j (by omega) (by omega)
 have key2 : ∀ n i x,az (aX s) n i ()= .inl x→0≤x∧∃ j,i≤j∧j < i + n∧(s.getD j default).litres > 1073741824:=by
  intro n
  induction n with
  | zero=> intro i x h;cases h
  | succ n ih=>
   intro i x h
   simp only [az,hst] at h
   by_cases q : (s.getD i default).litres > 1073741824
   ·rw [decide_eq_true q,cond_true] at h
    simp only [Sum.inl.injEq] at h
    exact ⟨by omega,i,Nat.le_refl _,by omega,q⟩
   ·rw [decide_eq_false q,cond_false] at h
    obtain ⟨h1,j,h2,h3,h4⟩ :=ih (i + 1) x h
    exact ⟨h1,j,by omega,by omega,h4⟩
 constructor
 ·intro h
  cases hr : az (aX s) s.length 0 () with
  | inl x=>
   obtain ⟨_,j,_,hj,hl⟩ :=key2 _ _ _ hr
   exact ⟨_,mT s default (by omega),hl⟩
  | inr u=> rw [hr] at h;simp at h
 ·rintro ⟨x,hx,hl⟩
  obtain ⟨j,hj,rfl⟩ :=List.getElem_of_mem hx
  cases hr : az (aX s) s.length 0 () with
  | inl x=> have:=(key2 _ _ _ hr).1;simp only [decide_eq_true_eq];omega
  | inr u=>
   have h1:=B3 hr j (Nat.zero_le _) (by omega)
   rw [hst,c9 _ _ hj,decide_eq_true hl] at h1
   cases h1
structure Askd (d : District) (c : List Claim) : Prop where
 chk : ba d c=0
 wide : (d.reaches.length : Int) * d.hours≤1024
 lit : ∀ x∈am c,x.litres≤1073741824
theorem l8 (h : ba d c=0) : okL1 c:=by
 obtain ⟨_,h2,h3,_⟩ :=(nD d c).1 h
 exact ⟨h2,fun a ha=> Ci (h3 a ha)⟩
theorem JJ (h : ba d c=0) : Right1 d:=oV (by rw [((nD d c).1 h).1];rfl)
theorem EQ (h : ba d c=0) : IntKind.i64.wrap ((d.reaches.length : Int) * d.hours)=(d.reaches.length : Int) * d.hours:=by
 have:=xD (JJ h)
 exact cd (by omega) (by omega)
theorem kR : (ag d c).2=0↔Askd d c:=by
 unfold ag
 by_cases h1 : ba d c=0
 ·rw [h1]
  simp only [bne_self_eq_false,cond_false]
  rw [EQ h1]
  by_cases h2 : (d.reaches.length : Int) * d.hours > 1024
  ·rw [decide_eq_true h2,cond_true]
   constructor
   ·intro h;cases h
   ·intro h;have:=h.wide;omega
  ·rw [decide_eq_false h2,cond_false]
   cases h3 : aI (am c) with
   | true=>
    rw [cond_true]
    obtain ⟨x,hx,hl⟩ :=(qk _).1 h3
    constructor
    ·intro h;cases h
    ·intro h;have:=h.lit x hx;omega
   | false=>
    rw [cond_false]
    refine ⟨fun _=> ⟨h1,by omega,fun x hx=> ?_⟩,fun _=> rfl⟩
    by_cases q : x.litres > 1073741824
    ·have:=(qk _).2 ⟨x,hx,q⟩
     rw [h3] at this;cases this
    ·omega
 ·have : (ba d c !=0)=true:=by simpa using h1
  rw [this,cond_true]
  exact ⟨fun h=> absurd h h1,fun h=> absurd h.chk h1⟩
theorem xO (h : Askd d c) : ag d c=(am c,0) :=by
 have h2:=kR.2 h
 unfold ag at h2 ⊢
 rw [h.chk] at h2 ⊢
 simp only [bne_self_eq_false,cond_false] at h2 ⊢
 rw [EQ h.chk] at h2 ⊢
 rw [decide_eq_false (by have:=h.wide;omega),cond_false] at h2 ⊢
 cases h3 : aI (am c) with
 | true=> rw [h3] at h2;cases h2
 | false=> rfl
theorem AJ (d : District) (c : List Claim) : dg d c:=by
 refine ⟨xJ d c,fun h _ _=> FY (l8 (d:=d) ?_)⟩
 simpa using h
theorem Askd.outs (h : Askd d c) : Outs c (am c) :=Sx.outs (l8 h.chk)
theorem Askd.nar (h : Askd d c) : Nar d (am c) :=by
 obtain ⟨h1,h2,h3,_⟩ :=(nD d c).1 h.chk
 have ho:=h.outs
 refine ⟨⟨h1,Nat.le_trans ho.len h2,fun x hx=> ?_,ho.asc⟩,h.wide⟩
 obtain ⟨a,ha,e1,e2⟩ :=ho.src x hx
 have hk:=h3 a ha
 unfold okC at hk
 simp only [Bool.and_eq_true,decide_eq_true_eq] at hk
 have hout:=ho.out x hx
 have hl:=ho.lit x hx
 have hl2:=h.lit x hx
 exact ⟨by omega,by omega,by omega,fun _=> by omega,fun q=> (by rw [hout] at q;cases q),hl.2,hl2⟩
theorem Cp (d : District) (c : List Claim) :
  (¬ Askd d c∧(ag d c).2≠0∧av d c=([],({ kind:=0,hour:=0,index:=0,litres:=0,limit:=0} : Fault),(ag d c).2))∨
  (Askd d c∧(∃ gs,PFin d (am c) gs∧4096 < (am c ++ gs).length)∧av d c=([],({ kind:=0,hour:=0,index:=0,litres:=0,limit:=0} : Fault),2))∨
  (Askd d c∧(∃ gs r h,PX d (am c) gs r h)∧bn (am c) d≠[]∧av d c=([],dp (am c) d,0))∨
  (Askd d c∧∃ gs,PL d (am c) gs∧¬ Lim d (srt ax (am c ++ gs))∧∃ f∈mW d (srt ax (am c ++ gs)),av d c=([],f,0))∨
  (Askd d c∧∃ gs,PL d (am c) gs∧Lim d (srt ax (am c ++ gs))∧av d c=(srt ax (am c ++ gs),({ kind:=0,hour:=0,index:=0,litres:=0,limit:=0} : Fault),0)) :=by
 by_cases hA : Askd d c
 ·refine .inr ?_
  have ha:=xO hA
  have hN:=hA.nar
  have hall:=hA.outs.out
  unfold av
  simp only [ha,bne_self_eq_false,cond_false]
  rcases vP d (am c) with ⟨q,_⟩ | ⟨_,q,_⟩ | ⟨_,_,hx,e⟩ | ⟨_,_,gs,hF,hlen,e⟩ | ⟨_,_,gs,hP,e⟩
  ·exact absurd ((qF _ _).2 hN) q
  ·exact absurd hall q
  ·refine .inr (.inl ⟨hA,hx,?_,?_⟩)
   ·exact Oj hN.good.right hN.good.orders hall (by rw [e]) (by rw [e])
   ·rw [e];rfl
  ·refine .inl ⟨hA,⟨gs,hF,hlen⟩,?_⟩
   rw [e];rfl
  ·have hg:=hP.good
   have hb:=(xM hg.orders).1
   rw [e]
   simp only [bne_self_eq_false,cond_false,Bool.not_true]
   rw [hb]
   cases hB : mW d (srt ax (am c ++ gs)) with
   | nil=> exact .inr (.inr (.inr ⟨hA,gs,hP,xN.1 hB,rfl⟩))
   | cons f r=>
    refine .inr (.inr (.inl ⟨hA,gs,hP,fun q=> ?_,f,?_,?_⟩))
    ·rw [xN.2 q] at hB;cases hB
    ·rw [hB];exact List.mem_cons_self
    ·rfl
 ·refine .inl ⟨hA,fun q=> hA (kR.1 q),?_⟩
  have : ((ag d c).2 !=0)=true:=by
   rw [bne_iff_ne];exact fun q=> hA (kR.1 q)
  unfold av
  rw [this,cond_true]
theorem AK (d : District) (c : List Claim) : dh d c:=by
 refine ⟨AJ d c,fun h=> ?_⟩
 have hA : Askd d c:=kR.1 (by simpa using h)
 have ha:=xO hA
 rw [ha]
 have hN:=hA.nar
 have hall:=hA.outs.out
 refine ⟨Rc _ _,fun h2=> ⟨fun _=> ?_,fun h3=> ?_⟩⟩
 ·exact Rf hN.good.right hN.good.orders hall
 ·rcases vP d (am c) with ⟨_,e⟩ | ⟨_,_,e⟩ | ⟨_,_,_,e⟩ | ⟨_,_,gs,_,_,e⟩ | ⟨_,_,gs,hP,e⟩
  ·rw [e] at h3;cases h3
  ·rw [e] at h3;cases h3
  ·rw [e] at h3;cases h3
  ·rw [e] at h3;cases h3
  ·rw [e]
   exact (xM hP.good.orders).2
theorem uj (d : District) (c : List Claim) : cA d c:=AK d c
theorem v8 (d : District) (c : List Claim) : dR d c:=AK d c
theorem U0 {f : Fault} (h : f.kind≠0) (e : Int) : ((e==0) && ((f.kind==0) && ((f.hour==0) && ((f.index==0) && ((f.litres==0) && (f.limit==0))))))=false:=by
 have : (f.kind==0)=false:=by simpa using h
 rw [this,Bool.false_and,Bool.and_false]
structure Made (d : District) (c : List Claim) (l : List Order) : Prop where
 ask : Askd d c
 plan : ∃ gs,PL d (am c) gs∧l=srt ax (am c ++ gs)
 lim : Lim d l
end
end Go.Sx
end
section
namespace Go.Sx
open Go.Proofs
structure LF (d : District) (f : Fault) : Prop where
 kind : f.kind=7
 h0 : 0≤f.hour
 h1 : f.hour < d.hours
 i0 : 0≤f.index
 i1 : f.index < (d.reaches.length : Int)
 lim : f.limit < f.litres
abbrev wv (w : WM) (a b : Int) : Int:=ay .timetableSlot .int w (sl a b)
def WB (w : WM) (B : Int) : Prop:= ∀ a b,0≤wv w a b∧wv w a b≤B
theorem WB.mono {w : WM} {B C : Int} (h : WB w B) (hc : B≤C) : WB w C:=fun a b=> ⟨(h a b).1,Int.le_trans (h a b).2 hc⟩
section
variable {d : District} {s1 : List Fault×WM×UM×Int} {k : Nat} {u : UM} {F : List Fault} {w : WM} {B : Int}
theorem F0 (hr : Right1 d) (r0 : 0≤s1.2.2.2) (r1 : s1.2.2.2 < (d.reaches.length : Int)) (hk : k < d.hours.toNat) (hw : WB w B) (hB : B≤1152921504606846976) :
  ∃ u' T w',aD d s1 k (u,F,w)= .inr (u',F ++ T,w')∧WB w' (B + 1073741824)∧∀ f∈T,LF d f:=by
 cases hu : ay .timetableSlot .bool u (sl s1.2.2.2 k) with
 | true=> obtain ⟨u',e⟩ :=xL (F:=F) (w:=w) hu;exact ⟨u',[],w,by rw [e,List.append_nil],hw.mono (by omega),by simp⟩
 | false=>
  by_cases hn : ay .timetableSlot .int w (sl s1.2.2.2 k)=0
  ·exact ⟨u,[],w,by rw [sZ hu hn,List.append_nil],hw.mono (by omega),by simp⟩
  ·have hp:=hw s1.2.2.2 k
   have hn2 : wv w s1.2.2.2 k≠0:=hn
   have q1 : wv w s1.2.2.2 k=ay .timetableSlot .int w (sl s1.2.2.2 k) :=rfl
   have q2 : wv w (rch d s1.2.2.2).up (IntKind.i64.wrap ((k : Int) - (rch d s1.2.2.2).delay))=ay .timetableSlot .int w (sl (rch d s1.2.2.2).up (IntKind.i64.wrap ((k : Int) - (rch d s1.2.2.2).delay))) :=rfl
   by_cases hb : (aA (rch d s1.2.2.2) (ay .timetableSlot .int w (sl s1.2.2.2 k))).2=false∨(k : Int) < (rch d s1.2.2.2).delay
   ·obtain ⟨u',e⟩ :=vZ (F:=F) hu hn hb
    refine ⟨u',_,w,e,hw.mono (by omega),fun f hf=> ?_⟩
    simp only [List.mem_cons,List.not_mem_nil,or_false] at hf
    subst hf
    unfold ltF
    exact ⟨rfl,by simp only;omega,by simp only;omega,r0,r1,by simp only;omega⟩
   ·have h1 : (aA (rch d s1.2.2.2) (ay .timetableSlot .int w (sl s1.2.2.2 k))).2=true:=by
     cases q : (aA (rch d s1.2.2.2) (ay .timetableSlot .int w (sl s1.2.2.2 k))).2 with
     | true=> rfl
     | false=> exact absurd (.inl q) hb
    refine ⟨u,[],_,by rw [s4 hu hn h1 (fun q=> hb (.inr q)),List.append_nil],fun a b=> ?_,by simp⟩
    have hx : bN s1.2.2.2 (rch d s1.2.2.2)=true:=by
     have:=hr.reach s1.2.2.2.toNat (by omega)
     rwa [Int.toNat_of_nonneg r0] at this
    have hv : 1≤(aA (rch d s1.2.2.2) (ay .timetableSlot .int w (sl s1.2.2.2 k))).1∧(aA (rch d s1.2.2.2) (ay .timetableSlot .int w (sl s1.2.2.2 k))).1≤1073741824:=by
     rcases sR r0 hx (w:=wv w s1.2.2.2 k) (by omega) with ⟨v,e,v1,v2,_⟩ | ⟨e,_⟩
     ·rw [e];exact ⟨v1,v2⟩
     ·rw [e] at h1;cases h1
    have hq:=hw (rch d s1.2.2.2).up (IntKind.i64.wrap ((k : Int) - (rch d s1.2.2.2).delay))
    have hab:=hw a b
    unfold wv
    rw [eZ]
    split
    ·rw [cd (by omega) (by omega)];omega
    ·exact ⟨hab.1,Int.le_trans hab.2 (by omega)⟩
theorem AL (hr : Right1 d) (r0 : 0≤s1.2.2.2) (r1 : s1.2.2.2 < (d.reaches.length : Int)) : ∀ (n k : Nat) (u : UM) (F : List Fault) (w : WM) (B : Int),k + n≤d.hours.toNat→WB w B→B + n * 1073741824≤1152921504606846976→
  ∃ u' T w',az (aD d s1) n k (u,F,w)= .inr (u',F ++ T,w')∧WB w' (B + n * 1073741824)∧∀ f∈T,LF d f
 | 0,k,u,F,w,B,_,hw,_=> ⟨u,[],w,by rw [List.append_nil];rfl,hw.mono (by omega),by simp⟩
 | n + 1,k,u,F,w,B,hk,hw,hB=> by
  obtain ⟨u1,T1,w1,e1,b1,h1⟩ :=F0 (d:=d) (s1:=s1) (k:=k) (u:=u) (F:=F) (w:=w) hr r0 r1 (by omega) hw (by omega)
  obtain ⟨u2,T2,w2,e2,b2,h2⟩ :=AL hr r0 r1 n (k + 1) u1 (F ++ T1) w1 (B + 1073741824) (by omega) b1 (by omega)
  refine ⟨u2,T1 ++ T2,w2,?_,b2.mono (by omega),fun f hf=> (List.mem_append.1 hf).elim (h1 f) (h2 f)⟩
  simp only [az,e1]
  rw [e2,List.append_assoc]
end
section
variable {d : District}
theorem AM (hr : Right1 d) : ∀ (m n j : Nat) (F : List Fault) (w : WM) (u : UM) (B : Int),m < n→m≤d.reaches.length→WB w B→B + m * 4398046511104≤1152921504606846976→
  ∃ T,az (a7 d) n j (F,w,u,(m : Int) - 1)= .inl (F ++ T)∧∀ f∈T,LF d f
 | 0,n + 1,j,F,w,u,B,_,_,_,_=> ⟨[],by simp only [az];rw [Ck (by omega),List.append_nil],by simp⟩
 | m + 1,n + 1,j,F,w,u,B,h,hm,hw,hB=> by
  have hh:=hr.hours
  have hR:=hr.reaches
  obtain ⟨u1,T1,w1,e1,b1,h1⟩ :=AL (d:=d) (s1:=(F,w,u,((m + 1 : Nat) : Int) - 1)) hr (by simp only;omega) (by simp only;omega) (Int.toNat d.hours) 0 u F w B (by omega) hw (by omega)
  obtain ⟨T2,e2,h2⟩ :=AM hr m n (j + 1) (F ++ T1) w1 u1 (B + 4398046511104) (by omega) (by omega) (b1.mono (by omega)) (by omega)
  refine ⟨T1 ++ T2,?_,fun f hf=> (List.mem_append.1 hf).elim (h1 f) (h2 f)⟩
  simp only [az]
  rw [AH (by omega) (by omega) e1]
  simp only
  rw [show ((m + 1 : Nat) : Int) - 1 - 1=(m : Int) - 1 by omega,e2,List.append_assoc]
theorem Ok {out : List Order} (hr : Right1 d) (ho : Orders1 d out) (hall : ∀ x∈out,x.outlet=true) : ∀ f∈bn out d,LF d f:=by
 obtain ⟨w0,e0,⟨m,hm,h0⟩,e1,_⟩ :=qJ hr ho hall
 have hR:=hr.reaches
 have hw : IntKind.i64.wrap ((d.reaches.length : Int) - 1)=(d.reaches.length : Int) - 1:=cd (by omega) (by omega)
 have hB : WB w0 4398046511104:=fun a b=> by
  have e3 : wv w0 a b=drw d out a b:=(h0 a b).trans (((pG hr ho).1 m hm).2 a b)
  rw [e3]
  have:=pF (d:=d) ho.lit a b
  have:=ho.len
  omega
 obtain ⟨T,e2,hT⟩ :=AM hr d.reaches.length (d.reaches.length + 1) 0 [] w0 [] 4398046511104 (by omega) (Nat.le_refl _) hB (by omega)
 rw [hw,e2] at e1
 simp only [List.nil_append,Sum.inl.injEq] at e1
 rw [←e1]
 exact hT
theorem F4 {l : List Order} (hr : Right1 d) : ∀ f∈mW d l,0≤f.hour∧f.hour < d.hours∧0≤f.index∧f.index < (d.reaches.length : Int) :=by
 intro f hf
 have hH:=hr.hours1
 have hR:=hr.one
 unfold mW bkH bk at hf
 simp only [List.mem_append,List.mem_flatMap,List.mem_range'] at hf
 rcases hf with ⟨h,⟨a,ha,rfl⟩,i,⟨b,hb,rfl⟩,hf | hf⟩ | hf
 all_goals
  split at hf
  ·simp only [List.mem_cons,List.not_mem_nil,or_false] at hf
   subst hf
   simp only
   omega
  ·cases hf
end
end Go.Sx
end
section
namespace Go.Sx
open Go.Proofs
section
variable {d : District} {c : List Claim} {l : List Order}
structure Srv (d : District) (c : List Claim) (l : List Order) : Prop where
 kp : Keeps d l
 wide : (d.reaches.length : Int) * d.hours≤1024
 lim : Lim d l
 met : ∀ f h : Int,ke c f h≤aT (lw f h) l
theorem AN {f h : Int} {x y : Order} (hx : lw f h x=true) (hy : lw f h y=true) : K x y:=by
 unfold lw at hx hy
 simp only [Bool.and_eq_true,beq_iff_eq] at hx hy
 exact ⟨by rw [hx.2,hy.2],by rw [hx.1.2,hy.1.2],by rw [hx.1.1,hy.1.1]⟩
theorem F6 {x : Order} (h : x.outlet=true) : lw x.index x.hour x=true:=by unfold lw;rw [h];simp
theorem Ol (hk : l.Pairwise fun x y=> ¬ K x y) {x : Order} (hx : x∈l) (h : x.outlet=true) : aT (lw x.index x.hour) l=x.litres:=
 lX hk (fun _ _ h1 h2=> AN h1 h2) hx (F6 h)
theorem AO (hA : Askd d c) {gs : List Order} {x : Order} : x∈srt ax (am c ++ gs)↔x∈am c∨x∈gs:=by
 rw [(o6 _).mem_iff,List.mem_append]
theorem JK (h : Made d c l) : Srv d c l:=by
 obtain ⟨hA,⟨gs,hP,rfl⟩,hL⟩ :=h
 have hN:=hA.nar
 have ho:=hA.outs
 refine ⟨Ce hN.good ho.out hP,hA.wide,hL,fun f t=> ?_⟩
 by_cases h0 : ke c f t=0
 ·rw [h0];exact Od fun x hx=> by have:=(hP.good.one x hx).litres1;omega
 ·obtain ⟨x,hx,rfl,rfl⟩ :=ho.all f t h0
  rw [Ol hP.good.keys ((AO hA).2 (.inl hx)) (ho.out x hx),(ho.lit x hx).1]
  exact Int.le_refl _
theorem Srv.dom (h : Srv d c l) (hc : ba d c=0) : ∀ x∈am c,∃ z∈l,K z x∧x.litres≤z.litres:=fun x hx=> by
 have ho:=outs (l8 hc)
 have h1:=ho.lit x hx
 have h2:=h.met x.index x.hour
 obtain ⟨z,hz,hp⟩ :=yL (p:=lw x.index x.hour) (l:=l) (by omega)
 have e : aT (lw x.index x.hour) l=z.litres:=lX h.kp.good.keys (fun _ _ h1 h2=> AN h1 h2) hz hp
 refine ⟨z,hz,?_,by omega⟩
 unfold lw at hp
 simp only [Bool.and_eq_true,beq_iff_eq] at hp
 exact ⟨hp.2,hp.1.2,by rw [hp.1.1,ho.out x hx]⟩
theorem Srv.ask (h : Srv d c l) (hc : ba d c=0) : Askd d c:=by
 refine ⟨hc,h.wide,fun x hx=> ?_⟩
 obtain ⟨z,hz,_,hl⟩ :=h.dom hc x hx
 have:=(h.kp.good.one z hz).litres
 omega
end
end Go.Sx
end
section
namespace Go.Sx
open Go.Proofs
section
variable {d : District} {c : List Claim} {l : List Order}
theorem xP (r h : Int) : Cd l r h=aT (aY r h h) l:=nv fun x _=> by
 unfold gP aY
 refine xI ?_
 simp only [Bool.and_eq_true,Bool.not_eq_true',beq_iff_eq,decide_eq_true_eq]
 constructor
 ·rintro ⟨⟨h1,h2⟩,h3⟩;exact ⟨⟨⟨h1,h2⟩,by omega⟩,by omega⟩
 ·rintro ⟨⟨⟨h1,h2⟩,h3⟩,h4⟩;exact ⟨⟨h1,h2⟩,by omega⟩
theorem Rh (hg : Good d l) : aT (aY (0 : Nat) 0 ((d.hours.toNat - 1 : Nat) : Int)) l=aT g0P l:=nv fun x hx=> by
 have h1:=hg.one x hx
 have h2:=h1.hour0
 have h3:=h1.hour
 unfold g0P aY
 refine xI ?_
 simp only [Bool.and_eq_true,Bool.not_eq_true',beq_iff_eq,decide_eq_true_eq]
 constructor
 ·rintro ⟨⟨⟨h1,h2⟩,h3⟩,h4⟩;exact ⟨h1,h2⟩
 ·rintro ⟨h1,h2⟩;exact ⟨⟨⟨h1,h2⟩,by omega⟩,by omega⟩
end
end Go.Sx
end
section
namespace Go.Proofs
open Go.Shelf
def Tryz.sortLc_ren : Go.Shelf.Ren:=⟨fun | 6=> 67 | 15=> 112 | 14=> 111 | 28=> 146 | 29=> 147 | 20=> 138 | 21=> 139 | 22=> 140 | 23=> 141 | 24=> 142 | 25=> 143 | 26=> 144 | 27=> 145 | 46=> 166 | 47=> 167 | 48=> 168 | 49=> 169 | 50=> 170 | 57=> 182 | n=> n,fun | 22=> 32 | 24=> 49 | 25=> 80 | 3=> 3 | 39=> 166 | 0=> 0 | 53=> 202 | 55=> 204 | 4=> 4 | 46=> 196 | 45=> 195 | 50=> 147 | 5=> 5 | 9=> 9 | 66=> 215 | 70=> 219 | 76=> 227 | 77=> 228 | n=> n,fun | n=> n⟩
theorem Tryz.sortLc : Go.Proofs.SlLaysF0.n6 Tryz.prog Tryz.sortLc_ren:= {
 mixed:=by kernel_rfl
 f6:=⟨Tryz.f67.name,by decide,Tryz.func67.trans (congrArg some (by kernel_rfl))⟩
 f14:=⟨Tryz.f111.name,by decide,Tryz.func111.trans (congrArg some (by kernel_rfl))⟩
 f15:=Tryz.func112.trans (congrArg some (by kernel_rfl))
 f20:=⟨Tryz.f138.name,by decide,Tryz.func138.trans (congrArg some (by kernel_rfl))⟩
 f21:=⟨Tryz.f139.name,by decide,Tryz.func139.trans (congrArg some (by kernel_rfl))⟩
 f22:=⟨Tryz.f140.name,by decide,Tryz.func140.trans (congrArg some (by kernel_rfl))⟩
 f23:=⟨Tryz.f141.name,by decide,Tryz.func141.trans (congrArg some (by kernel_rfl))⟩
 f24:=⟨Tryz.f142.name,by decide,Tryz.func142.trans (congrArg some (by kernel_rfl))⟩
 f25:=⟨Tryz.f143.name,by decide,Tryz.func143.trans (congrArg some (by kernel_rfl))⟩
 f26:=⟨Tryz.f144.name,by decide,Tryz.func144.trans (congrArg some (by kernel_rfl))⟩
 f27:=⟨Tryz.f145.name,by decide,Tryz.func145.trans (congrArg some (by kernel_rfl))⟩
 f28:=Tryz.func146.trans (congrArg some (by kernel_rfl))
 f29:=Tryz.func147.trans (congrArg some (by kernel_rfl))
 f46:=⟨Tryz.f166.name,by decide,Tryz.func166.trans (congrArg some (by kernel_rfl))⟩
 f47:=Tryz.func167.trans (congrArg some (by kernel_rfl))
 f48:=Tryz.func168.trans (congrArg some (by kernel_rfl))
 f49:=⟨Tryz.f169.name,by decide,Tryz.func169.trans (congrArg some (by kernel_rfl))⟩
 f50:=⟨Tryz.f170.name,by decide,Tryz.func170.trans (congrArg some (by kernel_rfl))⟩
 f57:=⟨Tryz.f182.name,by decide,Tryz.func182.trans (congrArg some (by kernel_rfl))⟩
 t0:=Tryz.underlying0
 a0:=Tryz.isAgg0
 z0:=Tryz.sizeOf0
 v0:=Tryz.zeroValue0
 t3:=Tryz.underlying3
 a3:=Tryz.isAgg3
 z3:=Tryz.sizeOf3
 v3:=Tryz.zeroValue3
 t4:=Tryz.underlying4
 a4:=Tryz.isAgg4
 z4:=Tryz.sizeOf4
 v4:=Tryz.zeroValue4
 t5:=Tryz.underlying5
 a5:=Tryz.isAgg5
 z5:=Tryz.sizeOf5
 v5:=Tryz.zeroValue5
 t9:=Tryz.underlying9
 a9:=Tryz.isAgg9
 z9:=Tryz.sizeOf9
 v9:=Tryz.zeroValue9
 t22:=Tryz.underlying32
 a22:=Tryz.isAgg32
 z22:=Tryz.sizeOf32
 v22:=Tryz.zeroValue32
 t25:=Tryz.underlying80
 a25:=Tryz.isAgg80
 z25:=Tryz.sizeOf80
 v25:=Tryz.zeroValue80
 t39:=Tryz.underlying166
 a39:=Tryz.isAgg166
 z39:=Tryz.sizeOf166
 v39:=Tryz.zeroValue166
 t45:=Tryz.underlying195
 a45:=Tryz.isAgg195
 z45:=Tryz.sizeOf195
 v45:=Tryz.zeroValue195
 t46:=Tryz.underlying196
 a46:=Tryz.isAgg196
 z46:=Tryz.sizeOf196
 v46:=Tryz.zeroValue196
 t50:=Tryz.underlying147
 a50:=Tryz.isAgg147
 z50:=Tryz.sizeOf147
 v50:=Tryz.zeroValue147
 t53:=Tryz.underlying202
 a53:=Tryz.isAgg202
 z53:=Tryz.sizeOf202
 v53:=Tryz.zeroValue202
 t55:=Tryz.underlying204
 a55:=Tryz.isAgg204
 z55:=Tryz.sizeOf204
 v55:=Tryz.zeroValue204
 t66:=Tryz.underlying215
 a66:=Tryz.isAgg215
 z66:=Tryz.sizeOf215
 v66:=Tryz.zeroValue215
 t70:=Tryz.underlying219
 a70:=Tryz.isAgg219
 z70:=Tryz.sizeOf219
 v70:=Tryz.zeroValue219
 t76:=Tryz.underlying227
 a76:=Tryz.isAgg227
 z76:=Tryz.sizeOf227
 v76:=Tryz.zeroValue227
 t77:=Tryz.underlying228
 a77:=Tryz.isAgg228
 z77:=Tryz.sizeOf228
 v77:=Tryz.zeroValue228}
end Go.Proofs
end
section
namespace Go.Sx
open Go.RowKit Go.Shelf Go.Lib Go.Sort Go.Proofs
set_option maxRecDepth 100000
noncomputable def fW : List SV→List Ob→Option HCon:=fun l h=> orC (dX .claim 36 [] bq l h) (dX .claim 71 [] bj l h)
@[go_sem] theorem JL {l0 : List Claim} : fW [.os 0,.fn 36 [] []] [.row .claim l0]=some (nq (apart bq l0) (.tup []) [.row .claim (srt bq l0)]) :=by
 unfold fW
 rw [jB];rfl
@[go_sem] theorem Gh {l0 : List Claim} : fW [.os 0,.fn 71 [] []] [.row .claim l0]=some (nq (apart bj l0) (.tup []) [.row .claim (srt bj l0)]) :=by
 unfold fW
 rw [jB]
 have : dX .claim 36 [] bq [.os 0,.fn 71 [] []] [.row .claim l0]=none:=by simp [dX,vo]
 rw [this];rfl
theorem tB : vH .claim:=fun x s hs=> by
 simp only [cellsOf,List.mem_cons,List.not_mem_nil,or_false] at hs
 rcases hs with rfl | rfl | rfl | rfl | rfl
 all_goals exact ⟨_,rfl,rfl⟩
theorem v_ (x y : Claim) : gX (.agg (cellsOf .claim x) :: .agg (cellsOf .claim y) :: [])=some (.det True (.v (.int .i64 (bq x y)))) :=by
 simp only [go_sem,Nat.reduceBEq]
theorem tC (x y : Claim) : iV (.agg (cellsOf .claim x) :: .agg (cellsOf .claim y) :: [])=some (.det True (.v (.int .i64 (bj x y)))) :=by
 simp only [go_sem,Nat.reduceBEq]
theorem r6 : FnOkO Tryz.prog 67 fW:=by
 refine FnOkO.or ?_ ?_
 ·exact lV (k:= .claim) Tryz.sortLc (fun w=> by kernel_rfl) (fun w=> by kernel_rfl) tB (by decide) (g:=36) (caps:=[]) ku (cf:=bq) v_ vJ (fun s hs=> by cases hs) ⟨default,default,v_ _ _⟩
 ·exact lV (k:= .claim) Tryz.sortLc (fun w=> by kernel_rfl) (fun w=> by kernel_rfl) tB (by decide) (g:=71) (caps:=[]) nz (cf:=bj) tC lW (fun s hs=> by cases hs) ⟨default,default,tC _ _⟩
end Go.Sx
end
section
namespace Go.Sx
open Go.Proofs
set_option maxRecDepth 100000
set_option linter.unusedSimpArgs false
theorem wa {p : Prop} (h : p:=by (first | done | (repeat' (first | with_reducible refine And.intro ?_ ?_ | ((with_reducible show _≠_);first | assumption | omega | (simp_all [aG,aK];done) | grind) | with_reducible intro _)) <;> (first | done | exact Empty.elim ‹Empty› | assumption | rfl | omega | decide | exact fk [0] | (refine Or.inr ?_;exact fkY [0]) | (refine Or.inl ?_;exact fkY [0]) | (refine Or.inl ⟨rfl,?_⟩;exact fkY [0]) | (simp only [*,cond_true,cond_false,Bool.not_true,Bool.not_false,go_sem,Nat.reduceBEq,Nat.reduceLeDiff,Nat.reduceLT,decide_true,Nat.reduceAdd,Nat.reduceSub,Nat.reduceMul,Int.reduceLE,Int.reduceLT,Int.reduceToNat,Int.reduceNeg,reduceCtorEq];done) | (simp only [*,cond_true,cond_false,Bool.not_true,Bool.not_false,go_sem,Nat.reduceBEq,Nat.reduceLeDiff,Nat.reduceLT,decide_true,Nat.reduceAdd,Nat.reduceSub,Nat.reduceMul,Int.reduceLE,Int.reduceLT,Int.reduceToNat,Int.reduceNeg,reduceCtorEq];(repeat' (first | with_reducible refine And.intro ?_ ?_ | ((with_reducible show _≠_);first | assumption | omega | (simp_all [aG,aK];done) | grind) | with_reducible intro _)) <;> (first | done | assumption | rfl | omega | decide | exact fk [0] | (refine Or.inr ?_;exact fkY [0]) | (refine Or.inl ?_;exact fkY [0]) | (refine Or.inl ⟨rfl,?_⟩;exact fkY [0]) | (simp_all [aG,aK];done))) | (exfalso;rename_i h1 h2;rw [h1] at h2;cases h2) | (exfalso;rename_i h1 h2;simp only [h1,Bool.not_false,Bool.not_true,Bool.true_or,Bool.or_true,Bool.false_or,Bool.or_false,reduceCtorEq] at h2;done) | (exfalso;clear hy hG;simp_all;done) | (simp only [*,Sum.inr.injEq,forall_eq',true_implies,forall_const,reduceCtorEq,false_implies,and_true,List.length_append,List.length_cons,List.length_nil,Nat.zero_add,go_sem,Nat.reduceBEq,Nat.reduceLeDiff,Nat.reduceLT,decide_true,Nat.reduceAdd,Nat.reduceSub,Nat.reduceMul,Int.reduceLE,Int.reduceLT,Int.reduceToNat,Int.reduceNeg,reduceCtorEq] at hq2;first | exact hq2.1 | exact hq2.2.1 | exact hq2 | exact hq2.2 | (simp only [hq2];done)) | (simp only [*,Sum.inr.injEq,forall_eq',true_implies,forall_const,reduceCtorEq,false_implies,and_true,List.length_append,List.length_cons,List.length_nil,Nat.zero_add,go_sem,Nat.reduceBEq,Nat.reduceLeDiff,Nat.reduceLT,decide_true,Nat.reduceAdd,Nat.reduceSub,Nat.reduceMul,Int.reduceLE,Int.reduceLT,Int.reduceToNat,Int.reduceNeg,reduceCtorEq] at hq1;first | exact hq1.1 | exact hq1.2.1 | exact hq1 | exact hq1.2 | (simp only [hq1];done)) | (clear hy hG;simp_all only [aG,aK,Sum.inr.injEq,forall_eq',true_implies,forall_const,reduceCtorEq,false_implies,and_true,List.length_append,List.length_cons,List.length_nil,Nat.zero_add,go_sem,Nat.reduceBEq,Nat.reduceLeDiff,Nat.reduceLT,decide_true,Nat.reduceAdd,Nat.reduceSub,Nat.reduceMul,Int.reduceLE,Int.reduceLT,Int.reduceToNat,Int.reduceNeg,reduceCtorEq];done) | (simp_all [okI,aG,aK];done) | (simp_all [aG,aK];(first | done | exact fk2 [0])) | exact fk2 [0]))) : p:=h
theorem JM {p : Prop} (h : p:=by simp only [go_sem,Nat.reduceBEq,Nat.reduceLeDiff,Nat.reduceLT,decide_true,Nat.reduceAdd,Nat.reduceSub,Nat.reduceMul,Int.reduceLE,Int.reduceLT,Int.reduceToNat,Int.reduceNeg,reduceCtorEq,hc,hw];all_goals exact wa) : p:=h
theorem JN {p : Prop} (h : p:=by simp only [go_sem,Nat.reduceBEq,Nat.reduceLeDiff,Nat.reduceLT,decide_true,Nat.reduceAdd,Nat.reduceSub,Nat.reduceMul,Int.reduceLE,Int.reduceLT,Int.reduceToNat,Int.reduceNeg,reduceCtorEq,hc];all_goals exact wa) : p:=h
@[go_sem] def wb (x : Claim) : List SV:=[.agg (cellsOf .claim x)]
@[go_sem] def cJ : List SV→Option Con:=(pR .claim fun s_=> (pE (.det True (.fn 68 [] [.ep [.rs .claim s_] 0]))))
theorem dY : FnOk Tryz.prog 35 cJ:=by
 have hG : ConsOk Tryz.prog (mkG [] []) :=aQ cg0 cg0
 refine bb [.o] mixed aH hG (fn:=Tryz.f35) (c:=aj Tryz.f35) (by kernel_rfl) (by kernel_rfl) (by kernel_rfl) (by kernel_rfl) (c8 fun s_=> (aM (fun hp=> ?_)))
 refine ⟨Nat.le_of_ble_eq_true rfl,L0,aw _,?_⟩
 unfold aj Tryz.f35
 simp only [go_sem,rO,rP,Nat.reduceBEq,Nat.reduceLeDiff,Nat.reduceAdd,Nat.reduceSub,Nat.reduceMul]
@[go_sem] def bw (s_ : List Claim) (k_0 : Nat) (s_0 : List Claim) : Empty⊕(List Claim) := .inr (s_0 ++ [(s_.getD k_0 (default : Claim))])
def bO (s_ : List Claim) (items_ : List (List SV)) (k_0 : Nat) (s_0 : List Claim) : Prop:=(items_[s_0.length]? =some (wb (s_.getD k_0 (default : Claim))))
def dS (s_ : List Claim) (items_ : List (List SV)) : Prop:=(s_.length≤bu→(okI (bw s_) (bO s_ items_) s_.length 0 ([] : List Claim)∧(∀ s_0,az (bw s_) s_.length 0 ([] : List Claim)= .inr s_0→(items_.length=s_0.length))))
set_option maxHeartbeats 4000000 in
theorem fX (s_ : List Claim) (items_ : List (List SV)) (hp : dS s_ items_) : wB Tryz.prog 68 (fun y=> [y,.ep [.rs .claim s_] 0]) [] items_:=by
 unfold dS at hp
 refine Cb mixed aH (fn:=Tryz.f68) (c:=aj Tryz.f68) (by kernel_rfl) (by kernel_rfl) (by kernel_rfl) (by kernel_rfl) rfl (n:=0) rfl (G:=fun r_=> tM [] [] (An items_ r_)) (fun r_ hy=> ?_) (fun args w=> by kernel_rfl)
 have hG : ConsOk Tryz.prog (tM [] [] (An items_ r_)) :=rt cg0 cg0 hy
 refine ⟨hG,Nat.le_of_ble_eq_true rfl,(fun id st=> bif Nat.beq id 0 then some (LCY (ρ:=Empty) (σ:=(List Claim)) 1 [] [0] (fun k_0 s_0=> ⟨[(0,.os 0),(5,.rs .claim s_),(6,.v (.int .i64 (s_.length : Int))),(7,.v (.int .i64 (k_0 : Int)))],[.ab (r_.1 (s_0.length + 1))]⟩) (bw s_) (bO s_ items_) s_.length ([] : List Claim) (s_.length≤bu) ((·.elim)) ((·.elim)) ⟨[],[.ab (r_.1 0)]⟩ st) else none),?_,?_⟩
 ·unfold aj Tryz.f68
  simp only [aB,true_and,and_true]
  ·refine rN mixed aH hG (by kernel_rfl) (fun _=> rfl) (s_.length : Int) rfl jS (fun hb0 k_0 s_0 hlt0 hq0 hw hc=> ⟨L0,aw _,?_⟩) (fun hb0 s_0 hc=> ?_)
   ·unfold bO at hq0
    try simp only [hw,Int.toNat_natCast] at hq0
    exact JM
   ·exact JN
 ·unfold aj Tryz.f68
  simp only [go_sem,Nat.reduceBEq,Nat.reduceLeDiff,Nat.reduceLT,decide_true,Nat.reduceAdd,Nat.reduceSub,Nat.reduceMul,Int.reduceLE,Int.reduceLT,Int.reduceToNat,Int.reduceNeg,reduceCtorEq]
  all_goals exact wa
end Go.Sx
end
section
namespace Go.Sx
open Go.Proofs
set_option maxRecDepth 100000
noncomputable def gz : List SV→Option Con:=pQ (.v (.slice none 0 0)) (pFn 68 (pXR .claim fun c=> pE fun l=> (pE (.det (c.length * 40≤fN) (.nw .claim c))) l))
def nF : List Claim→List Ob
 | [] => [.cells [.v (.slice none 0 0)]]
 | x :: l=> [.cells [.os 1],.row .claim (x :: l)]
def tD (x : Claim) (l : List Claim) : Empty⊕List Claim:= .inr (l ++ [x])
theorem wc : ∀ (l m : List Claim),bJ tD l m= .inr (m ++ l)
 | [],m=> by simp [bJ]
 | x :: l,m=> by simp only [bJ,tD];rw [wc l];simp
theorem xQ {B : Nat} : ∀ (l m : List Claim),m.length + l.length≤B→okL tD (fun _ s=> s.length + 1≤B) l m
 | [],_,_=> trivial
 | x :: l,m,h=> ⟨by simp at h;omega,fun s' hs=> by
  simp only [tD,Sum.inr.injEq] at hs
  subst hs
  exact xQ l _ (by simp at h ⊢;omega)⟩
theorem F7 (c : List Claim) : wB Tryz.prog 68 (fun y=> [y,.ep [.rs .claim c] 0]) [] (c.map wb) :=by
 refine fX c _ fun _=> ⟨?_,fun s hs=> ?_⟩
 ·refine kE (fun k (s : List Claim) => s.length=k) _ _ _ rfl fun j s _ hj hs=> ⟨?_,fun s' e=> ?_⟩
  ·unfold bO
   rw [hs,List.getElem?_map,List.getElem?_eq_getElem (by omega),List.getD_eq_getElem?_getD,List.getElem?_eq_getElem (by omega)]
   rfl
  ·unfold bw at e
   cases e
   rw [List.length_append,hs];rfl
 ·have:=vm (fun k (s : List Claim) => s.length=k) c.length 0 [] (by rfl) (fun j s _ _ hs s' e=> by
   unfold bw at e
   cases e
   rw [List.length_append,hs];rfl) s hs
  rw [List.length_map,this,Nat.zero_add]
set_option maxHeartbeats 1000000 in
theorem pb : FnOk Tryz.prog 110 gz:=by
 have hG : ConsOk Tryz.prog (mkG [] []) :=aQ cg0 cg0
 refine yJ [(.tmp 4,.claim)] mixed aH hG (fn:=Tryz.f110) (c:=aj Tryz.f110) (by kernel_rfl) (by kernel_rfl) (by kernel_rfl) (by kernel_rfl) (Q9 (ip (rv fun c=> (aM (aM (fun hp=> ?_))))))
 dsimp only [aW] at hp
 refine ⟨Nat.le_of_ble_eq_true rfl,fun id st=> bif Nat.beq id 0 then some (LC (ρ:=Empty) (σ:=List Claim) (lk 2 st.t= .ptr 0 0∧lk 6 st.t= .fn 68 [] [.ep [.rs .claim c] 0]∧st.h=[.cells [.v (.slice none 0 0)]]) (bJ tD c []) (·.elim) (·.elim) (fun s=> ⟨[(2,.ptr 0 0)],nF s⟩)) else none,?_,?_⟩
 ·unfold aj Tryz.f110
  simp only [aB,true_and,and_true]
  refine mJ mixed aH hG (by decide) (by decide) (by kernel_rfl) (by kernel_rfl) fun st lc hC hp=> ?_
  simp only [go_sem,Nat.reduceBEq,Option.some.injEq] at hC
  subst hC
  obtain ⟨t,h⟩ :=st
  dsimp only [LC] at hp
  obtain ⟨e2,e6,rfl⟩ :=hp
  refine ⟨68,[.ep [.rs .claim c] 0],Claim,_,_,c,wb,tD,fun _ s=> s.length + 1≤c.length,_,[],_,_,_,[(2,.ptr 0 0)],nF,(·.elim),[0],?_,rfl,xQ _ _ (by simp),Nat.le_of_ble_eq_true rfl,?_,?_,fun x s hq=> ⟨rfl,L0,fun l=> aw _,fun l=> aw _,?_⟩,fun s=> ?_,fun y=> y.elim⟩
  ·simp only [go_sem,e6]
  ·simp only [go_sem,nK,im,List.flatMap_cons,List.flatMap_nil,List.nil_append,List.append_nil,List.map_nil,nF,e2,Nat.reduceBEq,Nat.reduceLeDiff,Nat.reduceAdd]
   all_goals (first | done | decide | (repeat' (first | refine And.intro ?_ ?_ | rfl | decide)))
  ·exact F7 c
  ·have hb : (s ++ [x]).length * 40≤fN:=by simp;omega
   cases s with
   | nil=>
    simp only [go_sem,psT,wb,nF,tD,List.cons_append,List.nil_append,Nat.reduceBEq,Nat.reduceLeDiff,Nat.reduceAdd,Nat.reduceSub,Nat.reduceMul]
    exact ⟨by simpa using hb,fun _=> fk [0,3]⟩
   | cons a m=>
    simp only [go_sem,psT,wb,nF,tD,List.cons_append,List.nil_append,Nat.reduceBEq,Nat.reduceLeDiff,Nat.reduceAdd,Nat.reduceSub,Nat.reduceMul]
    exact ⟨by simpa using hb,fun _=> fk [0,4]⟩
  ·cases s with
   | nil=> simp only [nF];exact fk [0]
   | cons a m=> simp only [nF];exact fk [0,1]
 ·unfold aj Tryz.f110
  simp only [go_sem,Nat.reduceBEq,Nat.reduceLeDiff,Nat.reduceAdd,Nat.reduceSub,Nat.reduceMul,wc,List.nil_append]
  refine ⟨fun y=> y.elim,fun s hs=> ?_⟩
  cases hs
  cases c with
  | nil=> simp only [go_sem,nF,Nat.reduceLT,decide_true,Nat.reduceBEq,Nat.reduceLeDiff,Nat.reduceAdd,Nat.reduceSub,Nat.reduceMul]
  | cons x l=> simp only [go_sem,nF,Nat.reduceLT,decide_true,Nat.reduceBEq,Nat.reduceLeDiff,Nat.reduceAdd,Nat.reduceSub,Nat.reduceMul]
attribute [go_sem] gz
end Go.Sx
end
section
namespace Go.Sx
open Go.Proofs
set_option maxRecDepth 100000
set_option linter.unusedSimpArgs false
def ci (c : List Claim) : List Claim:=c
def b6 (c : List Claim) : Prop:=(c.length * 40≤fN)
@[go_sem] noncomputable def d_ : List SV→Option Con:=(pFn 68 (pXR .claim fun c=> (pE ((pE (.det (b6 c) (.nw .claim (ci c))))))))
theorem fM : FnOk Tryz.prog 66 d_:=by
 have hG : ConsOk Tryz.prog (mkG [(110,gz)] []) :=aQ (cgc pb cg0) cg0
 refine qz true mixed aH hG (fn:=Tryz.f66) (c:=aj Tryz.f66) (by kernel_rfl) (by kernel_rfl) (by kernel_rfl) (by kernel_rfl) (ip (rv fun c=> (aM ((aM (fun hp=> ?_))))))
 dsimp only [aW] at hp
 unfold b6 at hp
 refine ⟨Nat.le_of_ble_eq_true rfl,L0,aw _,?_⟩
 ·unfold aj Tryz.f66
  try unfold ci
  simp only [go_sem,Nat.reduceBEq,Nat.reduceLeDiff,Nat.reduceLT,decide_true,Nat.reduceAdd,Nat.reduceSub,Nat.reduceMul,Int.reduceLE,Int.reduceLT,Int.reduceToNat,Int.reduceNeg,reduceCtorEq]
  all_goals exact cl
end Go.Sx
end
section
namespace Go.Sx
open Go.Proofs
set_option maxRecDepth 100000
set_option linter.unusedSimpArgs false
def an (c : List Claim) : List Claim:=(srt bq (ci c))
def dK (c : List Claim) : Prop:=((b6 c)∧(apart bq (ci c)))
@[go_sem] noncomputable def e_ : List SV→Option Con:=(pFn 68 (pXR .claim fun c=> (pE ((pFn 36 (pE ((pE (.det (dK c) (.nw .claim (an c)))))))))))
theorem jl : FnOk Tryz.prog 34 e_:=by
 have hG : ConsOk Tryz.prog (mkG [(66,d_)] [(67,fW)]) :=aQ (cgc fM cg0) (cgc r6 cg0)
 refine qz true mixed aH hG (fn:=Tryz.f34) (c:=aj Tryz.f34) (by kernel_rfl) (by kernel_rfl) (by kernel_rfl) (by kernel_rfl) (ip (rv fun c=> (aM ((ip (aM ((aM (fun hp=> ?_)))))))))
 dsimp only [aW] at hp
 unfold dK at hp
 refine ⟨Nat.le_of_ble_eq_true rfl,L0,aw _,?_⟩
 ·unfold aj Tryz.f34
  try unfold an
  simp only [go_sem,Nat.reduceBEq,Nat.reduceLeDiff,Nat.reduceLT,decide_true,Nat.reduceAdd,Nat.reduceSub,Nat.reduceMul,Int.reduceLE,Int.reduceLT,Int.reduceToNat,Int.reduceNeg,reduceCtorEq]
  all_goals exact cl
def dL (c : List Claim) : List Claim:=(srt bj (ci c))
def dv (c : List Claim) : Prop:=((b6 c)∧(apart bj (ci c)))
@[go_sem] noncomputable def eJ : List SV→Option Con:=(pFn 68 (pXR .claim fun c=> (pE ((pFn 71 (pE ((pE (.det (dv c) (.nw .claim (dL c)))))))))))
theorem iN : FnOk Tryz.prog 34 eJ:=by
 have hG : ConsOk Tryz.prog (mkG [(66,d_)] [(67,fW)]) :=aQ (cgc fM cg0) (cgc r6 cg0)
 refine qz true mixed aH hG (fn:=Tryz.f34) (c:=aj Tryz.f34) (by kernel_rfl) (by kernel_rfl) (by kernel_rfl) (by kernel_rfl) (ip (rv fun c=> (aM ((ip (aM ((aM (fun hp=> ?_)))))))))
 dsimp only [aW] at hp
 unfold dv at hp
 refine ⟨Nat.le_of_ble_eq_true rfl,L0,aw _,?_⟩
 ·unfold aj Tryz.f34
  try unfold dL
  simp only [go_sem,Nat.reduceBEq,Nat.reduceLeDiff,Nat.reduceLT,decide_true,Nat.reduceAdd,Nat.reduceSub,Nat.reduceMul,Int.reduceLE,Int.reduceLT,Int.reduceToNat,Int.reduceNeg,reduceCtorEq]
  all_goals exact cl
noncomputable def b7 : List SV→Option Con:=fun l=> orC (e_ l) (eJ l)
theorem eK : FnOk Tryz.prog 34 b7:=FnOk.or jl iN
end Go.Sx
end
section
namespace Go.Sx
open Go.RowKit
def F8 (n0 id : Nat) : Ob→SV
 | .row k l=> bif Nat.ble n0 id then .rs k l else .any
 | _=> .any
def isV : SV→Bool
 | .v _=> true
 | _=> false
def s6 (n0 : Nat) (h : List Ob) : SV→SV
 | .v x=> .v x
 | .rs k l=> .rs k l
 | .agg l=> bif l.all isV then .agg l else .any
 | .os id=> F8 n0 id (aq h id)
 | _=> .any
def wK (n0 : Nat) (h : List Ob) : SV→SV
 | .tup l=> .tup (l.map (s6 n0 h))
 | s=> s6 n0 h s
def AP (n0 : Nat) (own : Own) : Own:=fun i=> if i < n0 then own i else none
section
variable {F : Nat→Prop} {own : Own} {w : World} {n0 : Nat} {h : List Ob}
theorem r7 {b : Nat} (hb : ¬ bD F own b) : ¬ bD F (AP n0 own) b:=by
 rintro (hf | ⟨id,hd,e,hm⟩)
 ·exact hb (.inl hf)
 ·unfold AP at e
  split at e
  ·exact hb (.inr ⟨id,hd,e,hm⟩)
  ·cases e
theorem AQ (hp : Hp F own w h) : ∀ (s : SV) (v : Value),Rel F own w s v→Rel F (AP n0 own) w (s6 n0 h s) v:=by
 intro s v hr
 cases s with
 | v x=> exact hr.over (.v x) fun b hb=> r7 hb
 | rs k l=> exact hr.over .rs fun b hb=> r7 hb
 | agg l=>
  simp only [s6]
  cases ha : l.all isV with
  | false=> exact .any _
  | true=>
   refine hr.over (.agg fun j s hj=> ?_) fun b hb=> r7 hb
   have:=List.all_eq_true.1 ha s (List.mem_of_getElem? hj)
   cases s <;> first | exact .v _ | cases this
 | os id=>
  obtain ⟨hd,h1,rfl,h2⟩ :=gq hr
  simp only [s6]
  cases ho : aq h id with
  | row k l=>
   simp only [F8]
   cases hn : Nat.ble n0 id with
   | false=> exact .any _
   | true=>
    have hn':=Nat.le_of_ble_eq_true hn
    obtain ⟨hd',e0,e⟩ :=hp.at ho rfl
    rw [h1] at e0;cases e0
    have hnb : ∀ b∈hd.bs,¬ bD F (AP n0 own) b:=by
     rintro b hb (hf | ⟨i,hi,e1,e2⟩)
     ·exact hp.apart id hd b h1 hb hf
     ·unfold AP at e1
      split at e1
      ·rename_i hlt
       have:=hp.inj id i hd hi b h1 e1 hb e2
       omega
      ·cases e1
    rcases e with ⟨a,e1,rfl,_⟩ | ⟨b,o,cap,cs,ty,e1,e2,h3,h4,h5,h6,h7⟩
    ·rw [e1];exact .rs0
    ·rw [e1]
     refine .rs (fun i j=> cs.getD (o + i * aa k + j) undef) h5 h6 (fun i x hi j s hj=> ?_) (fun i x hi j s hj=> ?_)
     ·obtain ⟨u,k1,k2⟩ :=h7 i x hi j s hj
      refine ⟨hnb b (by simp [e2]),?_⟩
      rw [cL h3,k1]
      simp [Array.getD_eq_getD_getElem?,k1]
     ·obtain ⟨u,k1,k2⟩ :=h7 i x hi j s hj
      have : cs.getD (o + i * aa k + j) undef=u:=by simp [Array.getD_eq_getD_getElem?,k1]
      rw [this]
      exact k2.over (kY hj) fun b hb=> r7 hb
  | _=> exact .any _
 | _=> exact .any _
theorem JO (hp : Hp F own w h) (s : SV) (v : Value) (hr : Rel F own w s v) : Rel F (AP n0 own) w (wK n0 h s) v:=by
 cases s with
 | tup l=>
  cases hr with
  | tup h0 h1=>
   refine .tup (by simpa using h0) fun j s hj=> ?_
   obtain ⟨x,hx,rfl⟩ :=bS hj
   exact AQ hp x _ (h1 j x hx)
 | _=> exact AQ hp _ _ hr
theorem ER (s : SV) : PF (s6 n0 h s) :=by
 cases s with
 | agg l=>
  simp only [s6]
  cases ha : l.all isV with
  | false=> exact .any
  | true=>
   refine .agg fun j s hj=> ?_
   have:=List.all_eq_true.1 ha s (List.mem_of_getElem? hj)
   cases s <;> first | exact .v _ | cases this
 | os id=>
  simp only [s6]
  cases aq h id with
  | row k l=> simp only [F8];cases Nat.ble n0 id <;> first | exact .any | exact .rs
  | _=> exact .any
 | v x=> exact .v x
 | rs k l=> exact .rs
 | _=> exact .any
theorem Om (s : SV) : PF (wK n0 h s) :=by
 cases s
 case tup l=> exact .tup fun j s hj=> by obtain ⟨x,hx,rfl⟩ :=bS hj;exact ER x
 all_goals (unfold wK;exact ER _)
@[go_sem] theorem U1 {l : List SV} : wK n0 h (.tup l)= .tup (l.map (s6 n0 h)) :=(rfl)
@[go_sem] theorem Wq {id : Nat} : wK n0 h (.os id)=F8 n0 id (aq h id) :=(rfl)
@[go_sem] theorem Yn {x : Value} : wK n0 h (.v x)= .v x:=(rfl)
@[go_sem] theorem Wr {k : Tag} {l : List k.T} : wK n0 h (.rs k l)= .rs k l:=(rfl)
@[go_sem] theorem U2 {l : List SV} : wK n0 h (.agg l)=bif l.all isV then .agg l else .any:=(rfl)
@[go_sem] theorem Yo {x : Value} : s6 n0 h (.v x)= .v x:=(rfl)
@[go_sem] theorem Ws {k : Tag} {l : List k.T} : s6 n0 h (.rs k l)= .rs k l:=(rfl)
@[go_sem] theorem U3 {l : List SV} : s6 n0 h (.agg l)=bif l.all isV then .agg l else .any:=(rfl)
@[go_sem] theorem Wt {id : Nat} : s6 n0 h (.os id)=F8 n0 id (aq h id) :=(rfl)
@[go_sem] theorem U4 {k : Tag} {l : List k.T} {id : Nat} : F8 n0 id (.row k l)=bif Nat.ble n0 id then .rs k l else .any:=(rfl)
@[go_sem] theorem isV_v {x : Value} : isV (.v x)=true:=(rfl)
end
def F9 (pks : List Pk) (n0 : Nat) (S : SV) (H : List Ob) (h : List Ob) : Option SV→Prop
 | some s=> S=pL pks (wK n0 h s)∧eX ⟨[],H⟩ n0 ⟨[],h⟩
 | none=> False
def JP (pks : List Pk) (n0 : Nat) (rs : List ResultVar) (ts : Tis) (S : SV) (H : List Ob) : Ex→St→Prop
 | .exit _,_=> False
 | .normal,st=> F9 pks n0 S H st.h (iQ (gT ts st rs))
 | .ret,st=> F9 pks n0 S H st.h (iQ (gT ts st rs))
 | .pan _,_=> False
section
variable {P : Program} {ts : Tis} {G : Cons} {n0 : Nat} {S s : SV} {H h : List Ob} {rs : List ResultVar} {st : St} {pks : List Pk}
@[go_sem] theorem Tj : F9 pks n0 S H h (some s)=(S=pL pks (wK n0 h s)∧eX ⟨[],H⟩ n0 ⟨[],h⟩) :=(rfl)
@[go_sem] theorem On : JP pks n0 rs ts S H .normal st=F9 pks n0 S H st.h (iQ (gT ts st rs)) :=(rfl)
@[go_sem] theorem Tk : JP pks n0 rs ts S H .ret st=F9 pks n0 S H st.h (iQ (gT ts st rs)) :=(rfl)
theorem JQ {js : List Nat} {own : Own} {F : Nat→Prop} {b : Nat} (hk : qq 0 js n0=true) (hl : H.length=n0) (hb : ¬ bD F (AP n0 own) b) : ¬ bD F (dU js H own) b:=by
 rintro (hf | ⟨k,hd,e,hm⟩)
 ·exact hb (.inl hf)
 ·obtain ⟨h1,j,hd0,e1,e2,_,e4⟩ :=d4 e
  obtain ⟨_,rfl⟩ :=e4 b hm
  have hj:=qy js 0 n0 hk k j e1 (by omega)
  have hjk : j=k:=by omega
  subst hjk
  refine hb (.inr ⟨j,hd,?_,hm⟩)
  unfold AP
  rw [if_pos (by omega)]
  exact e2
theorem wd (pks : List Pk) (hm : P.follows .mixedOrders=true) (hts : ts.ok P) (hG : ConsOk P G) {f : FuncId} {fn : Func} {c : Code} (hf : P.funcs[f]? =some fn) (hb : fn.body=some c) (hname : (fn.name== "runtime.NumGoroutine")=false)
  (hc : bT fn.ntmps c=true) {C : List SV→List Ob→Option HCon}
  (h : ∀ l o con,C l o=some con→∃ p S H,con=nq p S H∧H.length=o.length∧(p→l.length≤fn.ntmps∧∃ L,aB P none fn.ntmps L c∧exec ts G L c ⟨g0 0 l,o⟩ (JP pks o.length fn.results.toList ts S H))) : FnOkO P f C:=by
 refine ⟨fun l o con _ args w=> ?_,fun l o con hcon hpre F own w vs hp hvs=> ?_⟩
 ·have hn : ¬ fn.name= "runtime.NumGoroutine" :=by simpa using hname
  simp [callFunc,hf,hn,hb]
 ·obtain ⟨p,S,H,rfl,hH,h2⟩ :=h l o con hcon
  obtain ⟨hlen,L,hl,hx⟩ :=h2 hpre
  have hn0 : ∀ id hd,own id=some hd→id < o.length:=fun id hd e=> hp.dom id hd e
  refine ja (n:=0) (callsIn_of_wp_marks hf hb trivial ?_)
  have hr : StRel F { w:=w,own:=own} fn.ntmps own ⟨g0 0 l,o⟩ { tmps:=vs ++ Array.replicate (fn.ntmps - vs.size) undef,defers:=[]} w:=
   ⟨by have:=hvs.1;simp;omega,Dfr.nil,hp,Fr.refl { w:=w,own:=own},fun t=> g9 hvs _ t⟩
  refine wpIn_mono (jw hm hts hG c hc hl F _ _ hx own _ w hr) ?_
  intro e a' w' hq
  have key : ∀ F1 own' st,(∀ b,F b→F1 b)→StRel F1 { w:=w,own:=own} fn.ntmps own' st a' w'→F9 pks o.length S H st.h (iQ (gT ts st fn.results.toList))→LeavesInM (rd none) 0 P fn a'.tmps (fun e w'=> ∃ r own',(nq p S H).post r∧BC F w own o.length e own' w' ((nq p S H).res r)) a'.defers .returning w':=by
   intro F1 own' st hF1 hst hdone
   refine fT hst (by simp) fun w2 hst2=> ?_
   have hst3:=hst2.less hF1 rfl
   cases hs : iQ (gT ts st fn.results.toList) with
   | none=> rw [hs] at hdone;exact hdone.elim
   | some s=>
    rw [hs] at hdone
    obtain ⟨hS,js,q3,q4⟩ :=hdone
    obtain ⟨u,e1,e2⟩ :=px (P:=P) hts hst3 hs
    obtain ⟨k1,k2,_,_⟩ :=u9 q4 hst3.hp hst3.fr hn0 q3
    refine ⟨u,e1,(),dU js H own',trivial,⟨u,rfl,?_⟩,k1,k2,q3⟩
    subst hS
    exact vn ((JO hst3.hp s u e2).over (Om s) fun b hb=> JQ q4.1.2.1 hH hb)
  cases e with
  | normal=> obtain ⟨F1,own',st,h0,h1,h2⟩ :=hq;exact key F1 own' st h0 h1 h2
  | ret=> obtain ⟨F1,own',st,h0,h1,h2⟩ :=hq;exact key F1 own' st h0 h1 h2
  | exit id=> obtain ⟨F1,own',st,h0,h1,h2⟩ :=hq;exact h2.elim
  | panic ch=> obtain ⟨x,F1,own',st,h0,h1,h2,rfl⟩ :=hq;exact h2.elim
  | _=> exact hq.elim
end
end Go.Sx
end
section
namespace Go.Sx
open Go.Proofs
set_option maxRecDepth 100000
set_option linter.unusedSimpArgs false
theorem JR {p : Prop} (h : p:=by (first | done | (repeat' (first | with_reducible refine And.intro ?_ ?_ | ((with_reducible show _≠_);first | assumption | omega | (simp_all [aG,aK];done) | grind) | with_reducible intro _)) <;> (first | done | exact Empty.elim ‹Empty› | assumption | rfl | omega | decide | exact fk [0] | (simp only [*,cond_true,cond_false,Bool.not_true,Bool.not_false,go_sem,Nat.reduceBEq,Nat.reduceLeDiff,Nat.reduceLT,decide_true,Nat.reduceAdd,Nat.reduceSub,Nat.reduceMul,Int.reduceLE,Int.reduceLT,Int.reduceToNat,Int.reduceNeg,reduceCtorEq];done) | (simp only [*,cond_true,cond_false,Bool.not_true,Bool.not_false,go_sem,Nat.reduceBEq,Nat.reduceLeDiff,Nat.reduceLT,decide_true,Nat.reduceAdd,Nat.reduceSub,Nat.reduceMul,Int.reduceLE,Int.reduceLT,Int.reduceToNat,Int.reduceNeg,reduceCtorEq];(repeat' (first | with_reducible refine And.intro ?_ ?_ | ((with_reducible show _≠_);first | assumption | omega | (simp_all [aG,aK];done) | grind) | with_reducible intro _)) <;> (first | done | assumption | rfl | omega | decide | exact fk [0] | (simp_all [aG,aK];done))) | (simp_all [okI,aG,aK];done) | (simp_all [aG,aK];(first | done | exact fk2 [0])) | exact fk2 [0]))) : p:=h
@[go_sem] noncomputable def gA : List SV→List Ob→Option HCon:=fun l h=> vo .claim (fun c=> (pD .district fun d=> ((pQ (.os 0) (pE (nq (dg d c) (.tup [.rs .order ((ag d c).1),.v (.int .i64 ((ag d c).2))]) [.row .claim c]))))) l) h
set_option maxHeartbeats 4000000 in
theorem pc : FnOkO Tryz.prog 33 gA:=by
 have hG : ConsOk Tryz.prog (mkG [(24,fun l=> iB (cO [.st .district,.sl .claim] l)),(63,fun l=> gy (cO [.sl .claim] l)),(64,fun l=> ce (cO [.sl .order,.o] l))] []) :=aQ (cgc (j_.norm [.st .district,.sl .claim]) (cgc (jV.norm [.sl .claim]) (cgc (df.norm [.sl .order,.o]) cg0))) cg0
 refine wd [.sl .order,.o] mixed aH hG (fn:=Tryz.f33) (c:=aj Tryz.f33) (by kernel_rfl) (by kernel_rfl) (by kernel_rfl) (by kernel_rfl) fun l o con h=> ?_
 unfold gA at h
 obtain ⟨c,rfl,h⟩ :=rz h
 obtain ⟨d,r0,rfl,h0⟩ :=sI h
 obtain ⟨r1,rfl,h1⟩ :=yC h0
 obtain ⟨rfl,rfl⟩ :=qA h1
 clear h h0 h1
 refine ⟨_,_,_,rfl,rfl,fun hp=> ?_⟩
 unfold dg at hp
 refine ⟨Nat.le_of_ble_eq_true rfl,L0,?_,?_⟩
 ·unfold aj Tryz.f33
  simp only [aB,and_self,true_and,and_true]
 ·unfold aj Tryz.f33
  try unfold ag
  simp only [go_sem,Nat.reduceBEq,Nat.reduceLeDiff,Nat.reduceLT,decide_true,Nat.reduceAdd,Nat.reduceSub,Nat.reduceMul,Int.reduceLE,Int.reduceLT,Int.reduceToNat,Int.reduceNeg,reduceCtorEq]
  all_goals exact JR
end Go.Sx
end
section
namespace Go.Sx
open Go.Proofs
set_option maxRecDepth 100000
set_option linter.unusedSimpArgs false
theorem we {p : Prop} (h : p:=by (first | done | (repeat' (first | with_reducible refine And.intro ?_ ?_ | ((with_reducible show _≠_);first | assumption | omega | (simp_all [aG,aK];done) | grind) | with_reducible intro _)) <;> (first | done | exact Empty.elim ‹Empty› | assumption | rfl | omega | decide | exact fk [0,1,2,3,4] | (simp only [*,cond_true,cond_false,Bool.not_true,Bool.not_false,go_sem,Nat.reduceBEq,Nat.reduceLeDiff,Nat.reduceLT,decide_true,Nat.reduceAdd,Nat.reduceSub,Nat.reduceMul,Int.reduceLE,Int.reduceLT,Int.reduceToNat,Int.reduceNeg,reduceCtorEq];done) | (simp only [*,cond_true,cond_false,Bool.not_true,Bool.not_false,go_sem,Nat.reduceBEq,Nat.reduceLeDiff,Nat.reduceLT,decide_true,Nat.reduceAdd,Nat.reduceSub,Nat.reduceMul,Int.reduceLE,Int.reduceLT,Int.reduceToNat,Int.reduceNeg,reduceCtorEq];(repeat' (first | with_reducible refine And.intro ?_ ?_ | ((with_reducible show _≠_);first | assumption | omega | (simp_all [aG,aK];done) | grind) | with_reducible intro _)) <;> (first | done | assumption | rfl | omega | decide | exact fk [0,1,2,3,4] | (simp_all [aG,aK];done))) | (simp_all [okI,aG,aK];done) | (simp_all [aG,aK];(first | done | exact fk2 [0,1,2,3,4])) | exact fk2 [0,1,2,3,4]))) : p:=h
theorem AR {p : Prop} (h : p:=by (first | done | (repeat' (first | with_reducible refine And.intro ?_ ?_ | ((with_reducible show _≠_);first | assumption | omega | (simp_all [aG,aK];done) | grind) | with_reducible intro _)) <;> (first | done | exact Empty.elim ‹Empty› | assumption | rfl | omega | decide | exact fk [0] | (simp only [*,cond_true,cond_false,Bool.not_true,Bool.not_false,go_sem,Nat.reduceBEq,Nat.reduceLeDiff,Nat.reduceLT,decide_true,Nat.reduceAdd,Nat.reduceSub,Nat.reduceMul,Int.reduceLE,Int.reduceLT,Int.reduceToNat,Int.reduceNeg,reduceCtorEq];done) | (simp only [*,cond_true,cond_false,Bool.not_true,Bool.not_false,go_sem,Nat.reduceBEq,Nat.reduceLeDiff,Nat.reduceLT,decide_true,Nat.reduceAdd,Nat.reduceSub,Nat.reduceMul,Int.reduceLE,Int.reduceLT,Int.reduceToNat,Int.reduceNeg,reduceCtorEq];(repeat' (first | with_reducible refine And.intro ?_ ?_ | ((with_reducible show _≠_);first | assumption | omega | (simp_all [aG,aK];done) | grind) | with_reducible intro _)) <;> (first | done | assumption | rfl | omega | decide | exact fk [0] | (simp_all [aG,aK];done))) | (simp_all [okI,aG,aK];done) | (simp_all [aG,aK];(first | done | exact fk2 [0])) | exact fk2 [0]))) : p:=h
@[go_sem] noncomputable def gB : List SV→List Ob→Option HCon:=fun l h=> vo .claim (fun c=> (pD .district fun d=> ((pQ (.os 0) (pE (nq (dh d c) (.tup [.rs .order ((av d c).1),.agg (cellsOf .fault ((av d c).2.1)),.v (.int .i64 ((av d c).2.2))]) [.row .claim c]))))) l) h
set_option maxHeartbeats 4000000 in
theorem pd : FnOkO Tryz.prog 31 gB:=by
 have hG : ConsOk Tryz.prog (mkG [(54,fun l=> lj (cO [.st .district,.sl .order] l)),(55,iK),(56,fun l=> ji (cO [.st .district,.sl .order] l)),(57,fun l=> gZ (cO [.st .district,.sl .order] l))] [(33,gA)]) :=aQ (cgc (nS.norm [.st .district,.sl .order]) (cgc lA (cgc (lZ.norm [.st .district,.sl .order]) (cgc (kx.norm [.st .district,.sl .order]) cg0)))) (cgc pc cg0)
 refine wd [.sl .order,.st .fault,.o] mixed aH hG (fn:=Tryz.f31) (c:=aj Tryz.f31) (by kernel_rfl) (by kernel_rfl) (by kernel_rfl) (by kernel_rfl) fun l o con h=> ?_
 unfold gB at h
 obtain ⟨c,rfl,h⟩ :=rz h
 obtain ⟨d,r0,rfl,h0⟩ :=sI h
 obtain ⟨r1,rfl,h1⟩ :=yC h0
 obtain ⟨rfl,rfl⟩ :=qA h1
 clear h h0 h1
 refine ⟨_,_,_,rfl,rfl,fun hp=> ?_⟩
 unfold dh at hp
 refine ⟨Nat.le_of_ble_eq_true rfl,(fun id st=> bif Nat.beq id 0 then some (LC (ρ:=Int×Int×Int×Int×Int) (σ:=Unit) (lk 4 st.t= .ptr 2 0∧lk 5 st.t= .ptr 3 0∧lk 6 st.t= .ptr 4 0∧lk 39 st.t= .fn 100 [] [.ep [.rs .order ((ar d ((ag d c).1)).1)] 0,.ep (cellsOf .district d) 0]∧st.h=[.row .claim c,.cells (cellsOf .district d),.cells [.rs .order ((ar d ((ag d c).1)).1)],.cells [.v (.int .i64 0),.v (.int .i64 0),.v (.int .i64 0),.v (.int .i64 0),.v (.int .i64 0)],.cells [.v (.int .i64 ((ar d ((ag d c).1)).2.2))]]∧c5 ((ar d ((ag d c).1)).1) d ((br ((ar d ((ag d c).1)).1) d).map du)) (bJ (cT d c) (br ((ar d ((ag d c).1)).1) d) ()) (fun _=> .ret) (fun x_0_0=> ⟨[(4,.ptr 2 0),(5,.ptr 3 0),(6,.ptr 4 0)],[.row .claim c,.dead,.cells [.v (.slice none 0 0)],.cells [.v (.int .i64 x_0_0.1),.v (.int .i64 x_0_0.2.1),.v (.int .i64 x_0_0.2.2.1),.v (.int .i64 x_0_0.2.2.2.1),.v (.int .i64 x_0_0.2.2.2.2)],.cells [.v (.int .i64 0)]]⟩) (fun s_0=> ⟨[(4,.ptr 2 0),(5,.ptr 3 0),(6,.ptr 4 0)],[.row .claim c,.dead,.cells [.rs .order ((ar d ((ag d c).1)).1)],.cells [.v (.int .i64 0),.v (.int .i64 0),.v (.int .i64 0),.v (.int .i64 0),.v (.int .i64 0)],.cells [.v (.int .i64 ((ar d ((ag d c).1)).2.2))]]⟩)) else none),?_,?_⟩
 ·unfold aj Tryz.f31
  simp only [aB,true_and,and_true]
  ·refine mJ mixed aH hG (by decide) (by decide) (by kernel_rfl) (by kernel_rfl) fun st lc hC hp=> ?_
   simp only [go_sem,Nat.reduceBEq,Option.some.injEq] at hC
   subst hC
   obtain ⟨t,h⟩ :=st
   dsimp only [LC] at hp
   obtain ⟨e0_0,e0_1,e0_2,e0_3,rfl,hb0⟩ :=hp
   refine ⟨100,[.ep [.rs .order ((ar d ((ag d c).1)).1)] 0,.ep (cellsOf .district d) 0],Fault,_,_,(br ((ar d ((ag d c).1)).1) d),du,(cT d c),(jW d c),_,(),_,_,_,[(4,.ptr 2 0),(5,.ptr 3 0),(6,.ptr 4 0)],(fun s_0=> [.row .claim c,.dead,.cells [.rs .order ((ar d ((ag d c).1)).1)],.cells [.v (.int .i64 0),.v (.int .i64 0),.v (.int .i64 0),.v (.int .i64 0),.v (.int .i64 0)],.cells [.v (.int .i64 ((ar d ((ag d c).1)).2.2))]]),(fun x_0_0=> [.row .claim c,.dead,.cells [.v (.slice none 0 0)],.cells [.v (.int .i64 x_0_0.1),.v (.int .i64 x_0_0.2.1),.v (.int .i64 x_0_0.2.2.1),.v (.int .i64 x_0_0.2.2.2.1),.v (.int .i64 x_0_0.2.2.2.2)],.cells [.v (.int .i64 0)]]),[0,1,2,3,4],?_,rfl,ru _ _ fun _ _ _=> trivial,Nat.le_of_ble_eq_true rfl,?_,i7 ((ar d ((ag d c).1)).1) d _ hb0,fun z_0 s_0 hq0=> ⟨rfl,L0,fun l=> ?_,fun l=> ?_,?_⟩,fun s_0=> ?_,fun y=> ?_⟩
   ·simp only [go_sem,e0_0,e0_1,e0_2,e0_3]
   ·simp only [go_sem,Nat.reduceBEq,Nat.reduceLeDiff,Nat.reduceLT,decide_true,Nat.reduceAdd,Nat.reduceSub,Nat.reduceMul,Int.reduceLE,Int.reduceLT,Int.reduceToNat,Int.reduceNeg,reduceCtorEq,nK,im,List.flatMap_cons,List.flatMap_nil,List.nil_append,List.append_nil,List.map_nil,e0_0,e0_1,e0_2,e0_3]
    all_goals (first | done | decide | (repeat' (first | refine And.intro ?_ ?_ | rfl | decide)))
   ·simp only [aB,and_self,true_and,and_true]
   ·simp only [aB,and_self,true_and,and_true]
   ·skip
    simp only [go_sem,Nat.reduceBEq,Nat.reduceLeDiff,Nat.reduceLT,decide_true,Nat.reduceAdd,Nat.reduceSub,Nat.reduceMul,Int.reduceLE,Int.reduceLT,Int.reduceToNat,Int.reduceNeg,reduceCtorEq,cT,psT,du,List.cons_append,List.nil_append]
    all_goals exact we
   ·simp only [go_sem,Nat.reduceBEq,Nat.reduceLeDiff,Nat.reduceLT,decide_true,Nat.reduceAdd,Nat.reduceSub,Nat.reduceMul,Int.reduceLE,Int.reduceLT,Int.reduceToNat,Int.reduceNeg,reduceCtorEq]
    all_goals exact we
   ·simp only [go_sem,Nat.reduceBEq,Nat.reduceLeDiff,Nat.reduceLT,decide_true,Nat.reduceAdd,Nat.reduceSub,Nat.reduceMul,Int.reduceLE,Int.reduceLT,Int.reduceToNat,Int.reduceNeg,reduceCtorEq]
    all_goals exact we
 ·unfold aj Tryz.f31
  try unfold av
  simp only [go_sem,Nat.reduceBEq,Nat.reduceLeDiff,Nat.reduceLT,decide_true,Nat.reduceAdd,Nat.reduceSub,Nat.reduceMul,Int.reduceLE,Int.reduceLT,Int.reduceToNat,Int.reduceNeg,reduceCtorEq]
  all_goals exact AR
@[go_sem] noncomputable def fg : List SV→List Ob→Option HCon:=fun l h=> vo .claim (fun c=> (pD .district fun d=> ((pQ (.os 0) (pE (nq (cA d c) (.tup [.rs .order ((ae d c).1),.v (.bool ((ae d c).2.1)),.v (.int .i64 ((ae d c).2.2))]) [.row .claim c]))))) l) h
set_option maxHeartbeats 4000000 in
theorem ky : FnOkO Tryz.prog 12 fg:=by
 have hG : ConsOk Tryz.prog (mkG [] [(31,gB)]) :=aQ cg0 (cgc pd cg0)
 refine wd [.sl .order,.o,.o] mixed aH hG (fn:=Tryz.f12) (c:=aj Tryz.f12) (by kernel_rfl) (by kernel_rfl) (by kernel_rfl) (by kernel_rfl) fun l o con h=> ?_
 unfold fg at h
 obtain ⟨c,rfl,h⟩ :=rz h
 obtain ⟨d,r0,rfl,h0⟩ :=sI h
 obtain ⟨r1,rfl,h1⟩ :=yC h0
 obtain ⟨rfl,rfl⟩ :=qA h1
 clear h h0 h1
 refine ⟨_,_,_,rfl,rfl,fun hp=> ?_⟩
 unfold cA at hp
 refine ⟨Nat.le_of_ble_eq_true rfl,L0,?_,?_⟩
 ·unfold aj Tryz.f12
  simp only [aB,and_self,true_and,and_true]
 ·unfold aj Tryz.f12
  try unfold ae
  simp only [go_sem,Nat.reduceBEq,Nat.reduceLeDiff,Nat.reduceLT,decide_true,Nat.reduceAdd,Nat.reduceSub,Nat.reduceMul,Int.reduceLE,Int.reduceLT,Int.reduceToNat,Int.reduceNeg,reduceCtorEq]
  all_goals exact AR
end Go.Sx
end
section
namespace Go.Sx
open Go.Proofs
set_option maxRecDepth 100000
@[go_sem] def jX : List SV→Option Con:=pR .claim fun l=> pE (.det (l.length * 40≤fN) (.nw .claim l))
theorem n_ : FnOk Tryz.prog 38 jX:=by
 have hG : ConsOk Tryz.prog (mkG [] []) :=aQ cg0 cg0
 refine yJ [(.tmp 2,.claim)] mixed aH hG (fn:=Tryz.f38) (c:=aj Tryz.f38) (by kernel_rfl) (by kernel_rfl) (by kernel_rfl) (by kernel_rfl) (c8 fun l=> aM fun hp=> ?_)
 dsimp only [aW] at hp
 refine ⟨Nat.le_of_ble_eq_true rfl,L0,aw _,?_⟩
 unfold aj Tryz.f38
 simp only [go_sem,Nat.reduceBEq,Nat.reduceLeDiff,Nat.reduceAdd,Nat.reduceSub,Nat.reduceMul,Int.reduceLE,Int.reduceLT,Int.reduceToNat,Int.reduceNeg,reduceCtorEq]
 intro b hb
 refine ⟨fun h=> ?_,fun _=> ⟨hp,fun _=> rfl⟩⟩
 have hl:=hb h
 subst hl
 rfl
end Go.Sx
end
section
namespace Go.Sx
open Go.Proofs
set_option maxRecDepth 100000
set_option linter.unusedSimpArgs false
theorem AS {p : Prop} (h : p:=by (first | done | (repeat' (first | with_reducible refine And.intro ?_ ?_ | ((with_reducible show _≠_);first | assumption | omega | (simp_all [aG,aK];done) | grind) | with_reducible intro _)) <;> (first | done | exact Empty.elim ‹Empty› | assumption | rfl | omega | decide | exact fk [0,1,6] | exact fk [0,1,2] | (simp only [*,cond_true,cond_false,Bool.not_true,Bool.not_false,go_sem,Nat.reduceBEq,Nat.reduceLeDiff,Nat.reduceLT,decide_true,Nat.reduceAdd,Nat.reduceSub,Nat.reduceMul,Int.reduceLE,Int.reduceLT,Int.reduceToNat,Int.reduceNeg,reduceCtorEq];done) | (simp only [*,cond_true,cond_false,Bool.not_true,Bool.not_false,go_sem,Nat.reduceBEq,Nat.reduceLeDiff,Nat.reduceLT,decide_true,Nat.reduceAdd,Nat.reduceSub,Nat.reduceMul,Int.reduceLE,Int.reduceLT,Int.reduceToNat,Int.reduceNeg,reduceCtorEq];(repeat' (first | with_reducible refine And.intro ?_ ?_ | ((with_reducible show _≠_);first | assumption | omega | (simp_all [aG,aK];done) | grind) | with_reducible intro _)) <;> (first | done | assumption | rfl | omega | decide | exact fk [0,1,6] | exact fk [0,1,2] | (simp_all [aG,aK];done))) | (simp_all [okI,aG,aK];done) | (simp_all [aG,aK];(first | done | exact fk2 [0,1,6] | exact fk2 [0,1,2])) | exact fk2 [0,1,6] | exact fk2 [0,1,2]))) : p:=h
theorem JS {p : Prop} (h : p:=by simp only [go_sem,Nat.reduceBEq,Nat.reduceLeDiff,Nat.reduceLT,decide_true,Nat.reduceAdd,Nat.reduceSub,Nat.reduceMul,Int.reduceLE,Int.reduceLT,Int.reduceToNat,Int.reduceNeg,reduceCtorEq,hc,hw];all_goals exact AS) : p:=h
theorem JT {p : Prop} (h : p:=by simp only [go_sem,Nat.reduceBEq,Nat.reduceLeDiff,Nat.reduceLT,decide_true,Nat.reduceAdd,Nat.reduceSub,Nat.reduceMul,Int.reduceLE,Int.reduceLT,Int.reduceToNat,Int.reduceNeg,reduceCtorEq,hc];all_goals exact AS) : p:=h
def aO (c : List Claim) : List Claim:=(dL c)
def gC (c : List Claim) : Prop:=(dv c)
@[go_sem] def kz : List SV→Option Con:=(pR .claim fun c=> (pE (.det (gC c) (.nw .claim (aO c)))))
theorem pe : FnOk Tryz.prog 37 kz:=by
 have hG : ConsOk Tryz.prog (mkG [(34,b7),(35,fun l=> cJ (cO [.sl .claim] l))] []) :=aQ (cgc eK (cgc (dY.norm [.sl .claim]) cg0)) cg0
 refine qz true mixed aH hG (fn:=Tryz.f37) (c:=aj Tryz.f37) (by kernel_rfl) (by kernel_rfl) (by kernel_rfl) (by kernel_rfl) (c8 fun c=> (aM (fun hp=> ?_)))
 dsimp only [aW] at hp
 unfold gC at hp
 refine ⟨Nat.le_of_ble_eq_true rfl,L0,aw _,?_⟩
 ·unfold aj Tryz.f37
  try unfold aO
  simp only [go_sem,Nat.reduceBEq,Nat.reduceLeDiff,Nat.reduceLT,decide_true,Nat.reduceAdd,Nat.reduceSub,Nat.reduceMul,Int.reduceLE,Int.reduceLT,Int.reduceToNat,Int.reduceNeg,reduceCtorEq,b7]
  all_goals exact cl
@[go_sem] def bQ (d : District) (c : List Claim) (k_0 : Nat) (s_0 : List Claim) : Empty⊕(List Claim) :=(bif (((ae d (aO (s_0 ++ ([((an c).getD k_0 (default : Claim))])))).2.2==0) && (ae d (aO (s_0 ++ ([((an c).getD k_0 (default : Claim))])))).2.1) then .inr (aO (s_0 ++ ([((an c).getD k_0 (default : Claim))]))) else .inr s_0)
def fE (d : District) (c : List Claim) (k_0 : Nat) (s_0 : List Claim) : Prop:=((s_0.length * 40≤fN)∧(((s_0 ++ ([((an c).getD k_0 (default : Claim))])).length * 40≤fN)∧((s_0 ++ ([((an c).getD k_0 (default : Claim))])).length≤bu→((gC (s_0 ++ ([((an c).getD k_0 (default : Claim))])))∧(cA d (aO (s_0 ++ ([((an c).getD k_0 (default : Claim))]))))))))
def d8 (d : District) (c : List Claim) : List Claim×Int:=(bif ((ag d c).2 !=0) then ([],(ag d c).2) else (match az (bQ d c) ((an c).length) 0 ([]) with | .inl x=> x.elim | .inr s_0=> (s_0,0)))
def fh (d : District) (c : List Claim) : Prop:=((dg d c)∧(((ag d c).2 !=0)=false→((dK c)∧((an c).length≤bu→okI (bQ d c) (fE d c) ((an c).length) 0 ([])))))
@[go_sem] def lD : List SV→Option Con:=(pD .district fun d=> (pR .claim fun c=> (pE (.det (fh d c) (.tup [.nw .claim ((d8 d c).1),.v (.int .i64 ((d8 d c).2))])))))
set_option maxHeartbeats 4000000 in
theorem pP : FnOk Tryz.prog 17 lD:=by
 have hG : ConsOk Tryz.prog (mkG [(33,fun l=> iI (cO [.st .district,.sl .claim] l)),(34,b7),(35,fun l=> cJ (cO [.sl .claim] l)),(37,fun l=> kz (cO [.sl .claim] l)),(38,fun l=> jX (cO [.sl .claim] l))] [(12,fg)]) :=aQ (cgc (lz.norm [.st .district,.sl .claim]) (cgc eK (cgc (dY.norm [.sl .claim]) (cgc (pe.norm [.sl .claim]) (cgc (n_.norm [.sl .claim]) cg0))))) (cgc ky cg0)
 refine yJ [(.tmp 4,.claim)] mixed aH hG (fn:=Tryz.f17) (c:=aj Tryz.f17) (by kernel_rfl) (by kernel_rfl) (by kernel_rfl) (by kernel_rfl) (bU fun d=> (c8 fun c=> (aM (fun hp=> ?_))))
 dsimp only [aW] at hp
 unfold fh at hp
 refine ⟨Nat.le_of_ble_eq_true rfl,(fun id st=> bif Nat.beq id 0 then some (LCR (ρ:=Empty) (σ:=(List Claim)) 2 [.slot 4 (.row .claim ([]))] [0,1,2] (fun k_0 s_0=> ⟨[(2,.ptr 0 0),(4,.os 2),(23,.os 1),(24,.v (.int .i64 ((an c).length : Int))),(25,.v (.int .i64 (k_0 : Int)))],[.cells (cellsOf .district d),.row .claim (an c),.row .claim s_0]⟩) (bQ d c) (fE d c) ((an c).length) ([]) ((an c).length≤bu) ((·.elim)) ((·.elim)) st) else none),?_,?_⟩
 ·unfold aj Tryz.f17
  simp only [aB,true_and,and_true]
  ·refine cp mixed aH hG (by kernel_rfl) (fun _=> rfl) ((an c).length : Int) rfl jS (fun hb0 k_0 s_0 hlt0 hq0 hw hc=> ⟨L0,aw _,?_⟩) (fun hb0 s_0 hc=> ?_)
   ·unfold fE at hq0
    try simp only [hw,Int.toNat_natCast] at hq0
    exact JS
   ·exact JT
 ·unfold aj Tryz.f17
  try unfold d8
  simp only [go_sem,Nat.reduceBEq,Nat.reduceLeDiff,Nat.reduceLT,decide_true,Nat.reduceAdd,Nat.reduceSub,Nat.reduceMul,Int.reduceLE,Int.reduceLT,Int.reduceToNat,Int.reduceNeg,reduceCtorEq,b7]
  all_goals exact cl
end Go.Sx
end
section
namespace Go.Sx
open Go.Proofs
set_option maxRecDepth 100000
set_option linter.unusedSimpArgs false
theorem AT {p : Prop} (h : p:=by (first | done | (repeat' (first | with_reducible refine And.intro ?_ ?_ | ((with_reducible show _≠_);first | assumption | omega | (simp_all [aG,aK];done) | grind) | with_reducible intro _)) <;> (first | done | exact Empty.elim ‹Empty› | assumption | rfl | omega | decide | exact fk [] | (simp only [*,cond_true,cond_false,Bool.not_true,Bool.not_false,go_sem,Nat.reduceBEq,Nat.reduceLeDiff,Nat.reduceLT,decide_true,Nat.reduceAdd,Nat.reduceSub,Nat.reduceMul,Int.reduceLE,Int.reduceLT,Int.reduceToNat,Int.reduceNeg,reduceCtorEq];done) | (simp only [*,cond_true,cond_false,Bool.not_true,Bool.not_false,go_sem,Nat.reduceBEq,Nat.reduceLeDiff,Nat.reduceLT,decide_true,Nat.reduceAdd,Nat.reduceSub,Nat.reduceMul,Int.reduceLE,Int.reduceLT,Int.reduceToNat,Int.reduceNeg,reduceCtorEq];(repeat' (first | with_reducible refine And.intro ?_ ?_ | ((with_reducible show _≠_);first | assumption | omega | (simp_all [aG,aK];done) | grind) | with_reducible intro _)) <;> (first | done | assumption | rfl | omega | decide | exact fk [] | (simp_all [aG,aK];done))) | (simp_all [okI,aG,aK];done) | (simp_all [aG,aK];(first | done | exact fk2 [])) | exact fk2 []))) : p:=h
theorem AU {p : Prop} (h : p:=by (first | done | (repeat' (first | with_reducible refine And.intro ?_ ?_ | ((with_reducible show _≠_);first | assumption | omega | (simp_all [aG,aK];done) | grind) | with_reducible intro _)) <;> (first | done | exact Empty.elim ‹Empty› | assumption | rfl | omega | decide | exact fk [0] | (simp only [*,cond_true,cond_false,Bool.not_true,Bool.not_false,go_sem,Nat.reduceBEq,Nat.reduceLeDiff,Nat.reduceLT,decide_true,Nat.reduceAdd,Nat.reduceSub,Nat.reduceMul,Int.reduceLE,Int.reduceLT,Int.reduceToNat,Int.reduceNeg,reduceCtorEq];done) | (simp only [*,cond_true,cond_false,Bool.not_true,Bool.not_false,go_sem,Nat.reduceBEq,Nat.reduceLeDiff,Nat.reduceLT,decide_true,Nat.reduceAdd,Nat.reduceSub,Nat.reduceMul,Int.reduceLE,Int.reduceLT,Int.reduceToNat,Int.reduceNeg,reduceCtorEq];(repeat' (first | with_reducible refine And.intro ?_ ?_ | ((with_reducible show _≠_);first | assumption | omega | (simp_all [aG,aK];done) | grind) | with_reducible intro _)) <;> (first | done | assumption | rfl | omega | decide | exact fk [0] | (simp_all [aG,aK];done))) | (simp_all [okI,aG,aK];done) | (simp_all [aG,aK];(first | done | exact fk2 [0])) | exact fk2 [0]))) : p:=h
theorem AV {p : Prop} (h : p:=by simp only [go_sem,Nat.reduceBEq,Nat.reduceLeDiff,Nat.reduceLT,decide_true,Nat.reduceAdd,Nat.reduceSub,Nat.reduceMul,Int.reduceLE,Int.reduceLT,Int.reduceToNat,Int.reduceNeg,reduceCtorEq,hc,hw];all_goals exact AT) : p:=h
theorem AW {p : Prop} (h : p:=by simp only [go_sem,Nat.reduceBEq,Nat.reduceLeDiff,Nat.reduceLT,decide_true,Nat.reduceAdd,Nat.reduceSub,Nat.reduceMul,Int.reduceLE,Int.reduceLT,Int.reduceToNat,Int.reduceNeg,reduceCtorEq,hc];all_goals exact AT) : p:=h
theorem JU {p : Prop} (h : p:=by simp only [go_sem,Nat.reduceBEq,Nat.reduceLeDiff,Nat.reduceLT,decide_true,Nat.reduceAdd,Nat.reduceSub,Nat.reduceMul,Int.reduceLE,Int.reduceLT,Int.reduceToNat,Int.reduceNeg,reduceCtorEq,hc,hw];all_goals exact AU) : p:=h
theorem JV {p : Prop} (h : p:=by simp only [go_sem,Nat.reduceBEq,Nat.reduceLeDiff,Nat.reduceLT,decide_true,Nat.reduceAdd,Nat.reduceSub,Nat.reduceMul,Int.reduceLE,Int.reduceLT,Int.reduceToNat,Int.reduceNeg,reduceCtorEq,hc];all_goals exact AU) : p:=h
def mX (a0 : District) (a1 : List Claim) : Bool:=(bif ((((((((decide ((a0.reaches.length : Int) > 8)) && (decide ((a0.reaches.length : Int)≤64))) || (decide ((a0.reaches.length : Int) > 100))) || ((decide ((a0.farms.length : Int) > 8)) && (decide ((a0.farms.length : Int)≤600)))) || (decide ((a0.farms.length : Int) > 700))) || (decide ((a0.rights.length : Int) > 300))) || (decide ((a0.duties.length : Int) > 300))) || (decide ((a0.crops.length : Int) > 100))) then false else (((decide (a0.hours≤30)) || (decide (a0.hours > 1024))) && (decide ((a1.length : Int)≤60))))
@[go_sem] def tE : List SV→Option Con:=(pD .district fun a0=> (pR .claim fun a1=> (pE (.det True (.v (.bool (mX a0 a1)))))))
theorem yT : FnOk Tryz.prog 11 tE:=by
 have hG : ConsOk Tryz.prog (mkG [] []) :=aQ cg0 cg0
 refine bb [.o] mixed aH hG (fn:=Tryz.f11) (c:=aj Tryz.f11) (by kernel_rfl) (by kernel_rfl) (by kernel_rfl) (by kernel_rfl) (bU fun a0=> (c8 fun a1=> (aM (fun hp=> ?_))))
 dsimp only [aW] at hp
 refine ⟨Nat.le_of_ble_eq_true rfl,L0,aw _,?_⟩
 ·unfold aj Tryz.f11
  try unfold mX
  simp only [go_sem,Nat.reduceBEq,Nat.reduceLeDiff,Nat.reduceLT,decide_true,Nat.reduceAdd,Nat.reduceSub,Nat.reduceMul,Int.reduceLE,Int.reduceLT,Int.reduceToNat,Int.reduceNeg,reduceCtorEq]
  all_goals exact cl
@[go_sem] def gD (a : List Order) (b : List Order) (k_0 : Nat) (s_0 : Unit) : Unit⊕Unit:=(bif (!(((a.getD k_0 (default : Order)).hour==(b.getD k_0 (default : Order)).hour) && (((a.getD k_0 (default : Order)).index==(b.getD k_0 (default : Order)).index) && (((a.getD k_0 (default : Order)).litres==(b.getD k_0 (default : Order)).litres) && ((a.getD k_0 (default : Order)).outlet==(b.getD k_0 (default : Order)).outlet))))) then .inl () else .inr ())
def fF (a : List Order) (b : List Order) (k_0 : Nat) (s_0 : Unit) : Prop:=(a.length≤bu→(0≤(k_0 : Int)∧(k_0 : Int) < (b.length : Int)))
def jm (a : List Order) (b : List Order) : Bool:=(bif ((a.length : Int) !=(b.length : Int)) then false else (match az (gD a b) a.length 0 () with | .inl x_0_0=> false | .inr s_0=> true))
def fj (a : List Order) (b : List Order) : Prop:=(a.length≤bu→(b.length≤bu→(((a.length : Int) !=(b.length : Int))=false→okI (gD a b) (fF a b) a.length 0 ())))
@[go_sem] def lE : List SV→Option Con:=(pR .order fun a=> (pR .order fun b=> (pE (.det (fj a b) (.v (.bool (jm a b)))))))
set_option maxHeartbeats 4000000 in
theorem pV : FnOk Tryz.prog 16 lE:=by
 have hG : ConsOk Tryz.prog (mkG [] []) :=aQ cg0 cg0
 refine bb [.o] mixed aH hG (fn:=Tryz.f16) (c:=aj Tryz.f16) (by kernel_rfl) (by kernel_rfl) (by kernel_rfl) (by kernel_rfl) (c8 fun a=> (c8 fun b=> (aM (fun hp=> ?_))))
 dsimp only [aW] at hp
 unfold fj at hp
 refine ⟨Nat.le_of_ble_eq_true rfl,(fun id st=> bif Nat.beq id 0 then some (LCR (ρ:=Unit) (σ:=Unit) 0 [] [] (fun k_0 s_0=> ⟨[(0,.rs .order a),(1,.rs .order b),(5,.v (.int .i64 (k_0 : Int)))],[]⟩) (gD a b) (fF a b) a.length () (True) (fun _=> .ret) (fun x_0_0=> ⟨[(4,.v (.bool false))],[]⟩) st) else none),?_,?_⟩
 ·unfold aj Tryz.f16
  simp only [aB,true_and,and_true]
  ·refine zV (a.length≤bu) mixed aH hG (by kernel_rfl) (fun _=> rfl) (a.length : Int) rfl jS (fun hb0 k_0 s_0 hlt0 hq0 hw hc=> ⟨L0,aw _,?_⟩) (fun hb0 s_0 hc=> ?_) fun hb0 k_0 s_0=> ?_
   ·unfold fF at hq0
    try simp only [hw,Int.toNat_natCast] at hq0
    exact AV
   ·exact AW
   ·simp only [go_sem,Nat.reduceBEq,Nat.reduceLeDiff,Nat.reduceLT,decide_true,Nat.reduceAdd,Nat.reduceSub,Nat.reduceMul,Int.reduceLE,Int.reduceLT,Int.reduceToNat,Int.reduceNeg,reduceCtorEq,hb0]
 ·unfold aj Tryz.f16
  try unfold jm
  simp only [go_sem,Nat.reduceBEq,Nat.reduceLeDiff,Nat.reduceLT,decide_true,Nat.reduceAdd,Nat.reduceSub,Nat.reduceMul,Int.reduceLE,Int.reduceLT,Int.reduceToNat,Int.reduceNeg,reduceCtorEq]
  all_goals exact cl
@[go_sem] def gE (a : List Claim) (b : List Claim) (k_0 : Nat) (s_0 : Unit) : Unit⊕Unit:=(bif (!(((a.getD k_0 (default : Claim)).right==(b.getD k_0 (default : Claim)).right) && (((a.getD k_0 (default : Claim)).farm==(b.getD k_0 (default : Claim)).farm) && (((a.getD k_0 (default : Claim)).hour==(b.getD k_0 (default : Claim)).hour) && (((a.getD k_0 (default : Claim)).litres==(b.getD k_0 (default : Claim)).litres) && ((a.getD k_0 (default : Claim)).rank==(b.getD k_0 (default : Claim)).rank)))))) then .inl () else .inr ())
def fG (a : List Claim) (b : List Claim) (k_0 : Nat) (s_0 : Unit) : Prop:=(a.length≤bu→(0≤(k_0 : Int)∧(k_0 : Int) < (b.length : Int)))
def jn (a : List Claim) (b : List Claim) : Bool:=(bif ((a.length : Int) !=(b.length : Int)) then false else (match az (gE a b) a.length 0 () with | .inl x_0_0=> false | .inr s_0=> true))
def fl (a : List Claim) (b : List Claim) : Prop:=(a.length≤bu→(b.length≤bu→(((a.length : Int) !=(b.length : Int))=false→okI (gE a b) (fG a b) a.length 0 ())))
@[go_sem] def lF : List SV→Option Con:=(pR .claim fun a=> (pR .claim fun b=> (pE (.det (fl a b) (.v (.bool (jn a b)))))))
set_option maxHeartbeats 4000000 in
theorem pW : FnOk Tryz.prog 19 lF:=by
 have hG : ConsOk Tryz.prog (mkG [] []) :=aQ cg0 cg0
 refine bb [.o] mixed aH hG (fn:=Tryz.f19) (c:=aj Tryz.f19) (by kernel_rfl) (by kernel_rfl) (by kernel_rfl) (by kernel_rfl) (c8 fun a=> (c8 fun b=> (aM (fun hp=> ?_))))
 dsimp only [aW] at hp
 unfold fl at hp
 refine ⟨Nat.le_of_ble_eq_true rfl,(fun id st=> bif Nat.beq id 0 then some (LCR (ρ:=Unit) (σ:=Unit) 0 [] [] (fun k_0 s_0=> ⟨[(0,.rs .claim a),(1,.rs .claim b),(5,.v (.int .i64 (k_0 : Int)))],[]⟩) (gE a b) (fG a b) a.length () (True) (fun _=> .ret) (fun x_0_0=> ⟨[(4,.v (.bool false))],[]⟩) st) else none),?_,?_⟩
 ·unfold aj Tryz.f19
  simp only [aB,true_and,and_true]
  ·refine zV (a.length≤bu) mixed aH hG (by kernel_rfl) (fun _=> rfl) (a.length : Int) rfl jS (fun hb0 k_0 s_0 hlt0 hq0 hw hc=> ⟨L0,aw _,?_⟩) (fun hb0 s_0 hc=> ?_) fun hb0 k_0 s_0=> ?_
   ·unfold fG at hq0
    try simp only [hw,Int.toNat_natCast] at hq0
    exact AV
   ·exact AW
   ·simp only [go_sem,Nat.reduceBEq,Nat.reduceLeDiff,Nat.reduceLT,decide_true,Nat.reduceAdd,Nat.reduceSub,Nat.reduceMul,Int.reduceLE,Int.reduceLT,Int.reduceToNat,Int.reduceNeg,reduceCtorEq,hb0]
 ·unfold aj Tryz.f19
  try unfold jn
  simp only [go_sem,Nat.reduceBEq,Nat.reduceLeDiff,Nat.reduceLT,decide_true,Nat.reduceAdd,Nat.reduceSub,Nat.reduceMul,Int.reduceLE,Int.reduceLT,Int.reduceToNat,Int.reduceNeg,reduceCtorEq]
  all_goals exact cl
def aU : District:=({ name:=(ByteArray.mk #[]),hours:=8,tank:=({ cap:=60,start:=40} : Tank),reaches:=[({ name:=(ByteArray.mk #[]),up:=(-1),delay:=2,cap:=20,bank:=30,siphon:=5,evap:=({ lo:=0,hi:=3} : Range),seep:=(({ n:=0,d:=1} : Ratio),({ n:=0,d:=1} : Ratio))} : Reach)],farms:=[({ name:=(ByteArray.mk #[]),reach:=0,area:=0,crop:=(-1)} : Farm),({ name:=(ByteArray.mk #[]),reach:=0,area:=0,crop:=(-1)} : Farm)],crops:=[],rights:=[({ name:=(ByteArray.mk #[]),kind:=1,farm:=0,reach:=0,rank:=2,litres:=1,since:=0,to:=7,every:=1,length:=1} : Right),({ name:=(ByteArray.mk #[]),kind:=1,farm:=1,reach:=0,rank:=1,litres:=1,since:=0,to:=7,every:=1,length:=1} : Right)],duties:=[],wells:=[]} : District)
@[go_sem] def ql : List SV→Option Con:=(pE (.det True (.agg (cellsOf .district (aU)))))
theorem wg : FnOk Tryz.prog 30 ql:=by
 have hG : ConsOk Tryz.prog (mkG [] []) :=aQ cg0 cg0
 refine bb [.st .district] mixed aH hG (fn:=Tryz.f30) (c:=aj Tryz.f30) (by kernel_rfl) (by kernel_rfl) (by kernel_rfl) (by kernel_rfl) (aM (fun hp=> ?_))
 dsimp only [aW] at hp
 refine ⟨Nat.le_of_ble_eq_true rfl,L0,aw _,?_⟩
 ·unfold aj Tryz.f30
  try unfold aU
  simp only [go_sem,Nat.reduceBEq,Nat.reduceLeDiff,Nat.reduceLT,decide_true,Nat.reduceAdd,Nat.reduceSub,Nat.reduceMul,Int.reduceLE,Int.reduceLT,Int.reduceToNat,Int.reduceNeg,reduceCtorEq]
  all_goals exact cl
def eT:=([({ right:=1,farm:=1,hour:=1,litres:=9,rank:=1} : Claim)])
def di:=(ak aU eT)
def aZ:=(di.1)
def iO:=({ name:=(ByteArray.mk #[]),hours:=0,tank:=({ cap:=0,start:=0} : Tank),reaches:=[],farms:=[],crops:=[],rights:=[],duties:=[],wells:=[]} : District)
def fY:=(ae iO ([]))
def cg:=([({ right:=1,farm:=1,hour:=4,litres:=10,rank:=1} : Claim),({ right:=0,farm:=0,hour:=4,litres:=7,rank:=2} : Claim),({ right:=0,farm:=0,hour:=5,litres:=1,rank:=2} : Claim)])
def eU:=(cg.getD 1 (default : Claim))
def cy:=(ae aU cg)
def gN:=(cy.1)
def eH:=([({ hour:=2,index:=0,litres:=20,outlet:=false} : Order),({ hour:=3,index:=0,litres:=5,outlet:=false} : Order),({ hour:=4,index:=0,litres:=7,outlet:=true} : Order),({ hour:=4,index:=1,litres:=10,outlet:=true} : Order),({ hour:=5,index:=0,litres:=1,outlet:=true} : Order)])
def gO:=(jm gN eH)
def bf:=(cg.set 1 ({ right:=eU.right,farm:=eU.farm,hour:=eU.hour,litres:=8,rank:=eU.rank} : Claim))
def fz:=(bf.length : Int)
def dB:=(ak aU bf)
def fA:=(d8 aU bf)
def a8:=(dB.1)
def gQ:=(fA.1)
def jD:=([(bf.getD 0 (default : Claim)),(bf.getD 2 (default : Claim))])
def jo : Bool:=(bif (((cy.2.2 !=0) || (!cy.2.1)) || (!gO)) then false else (bif ((((((dB.2.2 !=0) || (fA.2 !=0)) || (di.2.2 !=0)) || (fY.2.2 !=191)) || (!dB.2.1)) || (!di.2.1)) then false else ((((a8.kind==1) && ((a8.hour==2) && ((a8.index==0) && ((a8.litres==21) && (a8.limit==20))))) && ((aZ.kind==7) && ((aZ.hour==1) && ((aZ.index==0) && ((aZ.litres==9) && (aZ.limit==0)))))) && (jn gQ jD))))
def kJ : Prop:=((cA aU cg)∧((((cy.2.2 !=0) || (!cy.2.1))=false→(fj gN eH))∧((((cy.2.2 !=0) || (!cy.2.1)) || (!gO))=false→((0≤1∧1 < (cg.length : Int))∧((dR aU bf)∧((fh aU bf)∧((dR aU eT)∧((cA iO ([]))∧(((((((dB.2.2 !=0) || (fA.2 !=0)) || (di.2.2 !=0)) || (fY.2.2 !=191)) || (!dB.2.1)) || (!di.2.1))=false→(((((a8.kind==1) && ((a8.hour==2) && ((a8.index==0) && ((a8.litres==21) && (a8.limit==20))))) && ((aZ.kind==7) && ((aZ.hour==1) && ((aZ.index==0) && ((aZ.litres==9) && (aZ.limit==0))))))=true→(0≤0∧0 < fz))∧(((((a8.kind==1) && ((a8.hour==2) && ((a8.index==0) && ((a8.litres==21) && (a8.limit==20))))) && ((aZ.kind==7) && ((aZ.hour==1) && ((aZ.index==0) && ((aZ.litres==9) && (aZ.limit==0))))))=true→(0≤2∧2 < fz))∧((((a8.kind==1) && ((a8.hour==2) && ((a8.index==0) && ((a8.litres==21) && (a8.limit==20))))) && ((aZ.kind==7) && ((aZ.hour==1) && ((aZ.index==0) && ((aZ.litres==9) && (aZ.limit==0))))))=true→(fl gQ jD)))))))))))))
@[go_sem] def r8 : List SV→Option Con:=(pE (.det (kJ) (.v (.bool (jo)))))
set_option maxHeartbeats 4000000 in
theorem wL : FnOk Tryz.prog 10 r8:=by
 have hG : ConsOk Tryz.prog (mkG [(12,fun l=> jk (cO [.st .district,.sl .claim] l)),(14,fun l=> iM (cO [.st .district,.sl .claim] l)),(16,fun l=> lE (cO [.sl .order,.sl .order] l)),(17,fun l=> lD (cO [.st .district,.sl .claim] l)),(19,fun l=> lF (cO [.sl .claim,.sl .claim] l)),(30,ql)] [(12,fg)]) :=aQ (cgc (l7.norm [.st .district,.sl .claim]) (cgc (lC.norm [.st .district,.sl .claim]) (cgc (pV.norm [.sl .order,.sl .order]) (cgc (pP.norm [.st .district,.sl .claim]) (cgc (pW.norm [.sl .claim,.sl .claim]) (cgc wg cg0)))))) (cgc ky cg0)
 refine bb [.o] mixed aH hG (fn:=Tryz.f10) (c:=aj Tryz.f10) (by kernel_rfl) (by kernel_rfl) (by kernel_rfl) (by kernel_rfl) (aM (fun hp=> ?_))
 dsimp only [aW] at hp
 unfold kJ at hp
 try simp only [eT,di,aZ,iO,fY,cg,eU,cy,gN,eH,gO,bf,fz,dB,fA,a8,gQ,jD] at hp
 refine ⟨Nat.le_of_ble_eq_true rfl,L0,aw _,?_⟩
 ·unfold aj Tryz.f10
  try unfold jo
  simp only [go_sem,Nat.reduceBEq,Nat.reduceLeDiff,Nat.reduceLT,decide_true,Nat.reduceAdd,Nat.reduceSub,Nat.reduceMul,Int.reduceLE,Int.reduceLT,Int.reduceToNat,Int.reduceNeg,reduceCtorEq,eT,di,aZ,iO,fY,cg,eU,cy,gN,eH,gO,bf,fz,dB,fA,a8,gQ,jD]
  all_goals exact cl
@[go_sem] def kf (l_ : List Order) (k_0 : Nat) (s_0 : List (Acequialaw27Key×Int)) : Empty⊕(List (Acequialaw27Key×Int)) := .inr (cU .acequialaw27Key .int s_0 ({ outlet:=(l_.getD k_0 (default : Order)).outlet,index:=(l_.getD k_0 (default : Order)).index,hour:=(l_.getD k_0 (default : Order)).hour} : Acequialaw27Key) (IntKind.i64.wrap ((ay .acequialaw27Key .int s_0 ({ outlet:=(l_.getD k_0 (default : Order)).outlet,index:=(l_.getD k_0 (default : Order)).index,hour:=(l_.getD k_0 (default : Order)).hour} : Acequialaw27Key)) + (l_.getD k_0 (default : Order)).litres)))
def aP (l_ : List Order) : List (Acequialaw27Key×Int) :=(match az (kf l_) l_.length 0 ([]) with | .inl x=> x.elim | .inr s_0=> s_0)
@[go_sem] def pf : List SV→Option Con:=(pR .order fun l_=> (pE (.det True (.nm .acequialaw27Key .int (aP l_)))))
set_option maxHeartbeats 4000000 in
theorem tY : FnOk Tryz.prog 20 pf:=by
 have hG : ConsOk Tryz.prog (mkG [] []) :=aQ cg0 cg0
 refine qz true mixed aH hG (fn:=Tryz.f20) (c:=aj Tryz.f20) (by kernel_rfl) (by kernel_rfl) (by kernel_rfl) (by kernel_rfl) (c8 fun l_=> (aM (fun hp=> ?_)))
 dsimp only [aW] at hp
 refine ⟨Nat.le_of_ble_eq_true rfl,(fun id st=> bif Nat.beq id 0 then some (LCR (ρ:=Empty) (σ:=(List (Acequialaw27Key×Int))) 1 [] [0] (fun k_0 s_0=> ⟨[(3,.os 0),(7,.rs .order l_),(8,.v (.int .i64 (l_.length : Int))),(9,.v (.int .i64 (k_0 : Int)))],[.mp .acequialaw27Key .int s_0 none]⟩) (kf l_) pT l_.length ([]) (l_.length≤bu) ((·.elim)) ((·.elim)) st) else none),?_,?_⟩
 ·unfold aj Tryz.f20
  simp only [aB,true_and,and_true]
  ·refine cp mixed aH hG (by kernel_rfl) (fun _=> rfl) (l_.length : Int) rfl jS (fun hb0 k_0 s_0 hlt0 _ hw hc=> ⟨L0,aw _,?_⟩) (fun hb0 s_0 hc=> ?_)
   ·exact JU
   ·exact JV
 ·unfold aj Tryz.f20
  try unfold aP
  simp only [go_sem,Nat.reduceBEq,Nat.reduceLeDiff,Nat.reduceLT,decide_true,Nat.reduceAdd,Nat.reduceSub,Nat.reduceMul,Int.reduceLE,Int.reduceLT,Int.reduceToNat,Int.reduceNeg,reduceCtorEq]
  all_goals exact cl
@[go_sem] def wM (l_ : List Claim) (c : Claim) (k_0 : Nat) (s_0 : Unit) : Unit⊕Unit:=(bif (((l_.getD k_0 (default : Claim)).right==c.right) && (((l_.getD k_0 (default : Claim)).farm==c.farm) && (((l_.getD k_0 (default : Claim)).hour==c.hour) && (((l_.getD k_0 (default : Claim)).litres==c.litres) && ((l_.getD k_0 (default : Claim)).rank==c.rank))))) then .inl () else .inr ())
def Cq (l_ : List Claim) (c : Claim) : Bool:=(match az (wM l_ c) l_.length 0 () with | .inl x_0_0=> true | .inr s_0=> false)
@[go_sem] def Oo : List SV→Option Con:=(pR .claim fun l_=> (pD .claim fun c=> (pE (.det True (.v (.bool (Cq l_ c)))))))
def r9 (a : Claim) (b : Claim) : Bool:=(bif (a.rank !=b.rank) then (decide (a.rank < b.rank)) else (bif (a.right !=b.right) then (decide (a.right < b.right)) else (bif (a.farm !=b.farm) then (decide (a.farm < b.farm)) else (decide (a.hour < b.hour)))))
@[go_sem] def JW : List SV→Option Con:=(pD .claim fun a=> (pD .claim fun b=> (pE (.det True (.v (.bool (r9 a b)))))))
def sa (a : Claim) (b : Claim) : Bool:=(bif (a.hour !=b.hour) then (decide (a.hour < b.hour)) else (r9 a b))
@[go_sem] def JX : List SV→Option Con:=(pD .claim fun a=> (pD .claim fun b=> (pE (.det True (.v (.bool (sa a b)))))))
@[go_sem] def jE (l_ : List Claim) (x : Claim) (k_0 : Nat) (s_0 : Int) : Int⊕Int:=(bif ((decide (s_0 < (l_.length : Int))) && (sa (l_.getD (Int.toNat s_0) (default : Claim)) x)) then .inr (IntKind.i64.wrap (s_0 + 1)) else .inl s_0)
def tZ (l_ : List Claim) (x : Claim) (k_0 : Nat) (s_0 : Int) : Prop:=(l_.length≤bu→((decide (s_0 < (l_.length : Int)))=true→(0≤s_0∧s_0 < (l_.length : Int))))
def Cr (l_ : List Claim) (x : Claim) : List Claim:=(match az (jE l_ x) (l_.length + 1) 0 0 with | .inl x_0_0=> (((([]) ++ ((l_.take (Int.toNat x_0_0)).drop 0)) ++ ([x])) ++ ((l_.take (Int.toNat (l_.length : Int))).drop (Int.toNat x_0_0))) | .inr s_0=> default)
def yU (l_ : List Claim) (x : Claim) : Prop:=(okI (jE l_ x) (tZ l_ x) (l_.length + 1) 0 0∧(∀ z_,az (jE l_ x) (l_.length + 1) 0 0≠ .inr z_)∧(∀ x_0_0,az (jE l_ x) (l_.length + 1) 0 0= .inl x_0_0→((0≤0∧0≤x_0_0∧x_0_0≤(l_.length : Int))∧(((([]) ++ ((l_.take (Int.toNat x_0_0)).drop 0)).length * 40≤fN)∧((([]) ++ ((l_.take (Int.toNat x_0_0)).drop 0)).length≤bu→((((([]) ++ ((l_.take (Int.toNat x_0_0)).drop 0)) ++ ([x])).length * 40≤fN)∧(((([]) ++ ((l_.take (Int.toNat x_0_0)).drop 0)) ++ ([x])).length≤bu→((0≤x_0_0∧x_0_0≤(l_.length : Int)∧(l_.length : Int)≤(l_.length : Int))∧((((([]) ++ ((l_.take (Int.toNat x_0_0)).drop 0)) ++ ([x])) ++ ((l_.take (Int.toNat (l_.length : Int))).drop (Int.toNat x_0_0))).length * 40≤fN)))))))))
@[go_sem] def Oq : List SV→Option Con:=(pR .claim fun l_=> (pD .claim fun x=> (pE (.det (yU l_ x) (.nw .claim (Cr l_ x))))))
end Go.Sx
end
section
namespace Go.Sx
@[go_sem ↓] theorem Tl (x : Reach) : mkE .reach [.v (.string x.name),.v (.int .i64 x.up),.v (.int .i64 x.delay),.v (.int .i64 x.cap),.v (.int .i64 x.bank),.v (.int .i64 x.siphon),.v (.int .i64 x.evap.lo),.v (.int .i64 x.evap.hi),.v (.int .i64 x.seep.1.n),.v (.int .i64 x.seep.1.d),.v (.int .i64 x.seep.2.n),.v (.int .i64 x.seep.2.d)]=x:=(rfl)
@[go_sem ↓] theorem Tm (x : Order) : mkE .order [.v (.int .i64 x.hour),.v (.int .i64 x.index),.v (.int .i64 x.litres),.v (.bool x.outlet)]=x:=(rfl)
@[go_sem ↓] theorem Tn (x : Claim) : mkE .claim [.v (.int .i64 x.right),.v (.int .i64 x.farm),.v (.int .i64 x.hour),.v (.int .i64 x.litres),.v (.int .i64 x.rank)]=x:=(rfl)
@[go_sem ↓] theorem U5 (x : Tank) : mkE .tank [.v (.int .i64 x.cap),.v (.int .i64 x.start)]=x:=(rfl)
end Go.Sx
end
