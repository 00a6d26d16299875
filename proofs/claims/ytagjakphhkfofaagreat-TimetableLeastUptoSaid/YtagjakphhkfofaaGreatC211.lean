/- Part of the proof that the law TimetableLeast returns true and leaves its arguments as they were, for all arguments of bulk at most 1048576 (the Upto form). -/
import Derived.Test.YtagjakphhkfofaaGreatC210
import Derived.Shelf.SlSortCmp.NoneTotal
import Derived.Ground.SlsfProg
import Derived.Test.YtagjakphhkfofaaGreatProg
import Derived.Test.YtagjakphhkfofaaGreatC209
import Derived.Test.YtagjakphhkfofaaGreatC207
import Derived.Test.YtagjakphhkfofaaGreatC206
import Derived.Test.YtagjakphhkfofaaGreatC201
set_option linter.all false
section
namespace Go.Sx
open Go.Proofs
def Eqv (w : WM) (m : Mp) : Prop:= ∀ a b,ay .timetableSlot .int w (sl a b)=ay .int2 .int m (a,b)
theorem Ce {a b x y : Int} : (sl x y=sl a b)=((x,y)=(a,b)) :=by
 unfold sl
 simp only [TimetableSlot.mk.injEq,Prod.mk.injEq]
theorem Eqv.put {w : WM} {m : Mp} (h : Eqv w m) (a b v : Int) : Eqv (c5 .timetableSlot .int w (sl a b) v) (c5 .int2 .int m (a,b) v) :=fun x y=> by
 rw [fV,fV,h]
 by_cases q : (x,y)=(a,b)
 ·rw [if_pos (by rw [Ce];exact q),if_pos q]
 ·rw [if_neg (by rw [Ce];exact q),if_neg q]
theorem tA {ρ σ τ : Type} (step : τ→σ→ρ⊕σ) : ∀ (A B : List τ) (s : σ),bK step (A ++ B) s=match bK step A s with | .inl y=> .inl y | .inr s'=> bK step B s'
 | [],B,s=> rfl
 | x :: A,B,s=> by
  simp only [List.cons_append,bK]
  cases h : step x s with
  | inl y=> rfl
  | inr s'=> exact tA step A B s'
section
variable {d : District} {out : List Order}
theorem Pd : ∀ (n k : Nat) (w : WM) (m m' : Mp),Eqv w m→aw (a6 d out) n k m= .inr m'→∃ w',aw (cB out d) n k w= .inr w'∧Eqv w' m'
 | 0,k,w,m,m',h,e=> by
  simp only [aw,Sum.inr.injEq] at e
  subst e
  exact ⟨w,rfl,h⟩
 | n + 1,k,w,m,m',h,e=> by
  simp only [aw] at e ⊢
  cases hs : a6 d out k m with
  | inl x=> rw [hs] at e;cases e
  | inr m1=>
   rw [hs] at e
   simp only at e
   refine Pd n (k + 1) _ m1 m' ?_ e
   unfold a6 at hs
   cases ho : (out.getD k (default : Order)).outlet with
   | false=> rw [ho] at hs;cases hs
   | true=>
    rw [ho] at hs
    simp only [Bool.not_true,cond_false,Sum.inr.injEq] at hs
    subst hs
    have h1:=h (d.farms.getD (Int.toNat ((out.getD k (default : Order)).index)) (default : Farm)).reach (out.getD k (default : Order)).hour
    have:=h.put (d.farms.getD (Int.toNat ((out.getD k (default : Order)).index)) (default : Farm)).reach (out.getD k (default : Order)).hour (IntKind.i64.wrap ((ay .int2 .int m ((d.farms.getD (Int.toNat ((out.getD k (default : Order)).index)) (default : Farm)).reach,(out.getD k (default : Order)).hour)) + (out.getD k (default : Order)).litres))
    rw [←h1] at this ⊢
    exact this
theorem yR (s : TimetableSlot) : ay .timetableSlot .bool [] s=false:=rfl
theorem vZ {s1 : List Fault×WM×UM×Int} {r : Nat} (hs : s1.2.2.2=(r : Int)) {H : Nat} : ∀ (n k : Nat) (l : List Order) (m : Mp) (w : WM),k + n=H→Eqv w m→
  (∃ l' m' w',bK (aC d) (tX r H k) (l,m)= .inr (l',m')∧aw (aG d s1) n k ([],[],w)= .inr ([],[],w')∧Eqv w' m')∨
  ((∃ y,bK (aC d) (tX r H k) (l,m)= .inl y)∧∃ u' F' w',aw (aG d s1) n k ([],[],w)= .inr (u',F',w')∧F'≠[])
 | 0,k,l,m,w,hk,h=> by
  have : k=H:=by omega
  subst this
  rw [rR]
  exact .inl ⟨l,m,w,rfl,rfl,h⟩
 | n + 1,k,l,m,w,hk,h=> by
  rw [kQ (by omega : k < H)]
  have hg:=h (r : Int) (k : Int)
  rw [←hs] at hg
  simp only [bK,aw]
  by_cases h0 : ay .timetableSlot .int w (sl s1.2.2.2 k)=0
  ·have e1 : aC d ((r : Int),(k : Int)) (l,m)= .inr (l,m) :=by
    unfold aC
    rw [h0,hs] at hg
    simp only [←hg,BEq.rfl,cond_true]
   rw [e1,xK (yR _) h0]
   exact vZ hs n (k + 1) l m w (by omega) h
  ·by_cases hb : (aA (rch d s1.2.2.2) (ay .timetableSlot .int w (sl s1.2.2.2 k))).2=false∨(k : Int) < (rch d s1.2.2.2).delay
   ·refine .inr ⟨?_,?_⟩
    ·have e1 : aC d ((r : Int),(k : Int)) (l,m)= .inl m:=by
      unfold aC
      rw [hg,hs] at h0 hb
      have h1 : (ay .int2 .int m ((r : Int),(k : Int)) ==(0 : Int))=false:=beq_eq_false_iff_ne.2 h0
      simp only [h1,cond_false]
      have h2 : ((!(aA (d.reaches.getD (Int.toNat (r : Int)) (default : Reach)) (ay .int2 .int m ((r : Int),(k : Int)))).2) || (decide ((k : Int) < (d.reaches.getD (Int.toNat (r : Int)) (default : Reach)).delay)))=true:=by
       rcases hb with hb | hb
       ·rw [hb];rfl
       ·rw [decide_eq_true hb,Bool.or_true]
      rw [h2,cond_true]
     rw [e1]
     exact ⟨_,rfl⟩
    ·obtain ⟨u',e⟩ :=AI (F:=[]) (yR _) h0 hb
     rw [e]
     obtain ⟨u2,T2,w2,e2,_⟩ :=rY (d:=d) (s1:=s1) n (k + 1) u' ([] ++ [ltF k s1.2.2.2 (ay .timetableSlot .int w (sl s1.2.2.2 k))]) w
     exact ⟨u2,_,w2,e2,by simp⟩
   ·have hv : (aA (rch d s1.2.2.2) (ay .timetableSlot .int w (sl s1.2.2.2 k))).2=true:=by
     cases q : (aA (rch d s1.2.2.2) (ay .timetableSlot .int w (sl s1.2.2.2 k))).2 with
     | true=> rfl
     | false=> exact absurd (.inl q) hb
    have hk2 : ¬ (k : Int) < (rch d s1.2.2.2).delay:=fun q=> hb (.inr q)
    rw [xL (yR _) h0 hv hk2]
    rw [hg] at h0 hv ⊢
    rw [hs] at h0 hv hk2 ⊢
    have e1 : aC d ((r : Int),(k : Int)) (l,m)= .inr (l ++ [({ hour:=(IntKind.i64.wrap ((k : Int) - (rch d (r : Int)).delay)),index:=(r : Int),litres:=(aA (rch d (r : Int)) (ay .int2 .int m ((r : Int),(k : Int)))).1,outlet:=false} : Order)],c5 .int2 .int m ((rch d (r : Int)).up,IntKind.i64.wrap ((k : Int) - (rch d (r : Int)).delay)) (IntKind.i64.wrap ((ay .int2 .int m ((rch d (r : Int)).up,IntKind.i64.wrap ((k : Int) - (rch d (r : Int)).delay))) + (aA (rch d (r : Int)) (ay .int2 .int m ((r : Int),(k : Int)))).1))) :=by
     unfold aC
     have h1 : (ay .int2 .int m ((r : Int),(k : Int)) ==(0 : Int))=false:=beq_eq_false_iff_ne.2 h0
     simp only [h1,cond_false]
     have h2 : ((!(aA (d.reaches.getD (Int.toNat (r : Int)) (default : Reach)) (ay .int2 .int m ((r : Int),(k : Int)))).2) || (decide ((k : Int) < (d.reaches.getD (Int.toNat (r : Int)) (default : Reach)).delay)))=false:=by
      rw [decide_eq_false hk2,Bool.or_false]
      show (!(aA (rch d (r : Int)) (ay .int2 .int m ((r : Int),(k : Int)))).2)=false
      rw [hv];rfl
     rw [h2,cond_false]
    rw [e1,h]
    exact vZ hs n (k + 1) _ _ _ (by omega) (h.put _ _ _)
theorem AJ : ∀ (m n j : Nat) (l : List Order) (md : Mp) (w : WM),m < n→m≤1000000→Eqv w md→(∃ y,bK (aC d) (pJ d.hours.toNat m) (l,md)= .inl y)→
  ∃ T,aw (ba d) n j ([],w,[],(m : Int) - 1)= .inl T∧T≠[]
 | 0,n,j,l,md,w,_,_,_,⟨y,e⟩ => by simp [pJ,bK] at e
 | m + 1,n + 1,j,l,md,w,hmn,hm,h,⟨y,e⟩ => by
  rw [oZ] at e
  have hs : (([],w,[],((m + 1 : Nat) : Int) - 1) : List Fault×WM×UM×Int).2.2.2=(m : Int) :=by simp only;omega
  rcases vZ (d:=d) hs (H:=d.hours.toNat) d.hours.toNat 0 l md w (by omega) h with ⟨l',m',w',e1,e2,h'⟩ | ⟨_,u',F',w',e2,hF⟩
  ·rw [tA,e1] at e
   obtain ⟨T,e3,hT⟩ :=AJ m n (j + 1) l' m' w' (by omega) (by omega) h' ⟨y,e⟩
   refine ⟨T,?_,hT⟩
   simp only [aw]
   rw [EF (by omega) (by omega) e2,show ((m + 1 : Nat) : Int) - 1 - 1=(m : Int) - 1 by omega]
   exact e3
  ·obtain ⟨T,e3,_⟩ :=ug (d:=d) m n (j + 1) F' w' u' (by omega) (by omega)
   refine ⟨F' ++ T,?_,by simp [hF]⟩
   simp only [aw]
   rw [EF (by omega) (by omega) e2,show ((m + 1 : Nat) : Int) - 1 - 1=(m : Int) - 1 by omega]
   exact e3
theorem v6 (hr : Right1 d) (ho : Orders1 d out) (hall : ∀ x∈out,x.outlet=true) : ∃ w0,aw (cB out d) out.length 0 []= .inr w0∧(∃ m,aw (a6 d out) out.length 0 []= .inr m∧Eqv w0 m)∧
  aw (ba d) (d.reaches.length + 1) 0 ([],w0,[],IntKind.i64.wrap ((d.reaches.length : Int) - 1))= .inl (bV out d)∧∀ f∈bV out d,f.kind=7:=by
 obtain ⟨m,hm⟩ :=(sY hr ho).2.2 hall
 obtain ⟨w0,e0,h0⟩ :=Pd out.length 0 [] [] m (fun _ _=> rfl) hm
 have hR:=hr.reaches
 obtain ⟨T,e1,h1⟩ :=ug (d:=d) d.reaches.length (d.reaches.length + 1) 0 [] w0 [] (by omega) (by omega)
 have hw : IntKind.i64.wrap ((d.reaches.length : Int) - 1)=(d.reaches.length : Int) - 1:=cp (by omega) (by omega)
 have e2 : bV out d=T:=by
  unfold bV
  rw [hw]
  simp only [e0,e1,List.nil_append]
 rw [hw,e2]
 exact ⟨w0,e0,⟨m,hm,h0⟩,by rw [e1,List.nil_append],h1⟩
theorem Q_ (hr : Right1 d) (ho : Orders1 d out) (hall : ∀ x∈out,x.outlet=true) : d6 out d ((bV out d).map dm) :=by
 obtain ⟨w0,e0,_,e1,_⟩ :=v6 hr ho hall
 intro _
 have hR:=hr.reaches
 have hh:=hr.hours
 refine ⟨?_,fun s_0 hs _=> ?_⟩
 ·have hst : ∀ j s,0≤j→j < 0 + out.length→eb out d j s:=fun j s _ hj=> by
   have h1:=ho.one j (by omega)
   have h2 : (out.getD j (default : Order)).outlet=true:=hall _ (kP _ _ (by omega))
   exact ⟨h1.index0,h1.farm h2⟩
  exact kF (fun _ _=> True) _ _ _ trivial fun j s h1 h2 _=> ⟨hst j s h1 h2,fun _ _=> trivial⟩
 ·rw [e0] at hs
  simp only [Sum.inr.injEq] at hs
  subst hs
  have hw : IntKind.i64.wrap ((d.reaches.length : Int) - 1)=(d.reaches.length : Int) - 1:=cp (by omega) (by omega)
  refine ⟨?_,fun z hz=> ?_,fun x hx=> ?_⟩
  ·rw [hw] at e1 ⊢
   exact JB hh _ _ _ _ _ _ (by omega) (by omega) (Nat.le_refl _) fun x hx=> by
    rw [e1] at hx
    simp only [Sum.inl.injEq] at hx
    subst hx
    exact List.prefix_rfl
  ·rw [e1] at hz;cases hz
  ·rw [e1] at hx
   simp only [Sum.inl.injEq] at hx
   subst hx
   simp
theorem Of (hr : Right1 d) (ho : Orders1 d out) (hall : ∀ x∈out,x.outlet=true) (hP : (aq d out).2.1=false) (hP2 : (aq d out).2.2=0) : bV out d≠[] :=by
 obtain ⟨w0,e0,⟨m,hm,h0⟩,e1,_⟩ :=v6 hr ho hall
 have hR:=hr.reaches
 have hw : IntKind.i64.wrap ((d.reaches.length : Int) - 1)=(d.reaches.length : Int) - 1:=cp (by omega) (by omega)
 have hy : ∃ y,bK (aC d) (bt d) (out,m)= .inl y:=by
  cases q : bK (aC d) (bt d) (out,m) with
  | inl y=> exact ⟨y,rfl⟩
  | inr s=>
   exfalso
   unfold aq at hP hP2
   simp only [hm,q] at hP hP2
   cases hn : ((bC d out) !=0) with
   | true=>
    rw [hn] at hP2
    simp only [cond_true] at hP2
    rw [hP2] at hn;cases hn
   | false=>
    rw [hn] at hP hP2
    simp only [cond_false] at hP hP2
    cases hd : decide ((s.1.length : Int) > 4096) with
    | true=> rw [hd] at hP2;cases hP2
    | false=> rw [hd] at hP;cases hP
 obtain ⟨T,e3,hT⟩ :=AJ (d:=d) d.reaches.length (d.reaches.length + 1) 0 out m w0 (by omega) (by omega) h0 hy
 rw [hw,e3] at e1
 simp only [Sum.inl.injEq] at e1
 rw [←e1]
 exact hT
end
end Go.Sx
end
section
namespace Go.Sx
open Go.Proofs
theorem s6 {f : Nat→List Fault} {step : Nat→List Fault→Empty⊕List Fault} : ∀ (n i : Nat) (s : List Fault),(∀ j s,i≤j→j < i + n→step j s= .inr (s ++ f j))→aw step n i s= .inr (s ++ (List.range' i n).flatMap f)
 | 0,i,s,_=> by simp [aw]
 | n + 1,i,s,h=> by
  simp only [aw,h i s (Nat.le_refl _) (by omega)]
  rw [s6 n (i + 1) (s ++ f i) fun j s h1 h2=> h j s (by omega) (by omega)]
  simp [List.range'_succ]
theorem v7 {f : Nat→List Fault} {step : Nat→List Fault→Empty⊕List Fault} {p : Nat→List Fault→Prop} {items : List (List SV)} : ∀ (n i : Nat) (s : List Fault),(∀ j s,i≤j→j < i + n→step j s= .inr (s ++ f j))→
  (∀ j s,i≤j→j < i + n→(s ++ f j).map dm <+: items→p j s)→(s ++ (List.range' i n).flatMap f).map dm <+: items→okI step p n i s
 | 0,_,_,_,_,_=> trivial
 | n + 1,i,s,h,hp,hi=> by
  rw [List.range'_succ,List.flatMap_cons,←List.append_assoc] at hi
  refine ⟨hp i s (Nat.le_refl _) (by omega) (List.IsPrefix.trans (by rw [List.map_append (l₂:=List.flatMap f _)];exact List.prefix_append _ _) hi),fun s' e=> ?_⟩
  rw [h i s (Nat.le_refl _) (by omega)] at e
  simp only [Sum.inr.injEq] at e
  subst e
  exact v7 n (i + 1) (s ++ f i) (fun j s h1 h2=> h j s (by omega) (by omega)) (fun j s h1 h2=> hp j s (by omega) (by omega)) hi
def g0P (x : Order) : Bool:= !x.outlet && x.index==0
section
variable {d : District} {l : List Order}
theorem Cf (ho : Orders1 d l) : ∃ s0,aw (aL l) l.length 0 ([],0)= .inr s0∧(∀ r h,ay .timetableSlot .int s0.1 (sl r h)=aP (aV r h h) l)∧s0.2=aP g0P l:=by
 obtain ⟨s,e,h1,h2⟩ :=o5 (step:=aL l) (fun j s=> (∀ r h,ay .timetableSlot .int s.1 (sl r h)=aP (aV r h h) (l.take j))∧s.2=aP g0P (l.take j)) l.length 0 ([],0) ⟨fun _ _=> rfl,rfl⟩ (fun j s _ hj ⟨h1,h2⟩ => by
  have hj : j < l.length:=by omega
  have hb:=yO ho g0P j
  have hlit:=ho.lit _ (List.getElem_mem hj)
  unfold aL
  rw [dp _ _ hj]
  cases hout : l[j].outlet with
  | true=>
   refine ⟨_,rfl,fun r h=> ?_,?_⟩
   ·rw [kO hj,h1]
    have : aV r h h l[j]=false:=by unfold aV;rw [hout];rfl
    rw [this];simp
   ·rw [kO hj,h2]
    have : g0P l[j]=false:=by unfold g0P;rw [hout];rfl
    rw [this];simp
  | false=>
   have hg : ∀ r h,ay .timetableSlot .int (c5 .timetableSlot .int s.1 (sl l[j].index l[j].hour) l[j].litres) (sl r h)=aP (aV r h h) (l.take (j + 1)) :=fun r h=> by
    rw [fV,kO hj,h1]
    by_cases q : r=l[j].index∧h=l[j].hour
    ·obtain ⟨rfl,rfl⟩ :=q
     have hp : aV l[j].index l[j].hour l[j].hour l[j]=true:=by unfold aV;rw [hout];simp
     rw [if_pos rfl,hp,FO ho hj (fun x hx=> ?_)]
     ·simp
     ·unfold aV at hx
      simp only [Bool.and_eq_true,Bool.not_eq_true',beq_iff_eq,decide_eq_true_eq] at hx
      exact ⟨by omega,hx.1.1.2,by rw [hx.1.1.1,hout]⟩
    ·have hp : aV r h h l[j]=false:=by
      cases hc : aV r h h l[j] with
      | false=> rfl
      | true=>
       unfold aV at hc
       simp only [Bool.and_eq_true,Bool.not_eq_true',beq_iff_eq,decide_eq_true_eq] at hc
       exact absurd ⟨hc.1.1.2.symm,by omega⟩ q
     rw [if_neg (fun e=> q (by rw [Ce] at e;simp only [Prod.mk.injEq] at e;exact e)),hp]
     simp
   by_cases h0 : l[j].index=0
   ·have hb0 : (l[j].index==0)=true:=by rw [h0];rfl
    simp only [Bool.not_false,cond_true,hb0]
    refine ⟨_,rfl,hg,?_⟩
    have : g0P l[j]=true:=by unfold g0P;rw [hout,hb0];rfl
    rw [kO hj,this,h2,cp (by omega) (by omega),cond_true]
   ·have hb0 : (l[j].index==0)=false:=by simpa using h0
    simp only [Bool.not_false,cond_true,hb0,cond_false]
    refine ⟨_,rfl,hg,?_⟩
    have : g0P l[j]=false:=by unfold g0P;rw [hout,hb0];rfl
    rw [kO hj,this,h2]
    simp)
 rw [Nat.zero_add,List.take_length] at h1 h2
 exact ⟨s,e,h1,h2⟩
theorem JD (ho : Orders1 d l) {s0 : WM×Int} (hg : ∀ r h,ay .timetableSlot .int s0.1 (sl r h)=aP (aV r h h) l) (h i : Nat) (hh : h≤1000000) (n : Nat) (hn : n≤1000000) :
  aw (du d s0 h i) n 0 0= .inr (aP (aV i ((h : Int) - n + 1) h) l) :=by
 obtain ⟨s,e,h1⟩ :=o5 (step:=du d s0 h i) (fun j s=> s=aP (aV i ((h : Int) - j + 1) h) l) n 0 0 (eo (fun x _=> by
   cases hc : aV i ((h : Int) - (0 : Nat) + 1) h x with
   | false=> rfl
   | true=>
    unfold aV at hc
    simp only [Bool.and_eq_true,decide_eq_true_eq] at hc
    omega)).symm (fun j s _ hj hs=> by
  refine ⟨_,rfl,?_⟩
  have e1:=hg (i : Int) ((h : Int) - (j : Int))
  unfold sl at e1
  have e2:=vQ ho (i : Int) (a:=(h : Int) - j) (m:=(h : Int) - j + 1) (b:=(h : Int)) (by omega) (by omega)
  have e3:=mo ho (aV i ((h : Int) - j) ((h : Int) - j))
  have e4:=mo ho (aV i ((h : Int) - j + 1) h)
  rw [show (h : Int) - j + 1 - 1=(h : Int) - j by omega] at e2
  rw [cp (n:=(h : Int) - (j : Int)) (by omega) (by omega),e1,hs,cp (by omega) (by omega),show (h : Int) - ((j + 1 : Nat) : Int) + 1=(h : Int) - j by omega]
  omega)
 rw [e,h1,Nat.zero_add]
def bk (d : District) (l : List Order) (h i : Nat) : List Fault:=
 (if aP (aV i h h) l > (rch d i).cap then [{ kind:=1,hour:=(h : Int),index:=(i : Int),litres:=aP (aV i h h) l,limit:=(rch d i).cap}] else []) ++
 (if aP (aV i ((h : Int) - (rch d i).delay + 1) h) l > (rch d i).bank then [{ kind:=3,hour:=(h : Int),index:=(i : Int),litres:=aP (aV i ((h : Int) - (rch d i).delay + 1) h) l,limit:=(rch d i).bank}] else [])
theorem EG (ho : Orders1 d l) {s0 : WM×Int} (hg : ∀ r h,ay .timetableSlot .int s0.1 (sl r h)=aP (aV r h h) l) {h i : Nat} (hh : h≤1000000) (hi : i < d.reaches.length) (s : List Fault) {items : List (List SV)} :
  cD d s0 h i s= .inr (s ++ bk d l h i)∧((s ++ bk d l h i).map dm <+: items→dM d items s0 h i s) :=by
 have hx:=ho.right.reach1 hi
 have hd1:=hx.delay1
 have hd2:=hx.delay
 have e1:=JD ho hg h i hh (Int.toNat (d.reaches.getD i (default : Reach)).delay) (by omega)
 have e2:=hg (i : Int) (h : Int)
 unfold sl at e2
 have e3 : ((Int.toNat (d.reaches.getD i (default : Reach)).delay : Nat) : Int)=(rch d (i : Int)).delay:=by
  show _=(d.reaches.getD (Int.toNat (i : Int)) (default : Reach)).delay
  rw [Int.toNat_natCast];omega
 rw [e3] at e1
 have e4 : d.reaches.getD i (default : Reach)=rch d (i : Int) :=by show _=d.reaches.getD (Int.toNat (i : Int)) default;rw [Int.toNat_natCast]
 have hdl : (d.reaches.getD i (default : Reach)).delay < 9223372036854775808:=by omega
 refine ⟨?_,fun hp=> ⟨hdl,fun s3 h3=> ?_⟩⟩
 ·unfold cD bk
  simp only [e1,e2]
  rw [e4]
  generalize aP (aV i ((h : Int) - (rch d (i : Int)).delay + 1) h) l=B
  generalize aP (aV i h h) l=A
  generalize rch d (i : Int)=x
  by_cases c1 : A > x.cap <;> by_cases c2 : B > x.bank <;> simp [c1,c2]
 ·rw [e1] at h3
  simp only [Sum.inr.injEq] at h3
  subst h3
  simp only [e2]
  rw [e4]
  unfold bk at hp
  generalize aP (aV i ((h : Int) - (rch d (i : Int)).delay + 1) h) l=B at hp ⊢
  generalize aP (aV i h h) l=A at hp ⊢
  generalize rch d (i : Int)=x at hp ⊢
  refine ⟨fun q1=> ⟨?_,fun q2=> ?_,fun q=> q⟩,fun q1=> ⟨q1,fun q2=> ?_,fun q=> q⟩⟩
  ·rw [if_pos (of_decide_eq_true q1),←List.append_assoc] at hp
   refine uf (List.IsPrefix.trans ?_ hp)
   rw [List.map_append (l₁:=s ++ _)]
   exact List.prefix_append _ _
  ·rw [if_pos (of_decide_eq_true q1),if_pos (of_decide_eq_true q2),←List.append_assoc] at hp
   exact uf hp
  ·rw [if_neg (of_decide_eq_false q1),if_pos (of_decide_eq_true q2),List.nil_append] at hp
   exact uf hp
def bkH (d : District) (l : List Order) (h : Nat) : List Fault:=(List.range' 0 d.reaches.length).flatMap (bk d l h)
theorem EH (ho : Orders1 d l) {s0 : WM×Int} (hg : ∀ r h,ay .timetableSlot .int s0.1 (sl r h)=aP (aV r h h) l) {h : Nat} (hh : h≤1000000) (s : List Fault) {items : List (List SV)} :
  cg d s0 h s= .inr (s ++ bkH d l h)∧((s ++ bkH d l h).map dm <+: items→dN d items s0 h s) :=by
 have key : ∀ j s,0≤j→j < 0 + d.reaches.length→cD d s0 h j s= .inr (s ++ bk d l h j) :=fun j s _ hj=> (EG ho hg hh (by omega) s (items:=items)).1
 refine ⟨?_,fun hp _=> ?_⟩
 ·unfold cg
  rw [s6 d.reaches.length 0 s key]
  rfl
 ·exact v7 d.reaches.length 0 s key (fun j s _ hj hq=> (EG ho hg hh (by omega) s).2 hq) hp
def rZ (d : District) (l : List Order) : List Fault:=(List.range' 0 d.hours.toNat).flatMap (bkH d l) ++ (if aP g0P l > d.tank.start then [{ kind:=4,hour:=0,index:=0,litres:=aP g0P l,limit:=d.tank.start}] else [])
theorem xM (ho : Orders1 d l) : bq l d=rZ d l∧cV l d ((bq l d).map dm) :=by
 obtain ⟨s0,e0,hg,h0⟩ :=Cf ho
 have hh:=ho.right.hours
 have key : ∀ j s,0≤j→j < 0 + d.hours.toNat→cg d s0 j s= .inr (s ++ bkH d l j) :=fun j s _ hj=> (EH ho hg (by omega) s (items:=[])).1
 have e1:=s6 d.hours.toNat 0 [] key
 have e2 : bq l d=rZ d l:=by
  unfold bq rZ
  simp only [e0,e1,h0,List.nil_append]
  by_cases c : aP g0P l > d.tank.start
  ·rw [decide_eq_true c,cond_true,if_pos c]
  ·rw [decide_eq_false c,cond_false,if_neg c,List.append_nil]
 refine ⟨e2,?_⟩
 rw [e2]
 intro _ s hs
 rw [e0] at hs
 simp only [Sum.inr.injEq] at hs
 subst hs
 refine ⟨by omega,?_,fun s1 hs1=> ?_⟩
 ·refine v7 d.hours.toNat 0 [] key (fun j s _ hj hq=> (EH ho hg (by omega) s).2 hq) ?_
  unfold rZ
  rw [List.nil_append,List.map_append]
  exact List.prefix_append _ _
 ·rw [e1] at hs1
  simp only [List.nil_append,Sum.inr.injEq] at hs1
  subst hs1
  rw [h0]
  unfold rZ
  by_cases c : aP g0P l > d.tank.start
  ·rw [decide_eq_true c,if_pos c]
   simp
  ·rw [decide_eq_false c,if_neg c]
   simp
structure Lim (d : District) (l : List Order) : Prop where
 cap : ∀ h i : Nat,h < d.hours.toNat→i < d.reaches.length→aP (aV i h h) l≤(rch d i).cap
 bank : ∀ h i : Nat,h < d.hours.toNat→i < d.reaches.length→aP (aV i ((h : Int) - (rch d i).delay + 1) h) l≤(rch d i).bank
 tank : aP g0P l≤d.tank.start
theorem Ra {h i : Nat} : bk d l h i=[]↔aP (aV i h h) l≤(rch d i).cap∧aP (aV i ((h : Int) - (rch d i).delay + 1) h) l≤(rch d i).bank:=by
 unfold bk
 by_cases c1 : aP (aV i h h) l > (rch d i).cap <;> by_cases c2 : aP (aV i ((h : Int) - (rch d i).delay + 1) h) l > (rch d i).bank <;> simp only [c1,c2,if_true,if_false,List.append_eq_nil_iff,List.cons_ne_nil,false_and,and_false,false_iff,true_and,true_iff] <;> omega
theorem xN : rZ d l=[]↔Lim d l:=by
 unfold rZ bkH
 simp only [List.append_eq_nil_iff,List.flatMap_eq_nil_iff,List.mem_range',Ra]
 constructor
 ·rintro ⟨h1,h2⟩
  refine ⟨fun h i hh hi=> (h1 h ⟨h,hh,by omega⟩ i ⟨i,hi,by omega⟩).1,fun h i hh hi=> (h1 h ⟨h,hh,by omega⟩ i ⟨i,hi,by omega⟩).2,?_⟩
  by_cases c : aP g0P l > d.tank.start
  ·rw [if_pos c] at h2;cases h2
  ·omega
 ·intro h
  refine ⟨?_,if_neg (by have:=h.tank;omega)⟩
  rintro a ⟨h',hh,rfl⟩ b ⟨i,hi,rfl⟩
  exact ⟨h.cap _ _ (by omega) (by omega),h.bank _ _ (by omega) (by omega)⟩
end
end Go.Sx
end
section
namespace Go.Sx
open Go.Proofs
section
variable {d : District} {c : List Claim}
theorem qh (s : List Order) : aH s=true↔∃ x∈s,x.litres > 1073741824:=by
 unfold aH bZ
 have hst : ∀ j,aX s j ()=bif decide ((s.getD j default).litres > 1073741824) then .inl (j : Int) else .inr () :=fun j=> rfl
 have key : ∀ n i,(∀ j,i≤j→j < i + n→¬ (s.getD j default).litres > 1073741824)→aw (aX s) n i ()= .inr () :=by
  intro n
  induction n with
  | zero=> intro i _;rfl
  | succ n ih=>
   intro i h
   simp only [aw,hst]
   rw [decide_eq_false (h i (Nat.le_refl _) (by omega)),cond_false]
   exact ih (i + 1) fun j h1 h2=> h j (by omega) (by omega)
 have key2 : ∀ n i x,aw (aX s) n i ()= .inl x→0≤x∧∃ j,i≤j∧j < i + n∧(s.getD j default).litres > 1073741824:=by
  intro n
  induction n with
  | zero=> intro i x h;cases h
  | succ n ih=>
   intro i x h
   simp only [aw,hst] at h
   by_cases q : (s.getD i default).litres > 1073741824
   ·rw [decide_eq_true q,cond_true] at h
    simp only [Sum.inl.injEq] at h
    exact ⟨by omega,i,Nat.le_refl _,by omega,q⟩
   ·rw [decide_eq_false q,cond_false] at h
    obtain ⟨h1,j,h2,h3,h4⟩ :=ih (i + 1) x h
    exact ⟨h1,j,by omega,by omega,h4⟩
 constructor
 ·intro h
  cases hr : aw (aX s) s.length 0 () with
  | inl x=>
   obtain ⟨_,j,_,hj,hl⟩ :=key2 _ _ _ hr
   exact ⟨_,kP s default (by omega),hl⟩
  | inr u=> rw [hr] at h;simp at h
 ·rintro ⟨x,hx,hl⟩
  obtain ⟨j,hj,rfl⟩ :=List.getElem_of_mem hx
  cases hr : aw (aX s) s.length 0 () with
  | inl x=> have:=(key2 _ _ _ hr).1;simp only [decide_eq_true_eq];omega
  | inr u=>
   have h1:=BZ hr j (Nat.zero_le _) (by omega)
   rw [hst,dp _ _ hj,decide_eq_true hl] at h1
   cases h1
structure Askd (d : District) (c : List Claim) : Prop where
 chk : aS d c=0
 wide : (d.reaches.length : Int) * d.hours≤1024
 lit : ∀ x∈aj c,x.litres≤1073741824
theorem r6 (h : aS d c=0) : okL1 c:=by
 obtain ⟨_,h2,h3,_⟩ :=(nC d c).1 h
 exact ⟨h2,fun a ha=> Cc (h3 a ha)⟩
theorem JE (h : aS d c=0) : Right1 d:=oT (by rw [((nC d c).1 h).1];rfl)
theorem yS (h : aS d c=0) : IntKind.i64.wrap ((d.reaches.length : Int) * d.hours)=(d.reaches.length : Int) * d.hours:=by
 have:=xz (JE h)
 exact cp (by omega) (by omega)
theorem kS : (ae d c).2=0↔Askd d c:=by
 unfold ae
 by_cases h1 : aS d c=0
 ·rw [h1]
  simp only [bne_self_eq_false,cond_false]
  rw [yS h1]
  by_cases h2 : (d.reaches.length : Int) * d.hours > 1024
  ·rw [decide_eq_true h2,cond_true]
   constructor
   ·intro h;cases h
   ·intro h;have:=h.wide;omega
  ·rw [decide_eq_false h2,cond_false]
   cases h3 : aH (aj c) with
   | true=>
    rw [cond_true]
    obtain ⟨x,hx,hl⟩ :=(qh _).1 h3
    constructor
    ·intro h;cases h
    ·intro h;have:=h.lit x hx;omega
   | false=>
    rw [cond_false]
    refine ⟨fun _=> ⟨h1,by omega,fun x hx=> ?_⟩,fun _=> rfl⟩
    by_cases q : x.litres > 1073741824
    ·have:=(qh _).2 ⟨x,hx,q⟩
     rw [h3] at this;cases this
    ·omega
 ·have : (aS d c !=0)=true:=by simpa using h1
  rw [this,cond_true]
  exact ⟨fun h=> absurd h h1,fun h=> absurd h.chk h1⟩
theorem xO (h : Askd d c) : ae d c=(aj c,0) :=by
 have h2:=kS.2 h
 unfold ae at h2 ⊢
 rw [h.chk] at h2 ⊢
 simp only [bne_self_eq_false,cond_false] at h2 ⊢
 rw [yS h.chk] at h2 ⊢
 rw [decide_eq_false (by have:=h.wide;omega),cond_false] at h2 ⊢
 cases h3 : aH (aj c) with
 | true=> rw [h3] at h2;cases h2
 | false=> rfl
theorem AK (d : District) (c : List Claim) : da d c:=by
 refine ⟨xI d c,fun h _ _=> FQ (r6 (d:=d) ?_)⟩
 simpa using h
theorem Askd.outs (h : Askd d c) : Outs c (aj c) :=Sx.outs (r6 h.chk)
theorem Askd.nar (h : Askd d c) : Nar d (aj c) :=by
 obtain ⟨h1,h2,h3,_⟩ :=(nC d c).1 h.chk
 have ho:=h.outs
 refine ⟨⟨h1,Nat.le_trans ho.len h2,fun x hx=> ?_,ho.asc⟩,h.wide⟩
 obtain ⟨a,ha,e1,e2⟩ :=ho.src x hx
 have hk:=h3 a ha
 unfold okC at hk
 simp only [Bool.and_eq_true,decide_eq_true_eq] at hk
 have hout:=ho.out x hx
 have hl:=ho.lit x hx
 have hl2:=h.lit x hx
 exact ⟨by omega,by omega,by omega,fun _=> by omega,fun q=> (by rw [hout] at q;cases q),hl.2,hl2⟩
theorem Cg (d : District) (c : List Claim) :
  (¬ Askd d c∧(ae d c).2≠0∧ar d c=([],({ kind:=0,hour:=0,index:=0,litres:=0,limit:=0} : Fault),(ae d c).2))∨
  (Askd d c∧ar d c=([],({ kind:=0,hour:=0,index:=0,litres:=0,limit:=0} : Fault),2))∨
  (Askd d c∧(∃ gs r h,PX d (aj c) gs r h)∧bV (aj c) d≠[]∧ar d c=([],fu (aj c) d,0))∨
  (Askd d c∧∃ gs,PL d (aj c) gs∧¬ Lim d (srt ax (aj c ++ gs))∧∃ f∈rZ d (srt ax (aj c ++ gs)),ar d c=([],f,0))∨
  (Askd d c∧∃ gs,PL d (aj c) gs∧Lim d (srt ax (aj c ++ gs))∧ar d c=(srt ax (aj c ++ gs),({ kind:=0,hour:=0,index:=0,litres:=0,limit:=0} : Fault),0)) :=by
 by_cases hA : Askd d c
 ·refine .inr ?_
  have ha:=xO hA
  have hN:=hA.nar
  have hall:=hA.outs.out
  unfold ar
  simp only [ha,bne_self_eq_false,cond_false]
  rcases vP d (aj c) with ⟨q,_⟩ | ⟨_,q,_⟩ | ⟨_,_,hx,e⟩ | ⟨_,_,gs,_,_,e⟩ | ⟨_,_,gs,hP,e⟩
  ·exact absurd ((qC _ _).2 hN) q
  ·exact absurd hall q
  ·refine .inr (.inl ⟨hA,hx,?_,?_⟩)
   ·exact Of hN.good.right hN.good.orders hall (by rw [e]) (by rw [e])
   ·rw [e];rfl
  ·refine .inl ⟨hA,?_⟩
   rw [e];rfl
  ·have hg:=hP.good
   have hb:=(xM hg.orders).1
   rw [e]
   simp only [bne_self_eq_false,cond_false,Bool.not_true]
   rw [hb]
   cases hB : rZ d (srt ax (aj c ++ gs)) with
   | nil=> exact .inr (.inr (.inr ⟨hA,gs,hP,xN.1 hB,rfl⟩))
   | cons f r=>
    refine .inr (.inr (.inl ⟨hA,gs,hP,fun q=> ?_,f,?_,?_⟩))
    ·rw [xN.2 q] at hB;cases hB
    ·rw [hB];exact List.mem_cons_self
    ·rfl
 ·refine .inl ⟨hA,fun q=> hA (kS.1 q),?_⟩
  have : ((ae d c).2 !=0)=true:=by
   rw [bne_iff_ne];exact fun q=> hA (kS.1 q)
  unfold ar
  rw [this,cond_true]
theorem AL (d : District) (c : List Claim) : db d c:=by
 refine ⟨AK d c,fun h=> ?_⟩
 have hA : Askd d c:=kS.1 (by simpa using h)
 have ha:=xO hA
 rw [ha]
 have hN:=hA.nar
 have hall:=hA.outs.out
 refine ⟨Q7 _ _,fun h2=> ⟨fun _=> ?_,fun h3=> ?_⟩⟩
 ·exact Q_ hN.good.right hN.good.orders hall
 ·rcases vP d (aj c) with ⟨_,e⟩ | ⟨_,_,e⟩ | ⟨_,_,_,e⟩ | ⟨_,_,gs,_,_,e⟩ | ⟨_,_,gs,hP,e⟩
  ·rw [e] at h3;cases h3
  ·rw [e] at h3;cases h3
  ·rw [e] at h3;cases h3
  ·rw [e] at h3;cases h3
  ·rw [e]
   exact (xM hP.good.orders).2
theorem uh (d : District) (c : List Claim) : cy d c:=AL d c
theorem AM (d : District) (c : List Claim) : eB d c:=AL d c
structure Made (d : District) (c : List Claim) (l : List Order) : Prop where
 ask : Askd d c
 plan : ∃ gs,PL d (aj c) gs∧l=srt ax (aj c ++ gs)
 lim : Lim d l
end
end Go.Sx
end
section
namespace Go.Sx
open Go.Proofs
section
variable {d : District} {c : List Claim} {l : List Order}
structure Srv (d : District) (c : List Claim) (l : List Order) : Prop where
 kp : Keeps d l
 wide : (d.reaches.length : Int) * d.hours≤1024
 lim : Lim d l
 met : ∀ f h : Int,lA c f h≤aP (mn f h) l
theorem JF {f h : Int} {x y : Order} (hx : mn f h x=true) (hy : mn f h y=true) : K x y:=by
 unfold mn at hx hy
 simp only [Bool.and_eq_true,beq_iff_eq] at hx hy
 exact ⟨by rw [hx.2,hy.2],by rw [hx.1.2,hy.1.2],by rw [hx.1.1,hy.1.1]⟩
theorem JG (hA : Askd d c) {gs : List Order} {x : Order} : x∈srt ax (aj c ++ gs)↔x∈aj c∨x∈gs:=by
 rw [(rS _).mem_iff,List.mem_append]
theorem Srv.dom (h : Srv d c l) (hc : aS d c=0) : ∀ x∈aj c,∃ z∈l,K z x∧x.litres≤z.litres:=fun x hx=> by
 have ho:=outs (r6 hc)
 have h1:=ho.lit x hx
 have h2:=h.met x.index x.hour
 obtain ⟨z,hz,hp⟩ :=yL (p:=mn x.index x.hour) (l:=l) (by omega)
 have e : aP (mn x.index x.hour) l=z.litres:=lX h.kp.good.keys (fun _ _ h1 h2=> JF h1 h2) hz hp
 refine ⟨z,hz,?_,by omega⟩
 unfold mn at hp
 simp only [Bool.and_eq_true,beq_iff_eq] at hp
 exact ⟨hp.2,hp.1.2,by rw [hp.1.1,ho.out x hx]⟩
theorem Srv.ask (h : Srv d c l) (hc : aS d c=0) : Askd d c:=by
 refine ⟨hc,h.wide,fun x hx=> ?_⟩
 obtain ⟨z,hz,_,hl⟩ :=h.dom hc x hx
 have:=(h.kp.good.one z hz).litres
 omega
theorem EI (r a b : Int) (x y : Order) (hk : K x y) : aV r a b x=aV r a b y:=by
 unfold aV
 rw [hk.1,hk.2.1,hk.2.2]
theorem UV (x y : Order) (hk : K x y) : g0P x=g0P y:=by
 unfold g0P
 rw [hk.2.1,hk.2.2]
theorem Og {m : List Order} (hm : Good d m) (hl : Good d l) (h : ∀ x∈m,∃ z∈l,K z x∧x.litres≤z.litres) (hL : Lim d l) : Lim d m:=by
 have key : ∀ P : Order→Bool,(∀ x y,K x y→P x=P y)→aP P m≤aP P l:=fun P hP=>
  o4 hP m l hm.keys (fun x hx _=> h x hx) fun z hz=> by have:=(hl.one z hz).litres1;omega
 exact ⟨fun t i ht hi=> Int.le_trans (key _ (EI _ _ _)) (hL.cap t i ht hi),fun t i ht hi=> Int.le_trans (key _ (EI _ _ _)) (hL.bank t i ht hi),Int.le_trans (key _ UV) hL.tank⟩
theorem FT (h : Srv d c l) (hc : aS d c=0) :
  ((an d c).2.2=2∧(an d c).2.1=false)∨
  ((an d c).2.2=0∧(an d c).2.1=true∧∀ x∈(an d c).1,∃ z∈l,K z x∧x.litres≤z.litres) :=by
 have hA:=h.ask hc
 have hN:=hA.nar
 have ho:=hA.outs
 have hdom:=h.dom hc
 have hall : ∀ gs,PL d (aj c) gs→∀ x∈srt ax (aj c ++ gs),∃ z∈l,K z x∧x.litres≤z.litres:=fun gs hP x hx=> by
  rcases (JG hA).1 hx with hx | hx
  ·exact hdom x hx
  ·exact xC hN.good.right (vO hN.good ho.out hP.fin) hP.fin.gate hdom h.kp d.reaches.length x hx (by have:=(hP.fin.gate x hx).i0;omega)
 rcases Cg d c with ⟨q,_⟩ | ⟨_,e⟩ | ⟨_,⟨gs,r,t,hx⟩,_⟩ | ⟨_,gs,hP,hL,_⟩ | ⟨_,gs,hP,hL,e⟩
 ·exact absurd hA q
 ·left
  unfold an
  rw [e]
  exact ⟨rfl,rfl⟩
 ·exact (N9 hN.good ho.out hx hdom h.kp).elim
 ·exact absurd (Og hP.good h.kp.good (hall gs hP) h.lim) hL
 ·right
  have e1 : an d c=(srt ax (aj c ++ gs),true,0) :=by unfold an;rw [e];rfl
  rw [e1]
  exact ⟨rfl,rfl,hall gs hP⟩
end
end Go.Sx
end
section
namespace Go.Sx
open Go.Proofs
section
variable {d : District} {c : List Claim} {l : List Order}
theorem xP (r h : Int) : FH l r h=aP (aV r h h) l:=nv fun x _=> by
 unfold gP aV
 refine xH ?_
 simp only [Bool.and_eq_true,Bool.not_eq_true',beq_iff_eq,decide_eq_true_eq]
 constructor
 ·rintro ⟨⟨h1,h2⟩,h3⟩;exact ⟨⟨⟨h1,h2⟩,by omega⟩,by omega⟩
 ·rintro ⟨⟨⟨h1,h2⟩,h3⟩,h4⟩;exact ⟨⟨h1,h2⟩,by omega⟩
theorem Rb (hg : Good d l) : aP (aV (0 : Nat) 0 ((d.hours.toNat - 1 : Nat) : Int)) l=aP g0P l:=nv fun x hx=> by
 have h1:=hg.one x hx
 have h2:=h1.hour0
 have h3:=h1.hour
 unfold g0P aV
 refine xH ?_
 simp only [Bool.and_eq_true,Bool.not_eq_true',beq_iff_eq,decide_eq_true_eq]
 constructor
 ·rintro ⟨⟨⟨h1,h2⟩,h3⟩,h4⟩;exact ⟨h1,h2⟩
 ·rintro ⟨h1,h2⟩;exact ⟨⟨⟨h1,h2⟩,by omega⟩,by omega⟩
end
end Go.Sx
end
section
namespace Go.Proofs
open Go.Shelf
def Tryz.sortLc_ren : Go.Shelf.Ren:=⟨fun | 6=> 67 | 15=> 112 | 14=> 111 | 28=> 146 | 29=> 147 | 20=> 138 | 21=> 139 | 22=> 140 | 23=> 141 | 24=> 142 | 25=> 143 | 26=> 144 | 27=> 145 | 46=> 166 | 47=> 167 | 48=> 168 | 49=> 169 | 50=> 170 | 57=> 182 | n=> n,fun | 22=> 32 | 24=> 49 | 25=> 80 | 3=> 3 | 39=> 166 | 0=> 0 | 53=> 202 | 55=> 204 | 4=> 4 | 46=> 196 | 45=> 195 | 50=> 147 | 5=> 5 | 9=> 9 | 66=> 215 | 70=> 219 | 76=> 227 | 77=> 228 | n=> n,fun | n=> n⟩
theorem Tryz.sortLc : Go.Proofs.SlLaysF0.n6 Tryz.prog Tryz.sortLc_ren:= {
 mixed:=by kernel_rfl
 f6:=⟨Tryz.f67.name,by decide,Tryz.func67.trans (congrArg some (by kernel_rfl))⟩
 f14:=⟨Tryz.f111.name,by decide,Tryz.func111.trans (congrArg some (by kernel_rfl))⟩
 f15:=Tryz.func112.trans (congrArg some (by kernel_rfl))
 f20:=⟨Tryz.f138.name,by decide,Tryz.func138.trans (congrArg some (by kernel_rfl))⟩
 f21:=⟨Tryz.f139.name,by decide,Tryz.func139.trans (congrArg some (by kernel_rfl))⟩
 f22:=⟨Tryz.f140.name,by decide,Tryz.func140.trans (congrArg some (by kernel_rfl))⟩
 f23:=⟨Tryz.f141.name,by decide,Tryz.func141.trans (congrArg some (by kernel_rfl))⟩
 f24:=⟨Tryz.f142.name,by decide,Tryz.func142.trans (congrArg some (by kernel_rfl))⟩
 f25:=⟨Tryz.f143.name,by decide,Tryz.func143.trans (congrArg some (by kernel_rfl))⟩
 f26:=⟨Tryz.f144.name,by decide,Tryz.func144.trans (congrArg some (by kernel_rfl))⟩
 f27:=⟨Tryz.f145.name,by decide,Tryz.func145.trans (congrArg some (by kernel_rfl))⟩
 f28:=Tryz.func146.trans (congrArg some (by kernel_rfl))
 f29:=Tryz.func147.trans (congrArg some (by kernel_rfl))
 f46:=⟨Tryz.f166.name,by decide,Tryz.func166.trans (congrArg some (by kernel_rfl))⟩
 f47:=Tryz.func167.trans (congrArg some (by kernel_rfl))
 f48:=Tryz.func168.trans (congrArg some (by kernel_rfl))
 f49:=⟨Tryz.f169.name,by decide,Tryz.func169.trans (congrArg some (by kernel_rfl))⟩
 f50:=⟨Tryz.f170.name,by decide,Tryz.func170.trans (congrArg some (by kernel_rfl))⟩
 f57:=⟨Tryz.f182.name,by decide,Tryz.func182.trans (congrArg some (by kernel_rfl))⟩
 t0:=Tryz.underlying0
 a0:=Tryz.isAgg0
 z0:=Tryz.sizeOf0
 v0:=Tryz.zeroValue0
 t3:=Tryz.underlying3
 a3:=Tryz.isAgg3
 z3:=Tryz.sizeOf3
 v3:=Tryz.zeroValue3
 t4:=Tryz.underlying4
 a4:=Tryz.isAgg4
 z4:=Tryz.sizeOf4
 v4:=Tryz.zeroValue4
 t5:=Tryz.underlying5
 a5:=Tryz.isAgg5
 z5:=Tryz.sizeOf5
 v5:=Tryz.zeroValue5
 t9:=Tryz.underlying9
 a9:=Tryz.isAgg9
 z9:=Tryz.sizeOf9
 v9:=Tryz.zeroValue9
 t22:=Tryz.underlying32
 a22:=Tryz.isAgg32
 z22:=Tryz.sizeOf32
 v22:=Tryz.zeroValue32
 t25:=Tryz.underlying80
 a25:=Tryz.isAgg80
 z25:=Tryz.sizeOf80
 v25:=Tryz.zeroValue80
 t39:=Tryz.underlying166
 a39:=Tryz.isAgg166
 z39:=Tryz.sizeOf166
 v39:=Tryz.zeroValue166
 t45:=Tryz.underlying195
 a45:=Tryz.isAgg195
 z45:=Tryz.sizeOf195
 v45:=Tryz.zeroValue195
 t46:=Tryz.underlying196
 a46:=Tryz.isAgg196
 z46:=Tryz.sizeOf196
 v46:=Tryz.zeroValue196
 t50:=Tryz.underlying147
 a50:=Tryz.isAgg147
 z50:=Tryz.sizeOf147
 v50:=Tryz.zeroValue147
 t53:=Tryz.underlying202
 a53:=Tryz.isAgg202
 z53:=Tryz.sizeOf202
 v53:=Tryz.zeroValue202
 t55:=Tryz.underlying204
 a55:=Tryz.isAgg204
 z55:=Tryz.sizeOf204
 v55:=Tryz.zeroValue204
 t66:=Tryz.underlying215
 a66:=Tryz.isAgg215
 z66:=Tryz.sizeOf215
 v66:=Tryz.zeroValue215
 t70:=Tryz.underlying219
 a70:=Tryz.isAgg219
 z70:=Tryz.sizeOf219
 v70:=Tryz.zeroValue219
 t76:=Tryz.underlying227
 a76:=Tryz.isAgg227
 z76:=Tryz.sizeOf227
 v76:=Tryz.zeroValue227
 t77:=Tryz.underlying228
 a77:=Tryz.isAgg228
 z77:=Tryz.sizeOf228
 v77:=Tryz.zeroValue228}
end Go.Proofs
end
section
namespace Go.Sx
open Go.RowKit Go.Shelf Go.Lib Go.Sort Go.Proofs
set_option maxRecDepth 100000
noncomputable def fZ : List SV→List Ob→Option HCon:=fun l h=> orC (dU .claim 36 [] bp l h) (dU .claim 71 [] bj l h)
@[go_sem] theorem JH {l0 : List Claim} : fZ [.os 0,.fn 36 [] []] [.row .claim l0]=some (nq (apart bp l0) (.tup []) [.row .claim (srt bp l0)]) :=by
 unfold fZ
 rw [jD];rfl
@[go_sem] theorem F9 {l0 : List Claim} : fZ [.os 0,.fn 71 [] []] [.row .claim l0]=some (nq (apart bj l0) (.tup []) [.row .claim (srt bj l0)]) :=by
 unfold fZ
 rw [jD]
 have : dU .claim 36 [] bp [.os 0,.fn 71 [] []] [.row .claim l0]=none:=by simp [dU,vm]
 rw [this];rfl
theorem tB : vG .claim:=fun x s hs=> by
 simp only [cellsOf,List.mem_cons,List.not_mem_nil,or_false] at hs
 rcases hs with rfl | rfl | rfl | rfl | rfl
 all_goals exact ⟨_,rfl,rfl⟩
theorem v8 (x y : Claim) : g0 (.agg (cellsOf .claim x) :: .agg (cellsOf .claim y) :: [])=some (.det True (.v (.int .i64 (bp x y)))) :=by
 simp only [go_sem,Nat.reduceBEq]
theorem tC (x y : Claim) : iV (.agg (cellsOf .claim x) :: .agg (cellsOf .claim y) :: [])=some (.det True (.v (.int .i64 (bj x y)))) :=by
 simp only [go_sem,Nat.reduceBEq]
theorem r7 : FnOkO Tryz.prog 67 fZ:=by
 refine FnOkO.or ?_ ?_
 ·exact lV (k:= .claim) Tryz.sortLc (fun w=> by kernel_rfl) (fun w=> by kernel_rfl) tB (by decide) (g:=36) (caps:=[]) kv (cf:=bp) v8 vI (fun s hs=> by cases hs) ⟨default,default,v8 _ _⟩
 ·exact lV (k:= .claim) Tryz.sortLc (fun w=> by kernel_rfl) (fun w=> by kernel_rfl) tB (by decide) (g:=71) (caps:=[]) nz (cf:=bj) tC lW (fun s hs=> by cases hs) ⟨default,default,tC _ _⟩
end Go.Sx
end
section
namespace Go.Sx
open Go.Proofs
set_option maxRecDepth 100000
set_option linter.unusedSimpArgs false
theorem v_ {p : Prop} (h : p:=by (first | done | (repeat' (first | with_reducible refine And.intro ?_ ?_ | ((with_reducible show _≠_);first | assumption | omega | (simp_all [aD,aK];done) | grind) | with_reducible intro _)) <;> (first | done | exact Empty.elim ‹Empty› | assumption | rfl | omega | decide | exact fk [0] | (refine Or.inr ?_;exact fkY [0]) | (refine Or.inl ?_;exact fkY [0]) | (refine Or.inl ⟨rfl,?_⟩;exact fkY [0]) | (simp only [*,cond_true,cond_false,Bool.not_true,Bool.not_false,go_sem,Nat.reduceBEq,Nat.reduceLeDiff,Nat.reduceLT,decide_true,Nat.reduceAdd,Nat.reduceSub,Nat.reduceMul,Int.reduceLE,Int.reduceLT,Int.reduceToNat,Int.reduceNeg,reduceCtorEq];done) | (simp only [*,cond_true,cond_false,Bool.not_true,Bool.not_false,go_sem,Nat.reduceBEq,Nat.reduceLeDiff,Nat.reduceLT,decide_true,Nat.reduceAdd,Nat.reduceSub,Nat.reduceMul,Int.reduceLE,Int.reduceLT,Int.reduceToNat,Int.reduceNeg,reduceCtorEq];(repeat' (first | with_reducible refine And.intro ?_ ?_ | ((with_reducible show _≠_);first | assumption | omega | (simp_all [aD,aK];done) | grind) | with_reducible intro _)) <;> (first | done | assumption | rfl | omega | decide | exact fk [0] | (refine Or.inr ?_;exact fkY [0]) | (refine Or.inl ?_;exact fkY [0]) | (refine Or.inl ⟨rfl,?_⟩;exact fkY [0]) | (simp_all [aD,aK];done))) | (exfalso;rename_i h1 h2;rw [h1] at h2;cases h2) | (exfalso;rename_i h1 h2;simp only [h1,Bool.not_false,Bool.not_true,Bool.true_or,Bool.or_true,Bool.false_or,Bool.or_false,reduceCtorEq] at h2;done) | (exfalso;clear hy hG;simp_all;done) | (simp only [*,Sum.inr.injEq,forall_eq',true_implies,forall_const,reduceCtorEq,false_implies,and_true,List.length_append,List.length_cons,List.length_nil,Nat.zero_add,go_sem,Nat.reduceBEq,Nat.reduceLeDiff,Nat.reduceLT,decide_true,Nat.reduceAdd,Nat.reduceSub,Nat.reduceMul,Int.reduceLE,Int.reduceLT,Int.reduceToNat,Int.reduceNeg,reduceCtorEq] at hq2;first | exact hq2.1 | exact hq2.2.1 | exact hq2 | exact hq2.2 | (simp only [hq2];done)) | (simp only [*,Sum.inr.injEq,forall_eq',true_implies,forall_const,reduceCtorEq,false_implies,and_true,List.length_append,List.length_cons,List.length_nil,Nat.zero_add,go_sem,Nat.reduceBEq,Nat.reduceLeDiff,Nat.reduceLT,decide_true,Nat.reduceAdd,Nat.reduceSub,Nat.reduceMul,Int.reduceLE,Int.reduceLT,Int.reduceToNat,Int.reduceNeg,reduceCtorEq] at hq1;first | exact hq1.1 | exact hq1.2.1 | exact hq1 | exact hq1.2 | (simp only [hq1];done)) | (clear hy hG;simp_all only [aD,aK,Sum.inr.injEq,forall_eq',true_implies,forall_const,reduceCtorEq,false_implies,and_true,List.length_append,List.length_cons,List.length_nil,Nat.zero_add,go_sem,Nat.reduceBEq,Nat.reduceLeDiff,Nat.reduceLT,decide_true,Nat.reduceAdd,Nat.reduceSub,Nat.reduceMul,Int.reduceLE,Int.reduceLT,Int.reduceToNat,Int.reduceNeg,reduceCtorEq];done) | (simp_all [okI,aD,aK];done) | (simp_all [aD,aK];(first | done | exact fk2 [0])) | exact fk2 [0]))) : p:=h
theorem JI {p : Prop} (h : p:=by simp only [go_sem,Nat.reduceBEq,Nat.reduceLeDiff,Nat.reduceLT,decide_true,Nat.reduceAdd,Nat.reduceSub,Nat.reduceMul,Int.reduceLE,Int.reduceLT,Int.reduceToNat,Int.reduceNeg,reduceCtorEq,hc,hw];all_goals exact v_) : p:=h
theorem JJ {p : Prop} (h : p:=by simp only [go_sem,Nat.reduceBEq,Nat.reduceLeDiff,Nat.reduceLT,decide_true,Nat.reduceAdd,Nat.reduceSub,Nat.reduceMul,Int.reduceLE,Int.reduceLT,Int.reduceToNat,Int.reduceNeg,reduceCtorEq,hc];all_goals exact v_) : p:=h
@[go_sem] def wa (x : Claim) : List SV:=[.agg (cellsOf .claim x)]
@[go_sem] def cG : List SV→Option Con:=(pR .claim fun s_=> (pE (.det True (.fn 68 [] [.ep [.rs .claim s_] 0]))))
theorem dV : FnOk Tryz.prog 35 cG:=by
 have hG : ConsOk Tryz.prog (mkG [] []) :=aQ cg0 cg0
 refine a_ [.o] mixed aF hG (fn:=Tryz.f35) (c:=ag Tryz.f35) (by kernel_rfl) (by kernel_rfl) (by kernel_rfl) (by kernel_rfl) (cL fun s_=> (aM (fun hp=> ?_)))
 refine ⟨Nat.le_of_ble_eq_true rfl,L0,av _,?_⟩
 unfold ag Tryz.f35
 simp only [go_sem,rO,rP,Nat.reduceBEq,Nat.reduceLeDiff,Nat.reduceAdd,Nat.reduceSub,Nat.reduceMul]
@[go_sem] def bu (s_ : List Claim) (k_0 : Nat) (s_0 : List Claim) : Empty⊕(List Claim) := .inr (s_0 ++ [(s_.getD k_0 (default : Claim))])
def bM (s_ : List Claim) (items_ : List (List SV)) (k_0 : Nat) (s_0 : List Claim) : Prop:=(items_[s_0.length]? =some (wa (s_.getD k_0 (default : Claim))))
def dO (s_ : List Claim) (items_ : List (List SV)) : Prop:=(s_.length≤bv→(okI (bu s_) (bM s_ items_) s_.length 0 ([] : List Claim)∧(∀ s_0,aw (bu s_) s_.length 0 ([] : List Claim)= .inr s_0→(items_.length=s_0.length))))
set_option maxHeartbeats 4000000 in
theorem f0 (s_ : List Claim) (items_ : List (List SV)) (hp : dO s_ items_) : wy Tryz.prog 68 (fun y=> [y,.ep [.rs .claim s_] 0]) [] items_:=by
 unfold dO at hp
 refine B8 mixed aF (fn:=Tryz.f68) (c:=ag Tryz.f68) (by kernel_rfl) (by kernel_rfl) (by kernel_rfl) (by kernel_rfl) rfl (n:=0) rfl (G:=fun r_=> tM [] [] (Ap items_ r_)) (fun r_ hy=> ?_) (fun args w=> by kernel_rfl)
 have hG : ConsOk Tryz.prog (tM [] [] (Ap items_ r_)) :=rq cg0 cg0 hy
 refine ⟨hG,Nat.le_of_ble_eq_true rfl,(fun id st=> bif Nat.beq id 0 then some (LCY (ρ:=Empty) (σ:=(List Claim)) 1 [] [0] (fun k_0 s_0=> ⟨[(0,.os 0),(5,.rs .claim s_),(6,.v (.int .i64 (s_.length : Int))),(7,.v (.int .i64 (k_0 : Int)))],[.ab (r_.1 (s_0.length + 1))]⟩) (bu s_) (bM s_ items_) s_.length ([] : List Claim) (s_.length≤bv) ((·.elim)) ((·.elim)) ⟨[],[.ab (r_.1 0)]⟩ st) else none),?_,?_⟩
 ·unfold ag Tryz.f68
  simp only [az,true_and,and_true]
  ·refine rN mixed aF hG (by kernel_rfl) (fun _=> rfl) (s_.length : Int) rfl j7 (fun hb0 k_0 s_0 hlt0 hq0 hw hc=> ⟨L0,av _,?_⟩) (fun hb0 s_0 hc=> ?_)
   ·unfold bM at hq0
    try simp only [hw,Int.toNat_natCast] at hq0
    exact JI
   ·exact JJ
 ·unfold ag Tryz.f68
  simp only [go_sem,Nat.reduceBEq,Nat.reduceLeDiff,Nat.reduceLT,decide_true,Nat.reduceAdd,Nat.reduceSub,Nat.reduceMul,Int.reduceLE,Int.reduceLT,Int.reduceToNat,Int.reduceNeg,reduceCtorEq]
  all_goals exact v_
end Go.Sx
end
section
namespace Go.Sx
open Go.Proofs
set_option maxRecDepth 100000
noncomputable def gD : List SV→Option Con:=pQ (.v (.slice none 0 0)) (pFn 68 (pXR .claim fun c=> pE fun l=> (pE (.det (c.length * 40≤fN) (.nw .claim c))) l))
def nD : List Claim→List Ob
 | [] => [.cells [.v (.slice none 0 0)]]
 | x :: l=> [.cells [.os 1],.row .claim (x :: l)]
def tD (x : Claim) (l : List Claim) : Empty⊕List Claim:= .inr (l ++ [x])
theorem wb : ∀ (l m : List Claim),bK tD l m= .inr (m ++ l)
 | [],m=> by simp [bK]
 | x :: l,m=> by simp only [bK,tD];rw [wb l];simp
theorem xQ {B : Nat} : ∀ (l m : List Claim),m.length + l.length≤B→okL tD (fun _ s=> s.length + 1≤B) l m
 | [],_,_=> trivial
 | x :: l,m,h=> ⟨by simp at h;omega,fun s' hs=> by
  simp only [tD,Sum.inr.injEq] at hs
  subst hs
  exact xQ l _ (by simp at h ⊢;omega)⟩
theorem FU (c : List Claim) : wy Tryz.prog 68 (fun y=> [y,.ep [.rs .claim c] 0]) [] (c.map wa) :=by
 refine f0 c _ fun _=> ⟨?_,fun s hs=> ?_⟩
 ·refine kF (fun k (s : List Claim) => s.length=k) _ _ _ rfl fun j s _ hj hs=> ⟨?_,fun s' e=> ?_⟩
  ·unfold bM
   rw [hs,List.getElem?_map,List.getElem?_eq_getElem (by omega),List.getD_eq_getElem?_getD,List.getElem?_eq_getElem (by omega)]
   rfl
  ·unfold bu at e
   cases e
   rw [List.length_append,hs];rfl
 ·have:=vh (fun k (s : List Claim) => s.length=k) c.length 0 [] (by rfl) (fun j s _ _ hs s' e=> by
   unfold bu at e
   cases e
   rw [List.length_append,hs];rfl) s hs
  rw [List.length_map,this,Nat.zero_add]
set_option maxHeartbeats 1000000 in
theorem pa : FnOk Tryz.prog 110 gD:=by
 have hG : ConsOk Tryz.prog (mkG [] []) :=aQ cg0 cg0
 refine yI [(.tmp 4,.claim)] mixed aF hG (fn:=Tryz.f110) (c:=ag Tryz.f110) (by kernel_rfl) (by kernel_rfl) (by kernel_rfl) (by kernel_rfl) (Q3 (iu (ru fun c=> (aM (aM (fun hp=> ?_))))))
 dsimp only [aW] at hp
 refine ⟨Nat.le_of_ble_eq_true rfl,fun id st=> bif Nat.beq id 0 then some (LC (ρ:=Empty) (σ:=List Claim) (lk 2 st.t= .ptr 0 0∧lk 6 st.t= .fn 68 [] [.ep [.rs .claim c] 0]∧st.h=[.cells [.v (.slice none 0 0)]]) (bK tD c []) (·.elim) (·.elim) (fun s=> ⟨[(2,.ptr 0 0)],nD s⟩)) else none,?_,?_⟩
 ·unfold ag Tryz.f110
  simp only [az,true_and,and_true]
  refine mK mixed aF hG (by decide) (by decide) (by kernel_rfl) (by kernel_rfl) fun st lc hC hp=> ?_
  simp only [go_sem,Nat.reduceBEq,Option.some.injEq] at hC
  subst hC
  obtain ⟨t,h⟩ :=st
  dsimp only [LC] at hp
  obtain ⟨e2,e6,rfl⟩ :=hp
  refine ⟨68,[.ep [.rs .claim c] 0],Claim,_,_,c,wa,tD,fun _ s=> s.length + 1≤c.length,_,[],_,_,_,[(2,.ptr 0 0)],nD,(·.elim),[0],?_,rfl,xQ _ _ (by simp),Nat.le_of_ble_eq_true rfl,?_,?_,fun x s hq=> ⟨rfl,L0,fun l=> av _,fun l=> av _,?_⟩,fun s=> ?_,fun y=> y.elim⟩
  ·simp only [go_sem,e6]
  ·simp only [go_sem,nH,iq,List.flatMap_cons,List.flatMap_nil,List.nil_append,List.append_nil,List.map_nil,nD,e2,Nat.reduceBEq,Nat.reduceLeDiff,Nat.reduceAdd]
   all_goals (first | done | decide | (repeat' (first | refine And.intro ?_ ?_ | rfl | decide)))
  ·exact FU c
  ·have hb : (s ++ [x]).length * 40≤fN:=by simp;omega
   cases s with
   | nil=>
    simp only [go_sem,psT,wa,nD,tD,List.cons_append,List.nil_append,Nat.reduceBEq,Nat.reduceLeDiff,Nat.reduceAdd,Nat.reduceSub,Nat.reduceMul]
    exact ⟨by simpa using hb,fun _=> fk [0,3]⟩
   | cons a m=>
    simp only [go_sem,psT,wa,nD,tD,List.cons_append,List.nil_append,Nat.reduceBEq,Nat.reduceLeDiff,Nat.reduceAdd,Nat.reduceSub,Nat.reduceMul]
    exact ⟨by simpa using hb,fun _=> fk [0,4]⟩
  ·cases s with
   | nil=> simp only [nD];exact fk [0]
   | cons a m=> simp only [nD];exact fk [0,1]
 ·unfold ag Tryz.f110
  simp only [go_sem,Nat.reduceBEq,Nat.reduceLeDiff,Nat.reduceAdd,Nat.reduceSub,Nat.reduceMul,wb,List.nil_append]
  refine ⟨fun y=> y.elim,fun s hs=> ?_⟩
  cases hs
  cases c with
  | nil=> simp only [go_sem,nD,Nat.reduceLT,decide_true,Nat.reduceBEq,Nat.reduceLeDiff,Nat.reduceAdd,Nat.reduceSub,Nat.reduceMul]
  | cons x l=> simp only [go_sem,nD,Nat.reduceLT,decide_true,Nat.reduceBEq,Nat.reduceLeDiff,Nat.reduceAdd,Nat.reduceSub,Nat.reduceMul]
attribute [go_sem] gD
end Go.Sx
end
section
namespace Go.Sx
open Go.Proofs
set_option maxRecDepth 100000
set_option linter.unusedSimpArgs false
def cd (c : List Claim) : List Claim:=c
def b4 (c : List Claim) : Prop:=(c.length * 40≤fN)
@[go_sem] noncomputable def d7 : List SV→Option Con:=(pFn 68 (pXR .claim fun c=> (pE ((pE (.det (b4 c) (.nw .claim (cd c))))))))
theorem fM : FnOk Tryz.prog 66 d7:=by
 have hG : ConsOk Tryz.prog (mkG [(110,gD)] []) :=aQ (cgc pa cg0) cg0
 refine qw true mixed aF hG (fn:=Tryz.f66) (c:=ag Tryz.f66) (by kernel_rfl) (by kernel_rfl) (by kernel_rfl) (by kernel_rfl) (iu (ru fun c=> (aM ((aM (fun hp=> ?_))))))
 dsimp only [aW] at hp
 unfold b4 at hp
 refine ⟨Nat.le_of_ble_eq_true rfl,L0,av _,?_⟩
 ·unfold ag Tryz.f66
  try unfold cd
  simp only [go_sem,Nat.reduceBEq,Nat.reduceLeDiff,Nat.reduceLT,decide_true,Nat.reduceAdd,Nat.reduceSub,Nat.reduceMul,Int.reduceLE,Int.reduceLT,Int.reduceToNat,Int.reduceNeg,reduceCtorEq]
  all_goals exact cl
end Go.Sx
end
section
namespace Go.Sx
open Go.Proofs
set_option maxRecDepth 100000
set_option linter.unusedSimpArgs false
def ak (c : List Claim) : List Claim:=(srt bp (cd c))
def dG (c : List Claim) : Prop:=((b4 c)∧(apart bp (cd c)))
@[go_sem] noncomputable def eW : List SV→Option Con:=(pFn 68 (pXR .claim fun c=> (pE ((pFn 36 (pE ((pE (.det (dG c) (.nw .claim (ak c)))))))))))
theorem jm : FnOk Tryz.prog 34 eW:=by
 have hG : ConsOk Tryz.prog (mkG [(66,d7)] [(67,fZ)]) :=aQ (cgc fM cg0) (cgc r7 cg0)
 refine qw true mixed aF hG (fn:=Tryz.f34) (c:=ag Tryz.f34) (by kernel_rfl) (by kernel_rfl) (by kernel_rfl) (by kernel_rfl) (iu (ru fun c=> (aM ((iu (aM ((aM (fun hp=> ?_)))))))))
 dsimp only [aW] at hp
 unfold dG at hp
 refine ⟨Nat.le_of_ble_eq_true rfl,L0,av _,?_⟩
 ·unfold ag Tryz.f34
  try unfold ak
  simp only [go_sem,Nat.reduceBEq,Nat.reduceLeDiff,Nat.reduceLT,decide_true,Nat.reduceAdd,Nat.reduceSub,Nat.reduceMul,Int.reduceLE,Int.reduceLT,Int.reduceToNat,Int.reduceNeg,reduceCtorEq]
  all_goals exact cl
def dH (c : List Claim) : List Claim:=(srt bj (cd c))
def dn (c : List Claim) : Prop:=((b4 c)∧(apart bj (cd c)))
@[go_sem] noncomputable def eG : List SV→Option Con:=(pFn 68 (pXR .claim fun c=> (pE ((pFn 71 (pE ((pE (.det (dn c) (.nw .claim (dH c)))))))))))
theorem iN : FnOk Tryz.prog 34 eG:=by
 have hG : ConsOk Tryz.prog (mkG [(66,d7)] [(67,fZ)]) :=aQ (cgc fM cg0) (cgc r7 cg0)
 refine qw true mixed aF hG (fn:=Tryz.f34) (c:=ag Tryz.f34) (by kernel_rfl) (by kernel_rfl) (by kernel_rfl) (by kernel_rfl) (iu (ru fun c=> (aM ((iu (aM ((aM (fun hp=> ?_)))))))))
 dsimp only [aW] at hp
 unfold dn at hp
 refine ⟨Nat.le_of_ble_eq_true rfl,L0,av _,?_⟩
 ·unfold ag Tryz.f34
  try unfold dH
  simp only [go_sem,Nat.reduceBEq,Nat.reduceLeDiff,Nat.reduceLT,decide_true,Nat.reduceAdd,Nat.reduceSub,Nat.reduceMul,Int.reduceLE,Int.reduceLT,Int.reduceToNat,Int.reduceNeg,reduceCtorEq]
  all_goals exact cl
noncomputable def b5 : List SV→Option Con:=fun l=> orC (eW l) (eG l)
theorem eH : FnOk Tryz.prog 34 b5:=FnOk.or jm iN
end Go.Sx
end
section
namespace Go.Sx
open Go.RowKit
def FV (n0 id : Nat) : Ob→SV
 | .row k l=> bif Nat.ble n0 id then .rs k l else .any
 | _=> .any
def isV : SV→Bool
 | .v _=> true
 | _=> false
def s7 (n0 : Nat) (h : List Ob) : SV→SV
 | .v x=> .v x
 | .rs k l=> .rs k l
 | .agg l=> bif l.all isV then .agg l else .any
 | .os id=> FV n0 id (ap h id)
 | _=> .any
def wH (n0 : Nat) (h : List Ob) : SV→SV
 | .tup l=> .tup (l.map (s7 n0 h))
 | s=> s7 n0 h s
def AN (n0 : Nat) (own : Own) : Own:=fun i=> if i < n0 then own i else none
section
variable {F : Nat→Prop} {own : Own} {w : World} {n0 : Nat} {h : List Ob}
theorem r8 {b : Nat} (hb : ¬ bB F own b) : ¬ bB F (AN n0 own) b:=by
 rintro (hf | ⟨id,hd,e,hm⟩)
 ·exact hb (.inl hf)
 ·unfold AN at e
  split at e
  ·exact hb (.inr ⟨id,hd,e,hm⟩)
  ·cases e
theorem AO (hp : Hp F own w h) : ∀ (s : SV) (v : Value),Rel F own w s v→Rel F (AN n0 own) w (s7 n0 h s) v:=by
 intro s v hr
 cases s with
 | v x=> exact hr.over (.v x) fun b hb=> r8 hb
 | rs k l=> exact hr.over .rs fun b hb=> r8 hb
 | agg l=>
  simp only [s7]
  cases ha : l.all isV with
  | false=> exact .any _
  | true=>
   refine hr.over (.agg fun j s hj=> ?_) fun b hb=> r8 hb
   have:=List.all_eq_true.1 ha s (List.mem_of_getElem? hj)
   cases s <;> first | exact .v _ | cases this
 | os id=>
  obtain ⟨hd,h1,rfl,h2⟩ :=gx hr
  simp only [s7]
  cases ho : ap h id with
  | row k l=>
   simp only [FV]
   cases hn : Nat.ble n0 id with
   | false=> exact .any _
   | true=>
    have hn':=Nat.le_of_ble_eq_true hn
    obtain ⟨hd',e0,e⟩ :=hp.at ho rfl
    rw [h1] at e0;cases e0
    have hnb : ∀ b∈hd.bs,¬ bB F (AN n0 own) b:=by
     rintro b hb (hf | ⟨i,hi,e1,e2⟩)
     ·exact hp.apart id hd b h1 hb hf
     ·unfold AN at e1
      split at e1
      ·rename_i hlt
       have:=hp.inj id i hd hi b h1 e1 hb e2
       omega
      ·cases e1
    rcases e with ⟨a,e1,rfl,_⟩ | ⟨b,o,cap,cs,ty,e1,e2,h3,h4,h5,h6,h7⟩
    ·rw [e1];exact .rs0
    ·rw [e1]
     refine .rs (fun i j=> cs.getD (o + i * aa k + j) undef) h5 h6 (fun i x hi j s hj=> ?_) (fun i x hi j s hj=> ?_)
     ·obtain ⟨u,k1,k2⟩ :=h7 i x hi j s hj
      refine ⟨hnb b (by simp [e2]),?_⟩
      rw [cI h3,k1]
      simp [Array.getD_eq_getD_getElem?,k1]
     ·obtain ⟨u,k1,k2⟩ :=h7 i x hi j s hj
      have : cs.getD (o + i * aa k + j) undef=u:=by simp [Array.getD_eq_getD_getElem?,k1]
      rw [this]
      exact k2.over (kZ hj) fun b hb=> r8 hb
  | _=> exact .any _
 | _=> exact .any _
theorem JK (hp : Hp F own w h) (s : SV) (v : Value) (hr : Rel F own w s v) : Rel F (AN n0 own) w (wH n0 h s) v:=by
 cases s with
 | tup l=>
  cases hr with
  | tup h0 h1=>
   refine .tup (by simpa using h0) fun j s hj=> ?_
   obtain ⟨x,hx,rfl⟩ :=bQ hj
   exact AO hp x _ (h1 j x hx)
 | _=> exact AO hp _ _ hr
theorem EJ (s : SV) : PF (s7 n0 h s) :=by
 cases s with
 | agg l=>
  simp only [s7]
  cases ha : l.all isV with
  | false=> exact .any
  | true=>
   refine .agg fun j s hj=> ?_
   have:=List.all_eq_true.1 ha s (List.mem_of_getElem? hj)
   cases s <;> first | exact .v _ | cases this
 | os id=>
  simp only [s7]
  cases ap h id with
  | row k l=> simp only [FV];cases Nat.ble n0 id <;> first | exact .any | exact .rs
  | _=> exact .any
 | v x=> exact .v x
 | rs k l=> exact .rs
 | _=> exact .any
theorem Oh (s : SV) : PF (wH n0 h s) :=by
 cases s
 case tup l=> exact .tup fun j s hj=> by obtain ⟨x,hx,rfl⟩ :=bQ hj;exact EJ x
 all_goals (unfold wH;exact EJ _)
@[go_sem] theorem UW {l : List SV} : wH n0 h (.tup l)= .tup (l.map (s7 n0 h)) :=(rfl)
@[go_sem] theorem Wl {id : Nat} : wH n0 h (.os id)=FV n0 id (ap h id) :=(rfl)
@[go_sem] theorem Yh {x : Value} : wH n0 h (.v x)= .v x:=(rfl)
@[go_sem] theorem Wm {k : Tag} {l : List k.T} : wH n0 h (.rs k l)= .rs k l:=(rfl)
@[go_sem] theorem UX {l : List SV} : wH n0 h (.agg l)=bif l.all isV then .agg l else .any:=(rfl)
@[go_sem] theorem Yi {x : Value} : s7 n0 h (.v x)= .v x:=(rfl)
@[go_sem] theorem Wn {k : Tag} {l : List k.T} : s7 n0 h (.rs k l)= .rs k l:=(rfl)
@[go_sem] theorem UY {l : List SV} : s7 n0 h (.agg l)=bif l.all isV then .agg l else .any:=(rfl)
@[go_sem] theorem Wo {id : Nat} : s7 n0 h (.os id)=FV n0 id (ap h id) :=(rfl)
@[go_sem] theorem UZ {k : Tag} {l : List k.T} {id : Nat} : FV n0 id (.row k l)=bif Nat.ble n0 id then .rs k l else .any:=(rfl)
@[go_sem] theorem isV_v {x : Value} : isV (.v x)=true:=(rfl)
end
def FW (pks : List Pk) (n0 : Nat) (S : SV) (H : List Ob) (h : List Ob) : Option SV→Prop
 | some s=> S=pH pks (wH n0 h s)∧eU ⟨[],H⟩ n0 ⟨[],h⟩
 | none=> False
def JL (pks : List Pk) (n0 : Nat) (rs : List ResultVar) (ts : Tis) (S : SV) (H : List Ob) : Ex→St→Prop
 | .exit _,_=> False
 | .normal,st=> FW pks n0 S H st.h (iQ (gW ts st rs))
 | .ret,st=> FW pks n0 S H st.h (iQ (gW ts st rs))
 | .pan _,_=> False
section
variable {P : Program} {ts : Tis} {G : Cons} {n0 : Nat} {S s : SV} {H h : List Ob} {rs : List ResultVar} {st : St} {pks : List Pk}
@[go_sem] theorem Te : FW pks n0 S H h (some s)=(S=pH pks (wH n0 h s)∧eU ⟨[],H⟩ n0 ⟨[],h⟩) :=(rfl)
@[go_sem] theorem Oi : JL pks n0 rs ts S H .normal st=FW pks n0 S H st.h (iQ (gW ts st rs)) :=(rfl)
@[go_sem] theorem Tf : JL pks n0 rs ts S H .ret st=FW pks n0 S H st.h (iQ (gW ts st rs)) :=(rfl)
theorem JM {js : List Nat} {own : Own} {F : Nat→Prop} {b : Nat} (hk : qn 0 js n0=true) (hl : H.length=n0) (hb : ¬ bB F (AN n0 own) b) : ¬ bB F (dR js H own) b:=by
 rintro (hf | ⟨k,hd,e,hm⟩)
 ·exact hb (.inl hf)
 ·obtain ⟨h1,j,hd0,e1,e2,_,e4⟩ :=dY e
  obtain ⟨_,rfl⟩ :=e4 b hm
  have hj:=qv js 0 n0 hk k j e1 (by omega)
  have hjk : j=k:=by omega
  subst hjk
  refine hb (.inr ⟨j,hd,?_,hm⟩)
  unfold AN
  rw [if_pos (by omega)]
  exact e2
theorem wc (pks : List Pk) (hm : P.follows .mixedOrders=true) (hts : ts.ok P) (hG : ConsOk P G) {f : FuncId} {fn : Func} {c : Code} (hf : P.funcs[f]? =some fn) (hb : fn.body=some c) (hname : (fn.name== "runtime.NumGoroutine")=false)
  (hc : bR fn.ntmps c=true) {C : List SV→List Ob→Option HCon}
  (h : ∀ l o con,C l o=some con→∃ p S H,con=nq p S H∧H.length=o.length∧(p→l.length≤fn.ntmps∧∃ L,az P none fn.ntmps L c∧exec ts G L c ⟨g7 0 l,o⟩ (JL pks o.length fn.results.toList ts S H))) : FnOkO P f C:=by
 refine ⟨fun l o con _ args w=> ?_,fun l o con hcon hpre F own w vs hp hvs=> ?_⟩
 ·have hn : ¬ fn.name= "runtime.NumGoroutine" :=by simpa using hname
  simp [callFunc,hf,hn,hb]
 ·obtain ⟨p,S,H,rfl,hH,h2⟩ :=h l o con hcon
  obtain ⟨hlen,L,hl,hx⟩ :=h2 hpre
  have hn0 : ∀ id hd,own id=some hd→id < o.length:=fun id hd e=> hp.dom id hd e
  refine ja (n:=0) (callsIn_of_wp_marks hf hb trivial ?_)
  have hr : StRel F { w:=w,own:=own} fn.ntmps own ⟨g7 0 l,o⟩ { tmps:=vs ++ Array.replicate (fn.ntmps - vs.size) undef,defers:=[]} w:=
   ⟨by have:=hvs.1;simp;omega,Dfr.nil,hp,Fr.refl { w:=w,own:=own},fun t=> hY hvs _ t⟩
  refine wpIn_mono (jy hm hts hG c hc hl F _ _ hx own _ w hr) ?_
  intro e a' w' hq
  have key : ∀ F1 own' st,(∀ b,F b→F1 b)→StRel F1 { w:=w,own:=own} fn.ntmps own' st a' w'→FW pks o.length S H st.h (iQ (gW ts st fn.results.toList))→LeavesInM (rd none) 0 P fn a'.tmps (fun e w'=> ∃ r own',(nq p S H).post r∧By F w own o.length e own' w' ((nq p S H).res r)) a'.defers .returning w':=by
   intro F1 own' st hF1 hst hdone
   refine fT hst (by simp) fun w2 hst2=> ?_
   have hst3:=hst2.less hF1 rfl
   cases hs : iQ (gW ts st fn.results.toList) with
   | none=> rw [hs] at hdone;exact hdone.elim
   | some s=>
    rw [hs] at hdone
    obtain ⟨hS,js,q3,q4⟩ :=hdone
    obtain ⟨u,e1,e2⟩ :=pu (P:=P) hts hst3 hs
    obtain ⟨k1,k2,_,_⟩ :=u6 q4 hst3.hp hst3.fr hn0 q3
    refine ⟨u,e1,(),dR js H own',trivial,⟨u,rfl,?_⟩,k1,k2,q3⟩
    subst hS
    exact vj ((JK hst3.hp s u e2).over (Oh s) fun b hb=> JM q4.1.2.1 hH hb)
  cases e with
  | normal=> obtain ⟨F1,own',st,h0,h1,h2⟩ :=hq;exact key F1 own' st h0 h1 h2
  | ret=> obtain ⟨F1,own',st,h0,h1,h2⟩ :=hq;exact key F1 own' st h0 h1 h2
  | exit id=> obtain ⟨F1,own',st,h0,h1,h2⟩ :=hq;exact h2.elim
  | panic ch=> obtain ⟨x,F1,own',st,h0,h1,h2,rfl⟩ :=hq;exact h2.elim
  | _=> exact hq.elim
end
end Go.Sx
end
section
namespace Go.Sx
open Go.Proofs
set_option maxRecDepth 100000
set_option linter.unusedSimpArgs false
theorem JN {p : Prop} (h : p:=by (first | done | (repeat' (first | with_reducible refine And.intro ?_ ?_ | ((with_reducible show _≠_);first | assumption | omega | (simp_all [aD,aK];done) | grind) | with_reducible intro _)) <;> (first | done | exact Empty.elim ‹Empty› | assumption | rfl | omega | decide | exact fk [0] | (simp only [*,cond_true,cond_false,Bool.not_true,Bool.not_false,go_sem,Nat.reduceBEq,Nat.reduceLeDiff,Nat.reduceLT,decide_true,Nat.reduceAdd,Nat.reduceSub,Nat.reduceMul,Int.reduceLE,Int.reduceLT,Int.reduceToNat,Int.reduceNeg,reduceCtorEq];done) | (simp only [*,cond_true,cond_false,Bool.not_true,Bool.not_false,go_sem,Nat.reduceBEq,Nat.reduceLeDiff,Nat.reduceLT,decide_true,Nat.reduceAdd,Nat.reduceSub,Nat.reduceMul,Int.reduceLE,Int.reduceLT,Int.reduceToNat,Int.reduceNeg,reduceCtorEq];(repeat' (first | with_reducible refine And.intro ?_ ?_ | ((with_reducible show _≠_);first | assumption | omega | (simp_all [aD,aK];done) | grind) | with_reducible intro _)) <;> (first | done | assumption | rfl | omega | decide | exact fk [0] | (simp_all [aD,aK];done))) | (simp_all [okI,aD,aK];done) | (simp_all [aD,aK];(first | done | exact fk2 [0])) | exact fk2 [0]))) : p:=h
@[go_sem] noncomputable def gE : List SV→List Ob→Option HCon:=fun l h=> vm .claim (fun c=> (pD .district fun d=> ((pQ (.os 0) (pE (nq (da d c) (.tup [.rs .order ((ae d c).1),.v (.int .i64 ((ae d c).2))]) [.row .claim c]))))) l) h
set_option maxHeartbeats 4000000 in
theorem pb : FnOkO Tryz.prog 33 gE:=by
 have hG : ConsOk Tryz.prog (mkG [(24,fun l=> iD (cK [.st .district,.sl .claim] l)),(63,fun l=> gC (cK [.sl .claim] l)),(64,fun l=> ca (cK [.sl .order,.o] l))] []) :=aQ (cgc (kc.norm [.st .district,.sl .claim]) (cgc (jW.norm [.sl .claim]) (cgc (c9.norm [.sl .order,.o]) cg0))) cg0
 refine wc [.sl .order,.o] mixed aF hG (fn:=Tryz.f33) (c:=ag Tryz.f33) (by kernel_rfl) (by kernel_rfl) (by kernel_rfl) (by kernel_rfl) fun l o con h=> ?_
 unfold gE at h
 obtain ⟨c,rfl,h⟩ :=rv h
 obtain ⟨d,r0,rfl,h0⟩ :=sJ h
 obtain ⟨r1,rfl,h1⟩ :=yB h0
 obtain ⟨rfl,rfl⟩ :=qx h1
 clear h h0 h1
 refine ⟨_,_,_,rfl,rfl,fun hp=> ?_⟩
 unfold da at hp
 refine ⟨Nat.le_of_ble_eq_true rfl,L0,?_,?_⟩
 ·unfold ag Tryz.f33
  simp only [az,and_self,true_and,and_true]
 ·unfold ag Tryz.f33
  try unfold ae
  simp only [go_sem,Nat.reduceBEq,Nat.reduceLeDiff,Nat.reduceLT,decide_true,Nat.reduceAdd,Nat.reduceSub,Nat.reduceMul,Int.reduceLE,Int.reduceLT,Int.reduceToNat,Int.reduceNeg,reduceCtorEq]
  all_goals exact JN
end Go.Sx
end
section
namespace Go.Sx
open Go.Proofs
set_option maxRecDepth 100000
set_option linter.unusedSimpArgs false
theorem wd {p : Prop} (h : p:=by (first | done | (repeat' (first | with_reducible refine And.intro ?_ ?_ | ((with_reducible show _≠_);first | assumption | omega | (simp_all [aD,aK];done) | grind) | with_reducible intro _)) <;> (first | done | exact Empty.elim ‹Empty› | assumption | rfl | omega | decide | exact fk [0,1,2,3,4] | (simp only [*,cond_true,cond_false,Bool.not_true,Bool.not_false,go_sem,Nat.reduceBEq,Nat.reduceLeDiff,Nat.reduceLT,decide_true,Nat.reduceAdd,Nat.reduceSub,Nat.reduceMul,Int.reduceLE,Int.reduceLT,Int.reduceToNat,Int.reduceNeg,reduceCtorEq];done) | (simp only [*,cond_true,cond_false,Bool.not_true,Bool.not_false,go_sem,Nat.reduceBEq,Nat.reduceLeDiff,Nat.reduceLT,decide_true,Nat.reduceAdd,Nat.reduceSub,Nat.reduceMul,Int.reduceLE,Int.reduceLT,Int.reduceToNat,Int.reduceNeg,reduceCtorEq];(repeat' (first | with_reducible refine And.intro ?_ ?_ | ((with_reducible show _≠_);first | assumption | omega | (simp_all [aD,aK];done) | grind) | with_reducible intro _)) <;> (first | done | assumption | rfl | omega | decide | exact fk [0,1,2,3,4] | (simp_all [aD,aK];done))) | (simp_all [okI,aD,aK];done) | (simp_all [aD,aK];(first | done | exact fk2 [0,1,2,3,4])) | exact fk2 [0,1,2,3,4]))) : p:=h
theorem AP {p : Prop} (h : p:=by (first | done | (repeat' (first | with_reducible refine And.intro ?_ ?_ | ((with_reducible show _≠_);first | assumption | omega | (simp_all [aD,aK];done) | grind) | with_reducible intro _)) <;> (first | done | exact Empty.elim ‹Empty› | assumption | rfl | omega | decide | exact fk [0] | (simp only [*,cond_true,cond_false,Bool.not_true,Bool.not_false,go_sem,Nat.reduceBEq,Nat.reduceLeDiff,Nat.reduceLT,decide_true,Nat.reduceAdd,Nat.reduceSub,Nat.reduceMul,Int.reduceLE,Int.reduceLT,Int.reduceToNat,Int.reduceNeg,reduceCtorEq];done) | (simp only [*,cond_true,cond_false,Bool.not_true,Bool.not_false,go_sem,Nat.reduceBEq,Nat.reduceLeDiff,Nat.reduceLT,decide_true,Nat.reduceAdd,Nat.reduceSub,Nat.reduceMul,Int.reduceLE,Int.reduceLT,Int.reduceToNat,Int.reduceNeg,reduceCtorEq];(repeat' (first | with_reducible refine And.intro ?_ ?_ | ((with_reducible show _≠_);first | assumption | omega | (simp_all [aD,aK];done) | grind) | with_reducible intro _)) <;> (first | done | assumption | rfl | omega | decide | exact fk [0] | (simp_all [aD,aK];done))) | (simp_all [okI,aD,aK];done) | (simp_all [aD,aK];(first | done | exact fk2 [0])) | exact fk2 [0]))) : p:=h
@[go_sem] noncomputable def gG : List SV→List Ob→Option HCon:=fun l h=> vm .claim (fun c=> (pD .district fun d=> ((pQ (.os 0) (pE (nq (db d c) (.tup [.rs .order ((ar d c).1),.agg (cellsOf .fault ((ar d c).2.1)),.v (.int .i64 ((ar d c).2.2))]) [.row .claim c]))))) l) h
set_option maxHeartbeats 4000000 in
theorem pc : FnOkO Tryz.prog 31 gG:=by
 have hG : ConsOk Tryz.prog (mkG [(54,fun l=> ll (cK [.st .district,.sl .order] l)),(55,iL),(56,fun l=> jk (cK [.st .district,.sl .order] l)),(57,fun l=> g6 (cK [.st .district,.sl .order] l))] [(33,gE)]) :=aQ (cgc (nP.norm [.st .district,.sl .order]) (cgc lB (cgc (lZ.norm [.st .district,.sl .order]) (cgc (ky.norm [.st .district,.sl .order]) cg0)))) (cgc pb cg0)
 refine wc [.sl .order,.st .fault,.o] mixed aF hG (fn:=Tryz.f31) (c:=ag Tryz.f31) (by kernel_rfl) (by kernel_rfl) (by kernel_rfl) (by kernel_rfl) fun l o con h=> ?_
 unfold gG at h
 obtain ⟨c,rfl,h⟩ :=rv h
 obtain ⟨d,r0,rfl,h0⟩ :=sJ h
 obtain ⟨r1,rfl,h1⟩ :=yB h0
 obtain ⟨rfl,rfl⟩ :=qx h1
 clear h h0 h1
 refine ⟨_,_,_,rfl,rfl,fun hp=> ?_⟩
 unfold db at hp
 refine ⟨Nat.le_of_ble_eq_true rfl,(fun id st=> bif Nat.beq id 0 then some (LC (ρ:=Int×Int×Int×Int×Int) (σ:=Unit) (lk 4 st.t= .ptr 2 0∧lk 5 st.t= .ptr 3 0∧lk 6 st.t= .ptr 4 0∧lk 39 st.t= .fn 100 [] [.ep [.rs .order ((aq d ((ae d c).1)).1)] 0,.ep (cellsOf .district d) 0]∧st.h=[.row .claim c,.cells (cellsOf .district d),.cells [.rs .order ((aq d ((ae d c).1)).1)],.cells [.v (.int .i64 0),.v (.int .i64 0),.v (.int .i64 0),.v (.int .i64 0),.v (.int .i64 0)],.cells [.v (.int .i64 ((aq d ((ae d c).1)).2.2))]]∧cV ((aq d ((ae d c).1)).1) d ((bq ((aq d ((ae d c).1)).1) d).map dm)) (bK (cP d c) (bq ((aq d ((ae d c).1)).1) d) ()) (fun _=> .ret) (fun x_0_0=> ⟨[(4,.ptr 2 0),(5,.ptr 3 0),(6,.ptr 4 0)],[.row .claim c,.dead,.cells [.v (.slice none 0 0)],.cells [.v (.int .i64 x_0_0.1),.v (.int .i64 x_0_0.2.1),.v (.int .i64 x_0_0.2.2.1),.v (.int .i64 x_0_0.2.2.2.1),.v (.int .i64 x_0_0.2.2.2.2)],.cells [.v (.int .i64 0)]]⟩) (fun s_0=> ⟨[(4,.ptr 2 0),(5,.ptr 3 0),(6,.ptr 4 0)],[.row .claim c,.dead,.cells [.rs .order ((aq d ((ae d c).1)).1)],.cells [.v (.int .i64 0),.v (.int .i64 0),.v (.int .i64 0),.v (.int .i64 0),.v (.int .i64 0)],.cells [.v (.int .i64 ((aq d ((ae d c).1)).2.2))]]⟩)) else none),?_,?_⟩
 ·unfold ag Tryz.f31
  simp only [az,true_and,and_true]
  ·refine mK mixed aF hG (by decide) (by decide) (by kernel_rfl) (by kernel_rfl) fun st lc hC hp=> ?_
   simp only [go_sem,Nat.reduceBEq,Option.some.injEq] at hC
   subst hC
   obtain ⟨t,h⟩ :=st
   dsimp only [LC] at hp
   obtain ⟨e0_0,e0_1,e0_2,e0_3,rfl,hb0⟩ :=hp
   refine ⟨100,[.ep [.rs .order ((aq d ((ae d c).1)).1)] 0,.ep (cellsOf .district d) 0],Fault,_,_,(bq ((aq d ((ae d c).1)).1) d),dm,(cP d c),(jX d c),_,(),_,_,_,[(4,.ptr 2 0),(5,.ptr 3 0),(6,.ptr 4 0)],(fun s_0=> [.row .claim c,.dead,.cells [.rs .order ((aq d ((ae d c).1)).1)],.cells [.v (.int .i64 0),.v (.int .i64 0),.v (.int .i64 0),.v (.int .i64 0),.v (.int .i64 0)],.cells [.v (.int .i64 ((aq d ((ae d c).1)).2.2))]]),(fun x_0_0=> [.row .claim c,.dead,.cells [.v (.slice none 0 0)],.cells [.v (.int .i64 x_0_0.1),.v (.int .i64 x_0_0.2.1),.v (.int .i64 x_0_0.2.2.1),.v (.int .i64 x_0_0.2.2.2.1),.v (.int .i64 x_0_0.2.2.2.2)],.cells [.v (.int .i64 0)]]),[0,1,2,3,4],?_,rfl,rt _ _ fun _ _ _=> trivial,Nat.le_of_ble_eq_true rfl,?_,i7 ((aq d ((ae d c).1)).1) d _ hb0,fun z_0 s_0 hq0=> ⟨rfl,L0,fun l=> ?_,fun l=> ?_,?_⟩,fun s_0=> ?_,fun y=> ?_⟩
   ·simp only [go_sem,e0_0,e0_1,e0_2,e0_3]
   ·simp only [go_sem,Nat.reduceBEq,Nat.reduceLeDiff,Nat.reduceLT,decide_true,Nat.reduceAdd,Nat.reduceSub,Nat.reduceMul,Int.reduceLE,Int.reduceLT,Int.reduceToNat,Int.reduceNeg,reduceCtorEq,nH,iq,List.flatMap_cons,List.flatMap_nil,List.nil_append,List.append_nil,List.map_nil,e0_0,e0_1,e0_2,e0_3]
    all_goals (first | done | decide | (repeat' (first | refine And.intro ?_ ?_ | rfl | decide)))
   ·simp only [az,and_self,true_and,and_true]
   ·simp only [az,and_self,true_and,and_true]
   ·skip
    simp only [go_sem,Nat.reduceBEq,Nat.reduceLeDiff,Nat.reduceLT,decide_true,Nat.reduceAdd,Nat.reduceSub,Nat.reduceMul,Int.reduceLE,Int.reduceLT,Int.reduceToNat,Int.reduceNeg,reduceCtorEq,cP,psT,dm,List.cons_append,List.nil_append]
    all_goals exact wd
   ·simp only [go_sem,Nat.reduceBEq,Nat.reduceLeDiff,Nat.reduceLT,decide_true,Nat.reduceAdd,Nat.reduceSub,Nat.reduceMul,Int.reduceLE,Int.reduceLT,Int.reduceToNat,Int.reduceNeg,reduceCtorEq]
    all_goals exact wd
   ·simp only [go_sem,Nat.reduceBEq,Nat.reduceLeDiff,Nat.reduceLT,decide_true,Nat.reduceAdd,Nat.reduceSub,Nat.reduceMul,Int.reduceLE,Int.reduceLT,Int.reduceToNat,Int.reduceNeg,reduceCtorEq]
    all_goals exact wd
 ·unfold ag Tryz.f31
  try unfold ar
  simp only [go_sem,Nat.reduceBEq,Nat.reduceLeDiff,Nat.reduceLT,decide_true,Nat.reduceAdd,Nat.reduceSub,Nat.reduceMul,Int.reduceLE,Int.reduceLT,Int.reduceToNat,Int.reduceNeg,reduceCtorEq]
  all_goals exact AP
@[go_sem] noncomputable def fe : List SV→List Ob→Option HCon:=fun l h=> vm .claim (fun c=> (pD .district fun d=> ((pQ (.os 0) (pE (nq (cy d c) (.tup [.rs .order ((an d c).1),.v (.bool ((an d c).2.1)),.v (.int .i64 ((an d c).2.2))]) [.row .claim c]))))) l) h
set_option maxHeartbeats 4000000 in
theorem kz : FnOkO Tryz.prog 12 fe:=by
 have hG : ConsOk Tryz.prog (mkG [] [(31,gG)]) :=aQ cg0 (cgc pc cg0)
 refine wc [.sl .order,.o,.o] mixed aF hG (fn:=Tryz.f12) (c:=ag Tryz.f12) (by kernel_rfl) (by kernel_rfl) (by kernel_rfl) (by kernel_rfl) fun l o con h=> ?_
 unfold fe at h
 obtain ⟨c,rfl,h⟩ :=rv h
 obtain ⟨d,r0,rfl,h0⟩ :=sJ h
 obtain ⟨r1,rfl,h1⟩ :=yB h0
 obtain ⟨rfl,rfl⟩ :=qx h1
 clear h h0 h1
 refine ⟨_,_,_,rfl,rfl,fun hp=> ?_⟩
 unfold cy at hp
 refine ⟨Nat.le_of_ble_eq_true rfl,L0,?_,?_⟩
 ·unfold ag Tryz.f12
  simp only [az,and_self,true_and,and_true]
 ·unfold ag Tryz.f12
  try unfold an
  simp only [go_sem,Nat.reduceBEq,Nat.reduceLeDiff,Nat.reduceLT,decide_true,Nat.reduceAdd,Nat.reduceSub,Nat.reduceMul,Int.reduceLE,Int.reduceLT,Int.reduceToNat,Int.reduceNeg,reduceCtorEq]
  all_goals exact AP
end Go.Sx
end
section
namespace Go.Sx
open Go.Proofs
set_option maxRecDepth 100000
@[go_sem] def jY : List SV→Option Con:=pR .claim fun l=> pE (.det (l.length * 40≤fN) (.nw .claim l))
theorem n8 : FnOk Tryz.prog 38 jY:=by
 have hG : ConsOk Tryz.prog (mkG [] []) :=aQ cg0 cg0
 refine yI [(.tmp 2,.claim)] mixed aF hG (fn:=Tryz.f38) (c:=ag Tryz.f38) (by kernel_rfl) (by kernel_rfl) (by kernel_rfl) (by kernel_rfl) (cL fun l=> aM fun hp=> ?_)
 dsimp only [aW] at hp
 refine ⟨Nat.le_of_ble_eq_true rfl,L0,av _,?_⟩
 unfold ag Tryz.f38
 simp only [go_sem,Nat.reduceBEq,Nat.reduceLeDiff,Nat.reduceAdd,Nat.reduceSub,Nat.reduceMul,Int.reduceLE,Int.reduceLT,Int.reduceToNat,Int.reduceNeg,reduceCtorEq]
 intro b hb
 refine ⟨fun h=> ?_,fun _=> ⟨hp,fun _=> rfl⟩⟩
 have hl:=hb h
 subst hl
 rfl
end Go.Sx
end
section
namespace Go.Sx
open Go.Proofs
set_option maxRecDepth 100000
set_option linter.unusedSimpArgs false
theorem AQ {p : Prop} (h : p:=by (first | done | (repeat' (first | with_reducible refine And.intro ?_ ?_ | ((with_reducible show _≠_);first | assumption | omega | (simp_all [aD,aK];done) | grind) | with_reducible intro _)) <;> (first | done | exact Empty.elim ‹Empty› | assumption | rfl | omega | decide | exact fk [0,1,6] | exact fk [0,1,2] | (simp only [*,cond_true,cond_false,Bool.not_true,Bool.not_false,go_sem,Nat.reduceBEq,Nat.reduceLeDiff,Nat.reduceLT,decide_true,Nat.reduceAdd,Nat.reduceSub,Nat.reduceMul,Int.reduceLE,Int.reduceLT,Int.reduceToNat,Int.reduceNeg,reduceCtorEq];done) | (simp only [*,cond_true,cond_false,Bool.not_true,Bool.not_false,go_sem,Nat.reduceBEq,Nat.reduceLeDiff,Nat.reduceLT,decide_true,Nat.reduceAdd,Nat.reduceSub,Nat.reduceMul,Int.reduceLE,Int.reduceLT,Int.reduceToNat,Int.reduceNeg,reduceCtorEq];(repeat' (first | with_reducible refine And.intro ?_ ?_ | ((with_reducible show _≠_);first | assumption | omega | (simp_all [aD,aK];done) | grind) | with_reducible intro _)) <;> (first | done | assumption | rfl | omega | decide | exact fk [0,1,6] | exact fk [0,1,2] | (simp_all [aD,aK];done))) | (simp_all [okI,aD,aK];done) | (simp_all [aD,aK];(first | done | exact fk2 [0,1,6] | exact fk2 [0,1,2])) | exact fk2 [0,1,6] | exact fk2 [0,1,2]))) : p:=h
theorem JO {p : Prop} (h : p:=by simp only [go_sem,Nat.reduceBEq,Nat.reduceLeDiff,Nat.reduceLT,decide_true,Nat.reduceAdd,Nat.reduceSub,Nat.reduceMul,Int.reduceLE,Int.reduceLT,Int.reduceToNat,Int.reduceNeg,reduceCtorEq,hc,hw];all_goals exact AQ) : p:=h
theorem JP {p : Prop} (h : p:=by simp only [go_sem,Nat.reduceBEq,Nat.reduceLeDiff,Nat.reduceLT,decide_true,Nat.reduceAdd,Nat.reduceSub,Nat.reduceMul,Int.reduceLE,Int.reduceLT,Int.reduceToNat,Int.reduceNeg,reduceCtorEq,hc];all_goals exact AQ) : p:=h
def aO (c : List Claim) : List Claim:=(dH c)
def gH (c : List Claim) : Prop:=(dn c)
@[go_sem] def kA : List SV→Option Con:=(pR .claim fun c=> (pE (.det (gH c) (.nw .claim (aO c)))))
theorem pd : FnOk Tryz.prog 37 kA:=by
 have hG : ConsOk Tryz.prog (mkG [(34,b5),(35,fun l=> cG (cK [.sl .claim] l))] []) :=aQ (cgc eH (cgc (dV.norm [.sl .claim]) cg0)) cg0
 refine qw true mixed aF hG (fn:=Tryz.f37) (c:=ag Tryz.f37) (by kernel_rfl) (by kernel_rfl) (by kernel_rfl) (by kernel_rfl) (cL fun c=> (aM (fun hp=> ?_)))
 dsimp only [aW] at hp
 unfold gH at hp
 refine ⟨Nat.le_of_ble_eq_true rfl,L0,av _,?_⟩
 ·unfold ag Tryz.f37
  try unfold aO
  simp only [go_sem,Nat.reduceBEq,Nat.reduceLeDiff,Nat.reduceLT,decide_true,Nat.reduceAdd,Nat.reduceSub,Nat.reduceMul,Int.reduceLE,Int.reduceLT,Int.reduceToNat,Int.reduceNeg,reduceCtorEq,b5]
  all_goals exact cl
@[go_sem] def bO (d : District) (c : List Claim) (k_0 : Nat) (s_0 : List Claim) : Empty⊕(List Claim) :=(bif (((an d (aO (s_0 ++ ([((ak c).getD k_0 (default : Claim))])))).2.2==0) && (an d (aO (s_0 ++ ([((ak c).getD k_0 (default : Claim))])))).2.1) then .inr (aO (s_0 ++ ([((ak c).getD k_0 (default : Claim))]))) else .inr s_0)
def fF (d : District) (c : List Claim) (k_0 : Nat) (s_0 : List Claim) : Prop:=((s_0.length * 40≤fN)∧(((s_0 ++ ([((ak c).getD k_0 (default : Claim))])).length * 40≤fN)∧((s_0 ++ ([((ak c).getD k_0 (default : Claim))])).length≤bv→((gH (s_0 ++ ([((ak c).getD k_0 (default : Claim))])))∧(cy d (aO (s_0 ++ ([((ak c).getD k_0 (default : Claim))]))))))))
def d5 (d : District) (c : List Claim) : List Claim×Int:=(bif ((ae d c).2 !=0) then ([],(ae d c).2) else (match aw (bO d c) ((ak c).length) 0 ([]) with | .inl x=> x.elim | .inr s_0=> (s_0,0)))
def ff (d : District) (c : List Claim) : Prop:=((da d c)∧(((ae d c).2 !=0)=false→((dG c)∧((ak c).length≤bv→okI (bO d c) (fF d c) ((ak c).length) 0 ([])))))
@[go_sem] def lD : List SV→Option Con:=(pD .district fun d=> (pR .claim fun c=> (pE (.det (ff d c) (.tup [.nw .claim ((d5 d c).1),.v (.int .i64 ((d5 d c).2))])))))
set_option maxHeartbeats 4000000 in
theorem pM : FnOk Tryz.prog 17 lD:=by
 have hG : ConsOk Tryz.prog (mkG [(33,fun l=> iJ (cK [.st .district,.sl .claim] l)),(34,b5),(35,fun l=> cG (cK [.sl .claim] l)),(37,fun l=> kA (cK [.sl .claim] l)),(38,fun l=> jY (cK [.sl .claim] l))] [(12,fe)]) :=aQ (cgc (lz.norm [.st .district,.sl .claim]) (cgc eH (cgc (dV.norm [.sl .claim]) (cgc (pd.norm [.sl .claim]) (cgc (n8.norm [.sl .claim]) cg0))))) (cgc kz cg0)
 refine yI [(.tmp 4,.claim)] mixed aF hG (fn:=Tryz.f17) (c:=ag Tryz.f17) (by kernel_rfl) (by kernel_rfl) (by kernel_rfl) (by kernel_rfl) (bS fun d=> (cL fun c=> (aM (fun hp=> ?_))))
 dsimp only [aW] at hp
 unfold ff at hp
 refine ⟨Nat.le_of_ble_eq_true rfl,(fun id st=> bif Nat.beq id 0 then some (LCR (ρ:=Empty) (σ:=(List Claim)) 2 [.slot 4 (.row .claim ([]))] [0,1,2] (fun k_0 s_0=> ⟨[(2,.ptr 0 0),(4,.os 2),(23,.os 1),(24,.v (.int .i64 ((ak c).length : Int))),(25,.v (.int .i64 (k_0 : Int)))],[.cells (cellsOf .district d),.row .claim (ak c),.row .claim s_0]⟩) (bO d c) (fF d c) ((ak c).length) ([]) ((ak c).length≤bv) ((·.elim)) ((·.elim)) st) else none),?_,?_⟩
 ·unfold ag Tryz.f17
  simp only [az,true_and,and_true]
  ·refine cq mixed aF hG (by kernel_rfl) (fun _=> rfl) ((ak c).length : Int) rfl j7 (fun hb0 k_0 s_0 hlt0 hq0 hw hc=> ⟨L0,av _,?_⟩) (fun hb0 s_0 hc=> ?_)
   ·unfold fF at hq0
    try simp only [hw,Int.toNat_natCast] at hq0
    exact JO
   ·exact JP
 ·unfold ag Tryz.f17
  try unfold d5
  simp only [go_sem,Nat.reduceBEq,Nat.reduceLeDiff,Nat.reduceLT,decide_true,Nat.reduceAdd,Nat.reduceSub,Nat.reduceMul,Int.reduceLE,Int.reduceLT,Int.reduceToNat,Int.reduceNeg,reduceCtorEq,b5]
  all_goals exact cl
end Go.Sx
end
section
namespace Go.Sx
open Go.Proofs
set_option maxRecDepth 100000
set_option linter.unusedSimpArgs false
theorem AR {p : Prop} (h : p:=by (first | done | (repeat' (first | with_reducible refine And.intro ?_ ?_ | ((with_reducible show _≠_);first | assumption | omega | (simp_all [aD,aK];done) | grind) | with_reducible intro _)) <;> (first | done | exact Empty.elim ‹Empty› | assumption | rfl | omega | decide | exact fk [] | (simp only [*,cond_true,cond_false,Bool.not_true,Bool.not_false,go_sem,Nat.reduceBEq,Nat.reduceLeDiff,Nat.reduceLT,decide_true,Nat.reduceAdd,Nat.reduceSub,Nat.reduceMul,Int.reduceLE,Int.reduceLT,Int.reduceToNat,Int.reduceNeg,reduceCtorEq];done) | (simp only [*,cond_true,cond_false,Bool.not_true,Bool.not_false,go_sem,Nat.reduceBEq,Nat.reduceLeDiff,Nat.reduceLT,decide_true,Nat.reduceAdd,Nat.reduceSub,Nat.reduceMul,Int.reduceLE,Int.reduceLT,Int.reduceToNat,Int.reduceNeg,reduceCtorEq];(repeat' (first | with_reducible refine And.intro ?_ ?_ | ((with_reducible show _≠_);first | assumption | omega | (simp_all [aD,aK];done) | grind) | with_reducible intro _)) <;> (first | done | assumption | rfl | omega | decide | exact fk [] | (simp_all [aD,aK];done))) | (simp_all [okI,aD,aK];done) | (simp_all [aD,aK];(first | done | exact fk2 [])) | exact fk2 []))) : p:=h
theorem AS {p : Prop} (h : p:=by (first | done | (repeat' (first | with_reducible refine And.intro ?_ ?_ | ((with_reducible show _≠_);first | assumption | omega | (simp_all [aD,aK];done) | grind) | with_reducible intro _)) <;> (first | done | exact Empty.elim ‹Empty› | assumption | rfl | omega | decide | exact fk [0] | (simp only [*,cond_true,cond_false,Bool.not_true,Bool.not_false,go_sem,Nat.reduceBEq,Nat.reduceLeDiff,Nat.reduceLT,decide_true,Nat.reduceAdd,Nat.reduceSub,Nat.reduceMul,Int.reduceLE,Int.reduceLT,Int.reduceToNat,Int.reduceNeg,reduceCtorEq];done) | (simp only [*,cond_true,cond_false,Bool.not_true,Bool.not_false,go_sem,Nat.reduceBEq,Nat.reduceLeDiff,Nat.reduceLT,decide_true,Nat.reduceAdd,Nat.reduceSub,Nat.reduceMul,Int.reduceLE,Int.reduceLT,Int.reduceToNat,Int.reduceNeg,reduceCtorEq];(repeat' (first | with_reducible refine And.intro ?_ ?_ | ((with_reducible show _≠_);first | assumption | omega | (simp_all [aD,aK];done) | grind) | with_reducible intro _)) <;> (first | done | assumption | rfl | omega | decide | exact fk [0] | (simp_all [aD,aK];done))) | (simp_all [okI,aD,aK];done) | (simp_all [aD,aK];(first | done | exact fk2 [0])) | exact fk2 [0]))) : p:=h
theorem AT {p : Prop} (h : p:=by simp only [go_sem,Nat.reduceBEq,Nat.reduceLeDiff,Nat.reduceLT,decide_true,Nat.reduceAdd,Nat.reduceSub,Nat.reduceMul,Int.reduceLE,Int.reduceLT,Int.reduceToNat,Int.reduceNeg,reduceCtorEq,hc,hw];all_goals exact AR) : p:=h
theorem AU {p : Prop} (h : p:=by simp only [go_sem,Nat.reduceBEq,Nat.reduceLeDiff,Nat.reduceLT,decide_true,Nat.reduceAdd,Nat.reduceSub,Nat.reduceMul,Int.reduceLE,Int.reduceLT,Int.reduceToNat,Int.reduceNeg,reduceCtorEq,hc];all_goals exact AR) : p:=h
theorem JQ {p : Prop} (h : p:=by simp only [go_sem,Nat.reduceBEq,Nat.reduceLeDiff,Nat.reduceLT,decide_true,Nat.reduceAdd,Nat.reduceSub,Nat.reduceMul,Int.reduceLE,Int.reduceLT,Int.reduceToNat,Int.reduceNeg,reduceCtorEq,hc,hw];all_goals exact AS) : p:=h
theorem JR {p : Prop} (h : p:=by simp only [go_sem,Nat.reduceBEq,Nat.reduceLeDiff,Nat.reduceLT,decide_true,Nat.reduceAdd,Nat.reduceSub,Nat.reduceMul,Int.reduceLE,Int.reduceLT,Int.reduceToNat,Int.reduceNeg,reduceCtorEq,hc];all_goals exact AS) : p:=h
def gj (a0 : District) (a1 : List Claim) : Bool:=(bif ((((((((decide ((a0.reaches.length : Int) > 8)) && (decide ((a0.reaches.length : Int)≤64))) || (decide ((a0.reaches.length : Int) > 100))) || ((decide ((a0.farms.length : Int) > 8)) && (decide ((a0.farms.length : Int)≤600)))) || (decide ((a0.farms.length : Int) > 700))) || (decide ((a0.rights.length : Int) > 300))) || (decide ((a0.duties.length : Int) > 300))) || (decide ((a0.crops.length : Int) > 100))) then false else (((decide (a0.hours≤30)) || (decide (a0.hours > 1024))) && (decide ((a1.length : Int)≤60))))
@[go_sem] def tE : List SV→Option Con:=(pD .district fun a0=> (pR .claim fun a1=> (pE (.det True (.v (.bool (gj a0 a1)))))))
theorem yT : FnOk Tryz.prog 11 tE:=by
 have hG : ConsOk Tryz.prog (mkG [] []) :=aQ cg0 cg0
 refine a_ [.o] mixed aF hG (fn:=Tryz.f11) (c:=ag Tryz.f11) (by kernel_rfl) (by kernel_rfl) (by kernel_rfl) (by kernel_rfl) (bS fun a0=> (cL fun a1=> (aM (fun hp=> ?_))))
 dsimp only [aW] at hp
 refine ⟨Nat.le_of_ble_eq_true rfl,L0,av _,?_⟩
 ·unfold ag Tryz.f11
  try unfold gj
  simp only [go_sem,Nat.reduceBEq,Nat.reduceLeDiff,Nat.reduceLT,decide_true,Nat.reduceAdd,Nat.reduceSub,Nat.reduceMul,Int.reduceLE,Int.reduceLT,Int.reduceToNat,Int.reduceNeg,reduceCtorEq]
  all_goals exact cl
@[go_sem] def gI (a : List Order) (b : List Order) (k_0 : Nat) (s_0 : Unit) : Unit⊕Unit:=(bif (!(((a.getD k_0 (default : Order)).hour==(b.getD k_0 (default : Order)).hour) && (((a.getD k_0 (default : Order)).index==(b.getD k_0 (default : Order)).index) && (((a.getD k_0 (default : Order)).litres==(b.getD k_0 (default : Order)).litres) && ((a.getD k_0 (default : Order)).outlet==(b.getD k_0 (default : Order)).outlet))))) then .inl () else .inr ())
def fG (a : List Order) (b : List Order) (k_0 : Nat) (s_0 : Unit) : Prop:=(a.length≤bv→(0≤(k_0 : Int)∧(k_0 : Int) < (b.length : Int)))
def jn (a : List Order) (b : List Order) : Bool:=(bif ((a.length : Int) !=(b.length : Int)) then false else (match aw (gI a b) a.length 0 () with | .inl x_0_0=> false | .inr s_0=> true))
def fg (a : List Order) (b : List Order) : Prop:=(a.length≤bv→(b.length≤bv→(((a.length : Int) !=(b.length : Int))=false→okI (gI a b) (fG a b) a.length 0 ())))
@[go_sem] def lE : List SV→Option Con:=(pR .order fun a=> (pR .order fun b=> (pE (.det (fg a b) (.v (.bool (jn a b)))))))
set_option maxHeartbeats 4000000 in
theorem pN : FnOk Tryz.prog 16 lE:=by
 have hG : ConsOk Tryz.prog (mkG [] []) :=aQ cg0 cg0
 refine a_ [.o] mixed aF hG (fn:=Tryz.f16) (c:=ag Tryz.f16) (by kernel_rfl) (by kernel_rfl) (by kernel_rfl) (by kernel_rfl) (cL fun a=> (cL fun b=> (aM (fun hp=> ?_))))
 dsimp only [aW] at hp
 unfold fg at hp
 refine ⟨Nat.le_of_ble_eq_true rfl,(fun id st=> bif Nat.beq id 0 then some (LCR (ρ:=Unit) (σ:=Unit) 0 [] [] (fun k_0 s_0=> ⟨[(0,.rs .order a),(1,.rs .order b),(5,.v (.int .i64 (k_0 : Int)))],[]⟩) (gI a b) (fG a b) a.length () (True) (fun _=> .ret) (fun x_0_0=> ⟨[(4,.v (.bool false))],[]⟩) st) else none),?_,?_⟩
 ·unfold ag Tryz.f16
  simp only [az,true_and,and_true]
  ·refine zW (a.length≤bv) mixed aF hG (by kernel_rfl) (fun _=> rfl) (a.length : Int) rfl j7 (fun hb0 k_0 s_0 hlt0 hq0 hw hc=> ⟨L0,av _,?_⟩) (fun hb0 s_0 hc=> ?_) fun hb0 k_0 s_0=> ?_
   ·unfold fG at hq0
    try simp only [hw,Int.toNat_natCast] at hq0
    exact AT
   ·exact AU
   ·simp only [go_sem,Nat.reduceBEq,Nat.reduceLeDiff,Nat.reduceLT,decide_true,Nat.reduceAdd,Nat.reduceSub,Nat.reduceMul,Int.reduceLE,Int.reduceLT,Int.reduceToNat,Int.reduceNeg,reduceCtorEq,hb0]
 ·unfold ag Tryz.f16
  try unfold jn
  simp only [go_sem,Nat.reduceBEq,Nat.reduceLeDiff,Nat.reduceLT,decide_true,Nat.reduceAdd,Nat.reduceSub,Nat.reduceMul,Int.reduceLE,Int.reduceLT,Int.reduceToNat,Int.reduceNeg,reduceCtorEq]
  all_goals exact cl
@[go_sem] def gJ (a : List Claim) (b : List Claim) (k_0 : Nat) (s_0 : Unit) : Unit⊕Unit:=(bif (!(((a.getD k_0 (default : Claim)).right==(b.getD k_0 (default : Claim)).right) && (((a.getD k_0 (default : Claim)).farm==(b.getD k_0 (default : Claim)).farm) && (((a.getD k_0 (default : Claim)).hour==(b.getD k_0 (default : Claim)).hour) && (((a.getD k_0 (default : Claim)).litres==(b.getD k_0 (default : Claim)).litres) && ((a.getD k_0 (default : Claim)).rank==(b.getD k_0 (default : Claim)).rank)))))) then .inl () else .inr ())
def fH (a : List Claim) (b : List Claim) (k_0 : Nat) (s_0 : Unit) : Prop:=(a.length≤bv→(0≤(k_0 : Int)∧(k_0 : Int) < (b.length : Int)))
def jo (a : List Claim) (b : List Claim) : Bool:=(bif ((a.length : Int) !=(b.length : Int)) then false else (match aw (gJ a b) a.length 0 () with | .inl x_0_0=> false | .inr s_0=> true))
def fh (a : List Claim) (b : List Claim) : Prop:=(a.length≤bv→(b.length≤bv→(((a.length : Int) !=(b.length : Int))=false→okI (gJ a b) (fH a b) a.length 0 ())))
@[go_sem] def lF : List SV→Option Con:=(pR .claim fun a=> (pR .claim fun b=> (pE (.det (fh a b) (.v (.bool (jo a b)))))))
set_option maxHeartbeats 4000000 in
theorem pO : FnOk Tryz.prog 19 lF:=by
 have hG : ConsOk Tryz.prog (mkG [] []) :=aQ cg0 cg0
 refine a_ [.o] mixed aF hG (fn:=Tryz.f19) (c:=ag Tryz.f19) (by kernel_rfl) (by kernel_rfl) (by kernel_rfl) (by kernel_rfl) (cL fun a=> (cL fun b=> (aM (fun hp=> ?_))))
 dsimp only [aW] at hp
 unfold fh at hp
 refine ⟨Nat.le_of_ble_eq_true rfl,(fun id st=> bif Nat.beq id 0 then some (LCR (ρ:=Unit) (σ:=Unit) 0 [] [] (fun k_0 s_0=> ⟨[(0,.rs .claim a),(1,.rs .claim b),(5,.v (.int .i64 (k_0 : Int)))],[]⟩) (gJ a b) (fH a b) a.length () (True) (fun _=> .ret) (fun x_0_0=> ⟨[(4,.v (.bool false))],[]⟩) st) else none),?_,?_⟩
 ·unfold ag Tryz.f19
  simp only [az,true_and,and_true]
  ·refine zW (a.length≤bv) mixed aF hG (by kernel_rfl) (fun _=> rfl) (a.length : Int) rfl j7 (fun hb0 k_0 s_0 hlt0 hq0 hw hc=> ⟨L0,av _,?_⟩) (fun hb0 s_0 hc=> ?_) fun hb0 k_0 s_0=> ?_
   ·unfold fH at hq0
    try simp only [hw,Int.toNat_natCast] at hq0
    exact AT
   ·exact AU
   ·simp only [go_sem,Nat.reduceBEq,Nat.reduceLeDiff,Nat.reduceLT,decide_true,Nat.reduceAdd,Nat.reduceSub,Nat.reduceMul,Int.reduceLE,Int.reduceLT,Int.reduceToNat,Int.reduceNeg,reduceCtorEq,hb0]
 ·unfold ag Tryz.f19
  try unfold jo
  simp only [go_sem,Nat.reduceBEq,Nat.reduceLeDiff,Nat.reduceLT,decide_true,Nat.reduceAdd,Nat.reduceSub,Nat.reduceMul,Int.reduceLE,Int.reduceLT,Int.reduceToNat,Int.reduceNeg,reduceCtorEq]
  all_goals exact cl
def aT : District:=({ name:=(ByteArray.mk #[]),hours:=8,tank:=({ cap:=60,start:=40} : Tank),reaches:=[({ name:=(ByteArray.mk #[]),up:=(-1),delay:=2,cap:=20,bank:=30,siphon:=5,evap:=({ lo:=0,hi:=3} : Range),seep:=(({ n:=0,d:=1} : Ratio),({ n:=0,d:=1} : Ratio))} : Reach)],farms:=[({ name:=(ByteArray.mk #[]),reach:=0,area:=0,crop:=(-1)} : Farm),({ name:=(ByteArray.mk #[]),reach:=0,area:=0,crop:=(-1)} : Farm)],crops:=[],rights:=[({ name:=(ByteArray.mk #[]),kind:=1,farm:=0,reach:=0,rank:=2,litres:=1,since:=0,to:=7,every:=1,length:=1} : Right),({ name:=(ByteArray.mk #[]),kind:=1,farm:=1,reach:=0,rank:=1,litres:=1,since:=0,to:=7,every:=1,length:=1} : Right)],duties:=[],wells:=[]} : District)
@[go_sem] def qi : List SV→Option Con:=(pE (.det True (.agg (cellsOf .district (aT)))))
theorem we : FnOk Tryz.prog 30 qi:=by
 have hG : ConsOk Tryz.prog (mkG [] []) :=aQ cg0 cg0
 refine a_ [.st .district] mixed aF hG (fn:=Tryz.f30) (c:=ag Tryz.f30) (by kernel_rfl) (by kernel_rfl) (by kernel_rfl) (by kernel_rfl) (aM (fun hp=> ?_))
 dsimp only [aW] at hp
 refine ⟨Nat.le_of_ble_eq_true rfl,L0,av _,?_⟩
 ·unfold ag Tryz.f30
  try unfold aT
  simp only [go_sem,Nat.reduceBEq,Nat.reduceLeDiff,Nat.reduceLT,decide_true,Nat.reduceAdd,Nat.reduceSub,Nat.reduceMul,Int.reduceLE,Int.reduceLT,Int.reduceToNat,Int.reduceNeg,reduceCtorEq]
  all_goals exact cl
def eQ:=([({ right:=1,farm:=1,hour:=1,litres:=9,rank:=1} : Claim)])
def dc:=(dh aT eQ)
def aY:=(dc.1)
def iO:=({ name:=(ByteArray.mk #[]),hours:=0,tank:=({ cap:=0,start:=0} : Tank),reaches:=[],farms:=[],crops:=[],rights:=[],duties:=[],wells:=[]} : District)
def f5:=(an iO ([]))
def cb:=([({ right:=1,farm:=1,hour:=4,litres:=10,rank:=1} : Claim),({ right:=0,farm:=0,hour:=4,litres:=7,rank:=2} : Claim),({ right:=0,farm:=0,hour:=5,litres:=1,rank:=2} : Claim)])
def eR:=(cb.getD 1 (default : Claim))
def ct:=(an aT cb)
def gR:=(ct.1)
def eE:=([({ hour:=2,index:=0,litres:=20,outlet:=false} : Order),({ hour:=3,index:=0,litres:=5,outlet:=false} : Order),({ hour:=4,index:=0,litres:=7,outlet:=true} : Order),({ hour:=4,index:=1,litres:=10,outlet:=true} : Order),({ hour:=5,index:=0,litres:=1,outlet:=true} : Order)])
def gS:=(jn gR eE)
def bf:=(cb.set 1 ({ right:=eR.right,farm:=eR.farm,hour:=eR.hour,litres:=8,rank:=eR.rank} : Claim))
def fA:=(bf.length : Int)
def dx:=(dh aT bf)
def fB:=(d5 aT bf)
def a7:=(dx.1)
def gT:=(fB.1)
def jF:=([(bf.getD 0 (default : Claim)),(bf.getD 2 (default : Claim))])
def jp : Bool:=(bif (((ct.2.2 !=0) || (!ct.2.1)) || (!gS)) then false else (bif ((((((dx.2.2 !=0) || (fB.2 !=0)) || (dc.2.2 !=0)) || (f5.2.2 !=191)) || (!dx.2.1)) || (!dc.2.1)) then false else ((((a7.kind==1) && ((a7.hour==2) && ((a7.index==0) && ((a7.litres==21) && (a7.limit==20))))) && ((aY.kind==7) && ((aY.hour==1) && ((aY.index==0) && ((aY.litres==9) && (aY.limit==0)))))) && (jo gT jF))))
def kK : Prop:=((cy aT cb)∧((((ct.2.2 !=0) || (!ct.2.1))=false→(fg gR eE))∧((((ct.2.2 !=0) || (!ct.2.1)) || (!gS))=false→((0≤1∧1 < (cb.length : Int))∧((eB aT bf)∧((ff aT bf)∧((eB aT eQ)∧((cy iO ([]))∧(((((((dx.2.2 !=0) || (fB.2 !=0)) || (dc.2.2 !=0)) || (f5.2.2 !=191)) || (!dx.2.1)) || (!dc.2.1))=false→(((((a7.kind==1) && ((a7.hour==2) && ((a7.index==0) && ((a7.litres==21) && (a7.limit==20))))) && ((aY.kind==7) && ((aY.hour==1) && ((aY.index==0) && ((aY.litres==9) && (aY.limit==0))))))=true→(0≤0∧0 < fA))∧(((((a7.kind==1) && ((a7.hour==2) && ((a7.index==0) && ((a7.litres==21) && (a7.limit==20))))) && ((aY.kind==7) && ((aY.hour==1) && ((aY.index==0) && ((aY.litres==9) && (aY.limit==0))))))=true→(0≤2∧2 < fA))∧((((a7.kind==1) && ((a7.hour==2) && ((a7.index==0) && ((a7.litres==21) && (a7.limit==20))))) && ((aY.kind==7) && ((aY.hour==1) && ((aY.index==0) && ((aY.litres==9) && (aY.limit==0))))))=true→(fh gT jF)))))))))))))
@[go_sem] def r9 : List SV→Option Con:=(pE (.det (kK) (.v (.bool (jp)))))
set_option maxHeartbeats 4000000 in
theorem wI : FnOk Tryz.prog 10 r9:=by
 have hG : ConsOk Tryz.prog (mkG [(12,fun l=> jl (cK [.st .district,.sl .claim] l)),(14,fun l=> l8 (cK [.st .district,.sl .claim] l)),(16,fun l=> lE (cK [.sl .order,.sl .order] l)),(17,fun l=> lD (cK [.st .district,.sl .claim] l)),(19,fun l=> lF (cK [.sl .claim,.sl .claim] l)),(30,qi)] [(12,fe)]) :=aQ (cgc (l7.norm [.st .district,.sl .claim]) (cgc (qH.norm [.st .district,.sl .claim]) (cgc (pN.norm [.sl .order,.sl .order]) (cgc (pM.norm [.st .district,.sl .claim]) (cgc (pO.norm [.sl .claim,.sl .claim]) (cgc we cg0)))))) (cgc kz cg0)
 refine a_ [.o] mixed aF hG (fn:=Tryz.f10) (c:=ag Tryz.f10) (by kernel_rfl) (by kernel_rfl) (by kernel_rfl) (by kernel_rfl) (aM (fun hp=> ?_))
 dsimp only [aW] at hp
 unfold kK at hp
 try simp only [eQ,dc,aY,iO,f5,cb,eR,ct,gR,eE,gS,bf,fA,dx,fB,a7,gT,jF] at hp
 refine ⟨Nat.le_of_ble_eq_true rfl,L0,av _,?_⟩
 ·unfold ag Tryz.f10
  try unfold jp
  simp only [go_sem,Nat.reduceBEq,Nat.reduceLeDiff,Nat.reduceLT,decide_true,Nat.reduceAdd,Nat.reduceSub,Nat.reduceMul,Int.reduceLE,Int.reduceLT,Int.reduceToNat,Int.reduceNeg,reduceCtorEq,eQ,dc,aY,iO,f5,cb,eR,ct,gR,eE,gS,bf,fA,dx,fB,a7,gT,jF]
  all_goals exact cl
@[go_sem] def kg (l_ : List Order) (k_0 : Nat) (s_0 : List (Acequialaw27Key×Int)) : Empty⊕(List (Acequialaw27Key×Int)) := .inr (c5 .acequialaw27Key .int s_0 ({ outlet:=(l_.getD k_0 (default : Order)).outlet,index:=(l_.getD k_0 (default : Order)).index,hour:=(l_.getD k_0 (default : Order)).hour} : Acequialaw27Key) (IntKind.i64.wrap ((ay .acequialaw27Key .int s_0 ({ outlet:=(l_.getD k_0 (default : Order)).outlet,index:=(l_.getD k_0 (default : Order)).index,hour:=(l_.getD k_0 (default : Order)).hour} : Acequialaw27Key)) + (l_.getD k_0 (default : Order)).litres)))
def aJ (l_ : List Order) : List (Acequialaw27Key×Int) :=(match aw (kg l_) l_.length 0 ([]) with | .inl x=> x.elim | .inr s_0=> s_0)
@[go_sem] def lG : List SV→Option Con:=(pR .order fun l_=> (pE (.det True (.nm .acequialaw27Key .int (aJ l_)))))
set_option maxHeartbeats 4000000 in
theorem nT : FnOk Tryz.prog 20 lG:=by
 have hG : ConsOk Tryz.prog (mkG [] []) :=aQ cg0 cg0
 refine qw true mixed aF hG (fn:=Tryz.f20) (c:=ag Tryz.f20) (by kernel_rfl) (by kernel_rfl) (by kernel_rfl) (by kernel_rfl) (cL fun l_=> (aM (fun hp=> ?_)))
 dsimp only [aW] at hp
 refine ⟨Nat.le_of_ble_eq_true rfl,(fun id st=> bif Nat.beq id 0 then some (LCR (ρ:=Empty) (σ:=(List (Acequialaw27Key×Int))) 1 [] [0] (fun k_0 s_0=> ⟨[(3,.os 0),(7,.rs .order l_),(8,.v (.int .i64 (l_.length : Int))),(9,.v (.int .i64 (k_0 : Int)))],[.mp .acequialaw27Key .int s_0 none]⟩) (kg l_) pT l_.length ([]) (l_.length≤bv) ((·.elim)) ((·.elim)) st) else none),?_,?_⟩
 ·unfold ag Tryz.f20
  simp only [az,true_and,and_true]
  ·refine cq mixed aF hG (by kernel_rfl) (fun _=> rfl) (l_.length : Int) rfl j7 (fun hb0 k_0 s_0 hlt0 _ hw hc=> ⟨L0,av _,?_⟩) (fun hb0 s_0 hc=> ?_)
   ·exact JQ
   ·exact JR
 ·unfold ag Tryz.f20
  try unfold aJ
  simp only [go_sem,Nat.reduceBEq,Nat.reduceLeDiff,Nat.reduceLT,decide_true,Nat.reduceAdd,Nat.reduceSub,Nat.reduceMul,Int.reduceLE,Int.reduceLT,Int.reduceToNat,Int.reduceNeg,reduceCtorEq]
  all_goals exact cl
@[go_sem] def wJ (l_ : List Claim) (c : Claim) (k_0 : Nat) (s_0 : Unit) : Unit⊕Unit:=(bif (((l_.getD k_0 (default : Claim)).right==c.right) && (((l_.getD k_0 (default : Claim)).farm==c.farm) && (((l_.getD k_0 (default : Claim)).hour==c.hour) && (((l_.getD k_0 (default : Claim)).litres==c.litres) && ((l_.getD k_0 (default : Claim)).rank==c.rank))))) then .inl () else .inr ())
def Ch (l_ : List Claim) (c : Claim) : Bool:=(match aw (wJ l_ c) l_.length 0 () with | .inl x_0_0=> true | .inr s_0=> false)
@[go_sem] def Oj : List SV→Option Con:=(pR .claim fun l_=> (pD .claim fun c=> (pE (.det True (.v (.bool (Ch l_ c)))))))
def sa (a : Claim) (b : Claim) : Bool:=(bif (a.rank !=b.rank) then (decide (a.rank < b.rank)) else (bif (a.right !=b.right) then (decide (a.right < b.right)) else (bif (a.farm !=b.farm) then (decide (a.farm < b.farm)) else (decide (a.hour < b.hour)))))
@[go_sem] def JS : List SV→Option Con:=(pD .claim fun a=> (pD .claim fun b=> (pE (.det True (.v (.bool (sa a b)))))))
def sb (a : Claim) (b : Claim) : Bool:=(bif (a.hour !=b.hour) then (decide (a.hour < b.hour)) else (sa a b))
@[go_sem] def JT : List SV→Option Con:=(pD .claim fun a=> (pD .claim fun b=> (pE (.det True (.v (.bool (sb a b)))))))
@[go_sem] def jG (l_ : List Claim) (x : Claim) (k_0 : Nat) (s_0 : Int) : Int⊕Int:=(bif ((decide (s_0 < (l_.length : Int))) && (sb (l_.getD (Int.toNat s_0) (default : Claim)) x)) then .inr (IntKind.i64.wrap (s_0 + 1)) else .inl s_0)
def tY (l_ : List Claim) (x : Claim) (k_0 : Nat) (s_0 : Int) : Prop:=(l_.length≤bv→((decide (s_0 < (l_.length : Int)))=true→(0≤s_0∧s_0 < (l_.length : Int))))
def Ci (l_ : List Claim) (x : Claim) : List Claim:=(match aw (jG l_ x) (l_.length + 1) 0 0 with | .inl x_0_0=> (((([]) ++ ((l_.take (Int.toNat x_0_0)).drop 0)) ++ ([x])) ++ ((l_.take (Int.toNat (l_.length : Int))).drop (Int.toNat x_0_0))) | .inr s_0=> default)
def yU (l_ : List Claim) (x : Claim) : Prop:=(okI (jG l_ x) (tY l_ x) (l_.length + 1) 0 0∧(∀ z_,aw (jG l_ x) (l_.length + 1) 0 0≠ .inr z_)∧(∀ x_0_0,aw (jG l_ x) (l_.length + 1) 0 0= .inl x_0_0→((0≤0∧0≤x_0_0∧x_0_0≤(l_.length : Int))∧(((([]) ++ ((l_.take (Int.toNat x_0_0)).drop 0)).length * 40≤fN)∧((([]) ++ ((l_.take (Int.toNat x_0_0)).drop 0)).length≤bv→((((([]) ++ ((l_.take (Int.toNat x_0_0)).drop 0)) ++ ([x])).length * 40≤fN)∧(((([]) ++ ((l_.take (Int.toNat x_0_0)).drop 0)) ++ ([x])).length≤bv→((0≤x_0_0∧x_0_0≤(l_.length : Int)∧(l_.length : Int)≤(l_.length : Int))∧((((([]) ++ ((l_.take (Int.toNat x_0_0)).drop 0)) ++ ([x])) ++ ((l_.take (Int.toNat (l_.length : Int))).drop (Int.toNat x_0_0))).length * 40≤fN)))))))))
@[go_sem] def Ok : List SV→Option Con:=(pR .claim fun l_=> (pD .claim fun x=> (pE (.det (yU l_ x) (.nw .claim (Ci l_ x))))))
end Go.Sx
end
section
namespace Go.Sx
@[go_sem ↓] theorem Tg (x : Reach) : mkE .reach [.v (.string x.name),.v (.int .i64 x.up),.v (.int .i64 x.delay),.v (.int .i64 x.cap),.v (.int .i64 x.bank),.v (.int .i64 x.siphon),.v (.int .i64 x.evap.lo),.v (.int .i64 x.evap.hi),.v (.int .i64 x.seep.1.n),.v (.int .i64 x.seep.1.d),.v (.int .i64 x.seep.2.n),.v (.int .i64 x.seep.2.d)]=x:=(rfl)
@[go_sem ↓] theorem Th (x : Order) : mkE .order [.v (.int .i64 x.hour),.v (.int .i64 x.index),.v (.int .i64 x.litres),.v (.bool x.outlet)]=x:=(rfl)
@[go_sem ↓] theorem Ti (x : Claim) : mkE .claim [.v (.int .i64 x.right),.v (.int .i64 x.farm),.v (.int .i64 x.hour),.v (.int .i64 x.litres),.v (.int .i64 x.rank)]=x:=(rfl)
@[go_sem ↓] theorem U0 (x : Tank) : mkE .tank [.v (.int .i64 x.cap),.v (.int .i64 x.start)]=x:=(rfl)
end Go.Sx
end
section
namespace Go.Sx
open Go.Proofs
set_option maxRecDepth 100000
set_option linter.unusedSimpArgs false
theorem AV {p : Prop} (h : p:=by (first | done | (repeat' (first | with_reducible refine And.intro ?_ ?_ | ((with_reducible show _≠_);first | assumption | omega | (simp_all [aD,aK];done) | grind) | with_reducible intro _)) <;> (first | done | exact Empty.elim ‹Empty› | assumption | rfl | omega | decide | exact fk [0,1,2] | (simp only [*,cond_true,cond_false,Bool.not_true,Bool.not_false,go_sem,Nat.reduceBEq,Nat.reduceLeDiff,Nat.reduceLT,decide_true,Nat.reduceAdd,Nat.reduceSub,Nat.reduceMul,Int.reduceLE,Int.reduceLT,Int.reduceToNat,Int.reduceNeg,reduceCtorEq];done) | (simp only [*,cond_true,cond_false,Bool.not_true,Bool.not_false,go_sem,Nat.reduceBEq,Nat.reduceLeDiff,Nat.reduceLT,decide_true,Nat.reduceAdd,Nat.reduceSub,Nat.reduceMul,Int.reduceLE,Int.reduceLT,Int.reduceToNat,Int.reduceNeg,reduceCtorEq];(repeat' (first | with_reducible refine And.intro ?_ ?_ | ((with_reducible show _≠_);first | assumption | omega | (simp_all [aD,aK];done) | grind) | with_reducible intro _)) <;> (first | done | assumption | rfl | omega | decide | exact fk [0,1,2] | (simp_all [aD,aK];done))) | (simp_all [okI,aD,aK];done) | (simp_all [aD,aK];(first | done | exact fk2 [0,1,2])) | exact fk2 [0,1,2] | (simp_all only [aD,aK,cond_true,cond_false];(first | done | exact fk [0,1,2] | exact fk2 [0,1,2] | (simp only [go_sem,Nat.reduceBEq,Nat.reduceLeDiff,Nat.reduceLT,decide_true,Nat.reduceAdd,Nat.reduceSub,Nat.reduceMul,Int.reduceLE,Int.reduceLT,Int.reduceToNat,Int.reduceNeg,reduceCtorEq];((repeat' (first | with_reducible refine And.intro ?_ ?_ | ((with_reducible show _≠_);first | assumption | omega | (simp_all [aD,aK];done) | grind) | with_reducible intro _)) <;> (first | done | rfl | exact fk [0,1,2] | exact fk2 [0,1,2])))))))) : p:=h
theorem sd {p : Prop} (h : p:=by (first | done | (repeat' (first | with_reducible refine And.intro ?_ ?_ | ((with_reducible show _≠_);first | assumption | omega | (simp_all [aD,aK];done) | grind) | with_reducible intro _)) <;> (first | done | exact Empty.elim ‹Empty› | assumption | rfl | omega | decide | exact fk [0,1,2,3] | (simp only [*,cond_true,cond_false,Bool.not_true,Bool.not_false,go_sem,Nat.reduceBEq,Nat.reduceLeDiff,Nat.reduceLT,decide_true,Nat.reduceAdd,Nat.reduceSub,Nat.reduceMul,Int.reduceLE,Int.reduceLT,Int.reduceToNat,Int.reduceNeg,reduceCtorEq];done) | (simp only [*,cond_true,cond_false,Bool.not_true,Bool.not_false,go_sem,Nat.reduceBEq,Nat.reduceLeDiff,Nat.reduceLT,decide_true,Nat.reduceAdd,Nat.reduceSub,Nat.reduceMul,Int.reduceLE,Int.reduceLT,Int.reduceToNat,Int.reduceNeg,reduceCtorEq];(repeat' (first | with_reducible refine And.intro ?_ ?_ | ((with_reducible show _≠_);first | assumption | omega | (simp_all [aD,aK];done) | grind) | with_reducible intro _)) <;> (first | done | assumption | rfl | omega | decide | exact fk [0,1,2,3] | (simp_all [aD,aK];done))) | (simp_all [okI,aD,aK];done) | (simp_all [aD,aK];(first | done | exact fk2 [0,1,2,3])) | exact fk2 [0,1,2,3] | (simp_all only [aD,aK,cond_true,cond_false];(first | done | exact fk [0,1,2,3] | exact fk2 [0,1,2,3] | (simp only [go_sem,Nat.reduceBEq,Nat.reduceLeDiff,Nat.reduceLT,decide_true,Nat.reduceAdd,Nat.reduceSub,Nat.reduceMul,Int.reduceLE,Int.reduceLT,Int.reduceToNat,Int.reduceNeg,reduceCtorEq];((repeat' (first | with_reducible refine And.intro ?_ ?_ | ((with_reducible show _≠_);first | assumption | omega | (simp_all [aD,aK];done) | grind) | with_reducible intro _)) <;> (first | done | rfl | exact fk [0,1,2,3] | exact fk2 [0,1,2,3])))))))) : p:=h
theorem wg {p : Prop} (h : p:=by (first | done | (repeat' (first | with_reducible refine And.intro ?_ ?_ | ((with_reducible show _≠_);first | assumption | omega | (simp_all [aD,aK];done) | grind) | with_reducible intro _)) <;> (first | done | exact Empty.elim ‹Empty› | assumption | rfl | omega | decide | exact fk [0,1,2,3,4] | (simp only [*,cond_true,cond_false,Bool.not_true,Bool.not_false,go_sem,Nat.reduceBEq,Nat.reduceLeDiff,Nat.reduceLT,decide_true,Nat.reduceAdd,Nat.reduceSub,Nat.reduceMul,Int.reduceLE,Int.reduceLT,Int.reduceToNat,Int.reduceNeg,reduceCtorEq];done) | (simp only [*,cond_true,cond_false,Bool.not_true,Bool.not_false,go_sem,Nat.reduceBEq,Nat.reduceLeDiff,Nat.reduceLT,decide_true,Nat.reduceAdd,Nat.reduceSub,Nat.reduceMul,Int.reduceLE,Int.reduceLT,Int.reduceToNat,Int.reduceNeg,reduceCtorEq];(repeat' (first | with_reducible refine And.intro ?_ ?_ | ((with_reducible show _≠_);first | assumption | omega | (simp_all [aD,aK];done) | grind) | with_reducible intro _)) <;> (first | done | assumption | rfl | omega | decide | exact fk [0,1,2,3,4] | (simp_all [aD,aK];done))) | (simp_all [okI,aD,aK];done) | (simp_all [aD,aK];(first | done | exact fk2 [0,1,2,3,4])) | exact fk2 [0,1,2,3,4] | (simp_all only [aD,aK,cond_true,cond_false];(first | done | exact fk [0,1,2,3,4] | exact fk2 [0,1,2,3,4] | (simp only [go_sem,Nat.reduceBEq,Nat.reduceLeDiff,Nat.reduceLT,decide_true,Nat.reduceAdd,Nat.reduceSub,Nat.reduceMul,Int.reduceLE,Int.reduceLT,Int.reduceToNat,Int.reduceNeg,reduceCtorEq];((repeat' (first | with_reducible refine And.intro ?_ ?_ | ((with_reducible show _≠_);first | assumption | omega | (simp_all [aD,aK];done) | grind) | with_reducible intro _)) <;> (first | done | rfl | exact fk [0,1,2,3,4] | exact fk2 [0,1,2,3,4])))))))) : p:=h
theorem JU {p : Prop} (h : p:=by simp only [go_sem,Nat.reduceBEq,Nat.reduceLeDiff,Nat.reduceLT,decide_true,Nat.reduceAdd,Nat.reduceSub,Nat.reduceMul,Int.reduceLE,Int.reduceLT,Int.reduceToNat,Int.reduceNeg,reduceCtorEq,hc,hw];all_goals exact AV) : p:=h
theorem JV {p : Prop} (h : p:=by simp only [go_sem,Nat.reduceBEq,Nat.reduceLeDiff,Nat.reduceLT,decide_true,Nat.reduceAdd,Nat.reduceSub,Nat.reduceMul,Int.reduceLE,Int.reduceLT,Int.reduceToNat,Int.reduceNeg,reduceCtorEq,hc];all_goals exact AV) : p:=h
theorem JW {p : Prop} (h : p:=by simp only [go_sem,Nat.reduceBEq,Nat.reduceLeDiff,Nat.reduceLT,decide_true,Nat.reduceAdd,Nat.reduceSub,Nat.reduceMul,Int.reduceLE,Int.reduceLT,Int.reduceToNat,Int.reduceNeg,reduceCtorEq,hc,hw];all_goals exact sd) : p:=h
theorem JX {p : Prop} (h : p:=by simp only [go_sem,Nat.reduceBEq,Nat.reduceLeDiff,Nat.reduceLT,decide_true,Nat.reduceAdd,Nat.reduceSub,Nat.reduceMul,Int.reduceLE,Int.reduceLT,Int.reduceToNat,Int.reduceNeg,reduceCtorEq,hc];all_goals exact sd) : p:=h
theorem wh {p : Prop} (h : p:=by simp only [go_sem,Nat.reduceBEq,Nat.reduceLeDiff,Nat.reduceLT,decide_true,Nat.reduceAdd,Nat.reduceSub,Nat.reduceMul,Int.reduceLE,Int.reduceLT,Int.reduceToNat,Int.reduceNeg,reduceCtorEq,hc,hw];all_goals exact wg) : p:=h
theorem wi {p : Prop} (h : p:=by simp only [go_sem,Nat.reduceBEq,Nat.reduceLeDiff,Nat.reduceLT,decide_true,Nat.reduceAdd,Nat.reduceSub,Nat.reduceMul,Int.reduceLE,Int.reduceLT,Int.reduceToNat,Int.reduceNeg,reduceCtorEq,hc];all_goals exact wg) : p:=h
theorem JY {p : Prop} (h : p:=by simp only [go_sem,Nat.reduceBEq,Nat.reduceLeDiff,Nat.reduceLT,decide_true,Nat.reduceAdd,Nat.reduceSub,Nat.reduceMul,Int.reduceLE,Int.reduceLT,Int.reduceToNat,Int.reduceNeg,reduceCtorEq];all_goals exact wg) : p:=h
@[go_sem] def cH (a1 : List Claim) (k_0 : Nat) (s_0 : List (Acequialaw27Key×Int)) : Empty⊕(List (Acequialaw27Key×Int)) := .inr (c5 .acequialaw27Key .int s_0 ({ outlet:=true,index:=(a1.getD k_0 (default : Claim)).farm,hour:=(a1.getD k_0 (default : Claim)).hour} : Acequialaw27Key) (IntKind.i64.wrap ((ay .acequialaw27Key .int s_0 ({ outlet:=true,index:=(a1.getD k_0 (default : Claim)).farm,hour:=(a1.getD k_0 (default : Claim)).hour} : Acequialaw27Key)) + (a1.getD k_0 (default : Claim)).litres)))
@[go_sem] def d8 (a2 : List Order) (s_0 : List (Acequialaw27Key×Int)) (k_1 : Acequialaw27Key×Int) (s_1 : Unit) : Unit⊕Unit:=(bif (decide ((ay .acequialaw27Key .int (aJ a2) k_1.1) < k_1.2)) then .inl () else .inr ())
def jq (a2 : List Order) (s_0 : List (Acequialaw27Key×Int)) (k_1 : Acequialaw27Key×Int) (s_1 : Unit) : Prop:=True
@[go_sem] def d9 (a0 : District) (a2 : List Order) (k_2 : Nat) (k_3 : Nat) (k_4 : Nat) (s_4 : Int×Int) : Int⊕(Int×Int) :=(bif (decide (s_4.2≤(k_3 : Int))) then .inr ((IntKind.i64.wrap (s_4.1 + (ay .acequialaw27Key .int (aJ a2) ({ outlet:=false,index:=(k_2 : Int),hour:=s_4.2} : Acequialaw27Key)))),(IntKind.i64.wrap (s_4.2 + 1))) else .inl s_4.1)
@[go_sem] def eS (a0 : District) (a2 : List Order) (k_2 : Nat) (k_3 : Nat) (k_5 : Nat) (s_5 : Int) : Empty⊕Int:=(bif ((a0.reaches.getD k_5 (default : Reach)).up==(k_2 : Int)) then .inr (IntKind.i64.wrap (s_5 + (ay .acequialaw27Key .int (aJ a2) ({ outlet:=false,index:=(k_5 : Int),hour:=(k_3 : Int)} : Acequialaw27Key)))) else .inr s_5)
@[go_sem] def f7 (a0 : District) (a2 : List Order) (k_2 : Nat) (k_3 : Nat) (k_6 : Nat) (s_6 : Int) : Empty⊕Int:=(bif ((a0.farms.getD k_6 (default : Farm)).reach==(k_2 : Int)) then .inr (IntKind.i64.wrap (s_6 + (ay .acequialaw27Key .int (aJ a2) ({ outlet:=true,index:=(k_6 : Int),hour:=(k_3 : Int)} : Acequialaw27Key)))) else .inr s_6)
@[go_sem] def df (a0 : District) (a2 : List Order) (k_2 : Nat) (k_3 : Nat) (s_3 : Int) : Unit⊕Int:=(match aw (d9 a0 a2 k_2 k_3) (1 + Int.toNat (a0.reaches.getD k_2 (default : Reach)).delay) 0 (0,(IntKind.i64.wrap ((IntKind.i64.wrap ((k_3 : Int) - (a0.reaches.getD k_2 (default : Reach)).delay)) + 1))) with | .inl x_4_0=> (bif (((decide ((ay .acequialaw27Key .int (aJ a2) ({ outlet:=false,index:=(k_2 : Int),hour:=(k_3 : Int)} : Acequialaw27Key)) > (a0.reaches.getD k_2 (default : Reach)).cap)) || ((decide ((ay .acequialaw27Key .int (aJ a2) ({ outlet:=false,index:=(k_2 : Int),hour:=(k_3 : Int)} : Acequialaw27Key)) > 0)) && (decide ((ay .acequialaw27Key .int (aJ a2) ({ outlet:=false,index:=(k_2 : Int),hour:=(k_3 : Int)} : Acequialaw27Key)) < (a0.reaches.getD k_2 (default : Reach)).siphon)))) || (decide (x_4_0 > (a0.reaches.getD k_2 (default : Reach)).bank))) then .inl () else (match aw (eS a0 a2 k_2 k_3) a0.reaches.length 0 0 with | .inl x=> x.elim | .inr s_5=> (match aw (f7 a0 a2 k_2 k_3) a0.farms.length 0 s_5 with | .inl x=> x.elim | .inr s_6=> (bif (((bL (a0.reaches.getD k_2 (default : Reach)) (ay .acequialaw27Key .int (aJ a2) ({ outlet:=false,index:=(k_2 : Int),hour:=(IntKind.i64.wrap ((k_3 : Int) - (a0.reaches.getD k_2 (default : Reach)).delay))} : Acequialaw27Key))).2 !=0) || (decide ((bL (a0.reaches.getD k_2 (default : Reach)) (ay .acequialaw27Key .int (aJ a2) ({ outlet:=false,index:=(k_2 : Int),hour:=(IntKind.i64.wrap ((k_3 : Int) - (a0.reaches.getD k_2 (default : Reach)).delay))} : Acequialaw27Key))).1 < s_6))) then .inl () else .inr (bif ((k_2 : Int) ==0) then (IntKind.i64.wrap (s_3 + (ay .acequialaw27Key .int (aJ a2) ({ outlet:=false,index:=(k_2 : Int),hour:=(k_3 : Int)} : Acequialaw27Key)))) else s_3))))) | .inr s_4=> .inr default)
def jr (a0 : District) (a2 : List Order) (k_2 : Nat) (k_3 : Nat) (s_3 : Int) : Prop:=(∀ z_,aw (d9 a0 a2 k_2 k_3) (1 + Int.toNat (a0.reaches.getD k_2 (default : Reach)).delay) 0 (0,(IntKind.i64.wrap ((IntKind.i64.wrap ((k_3 : Int) - (a0.reaches.getD k_2 (default : Reach)).delay)) + 1)))≠ .inr z_)
@[go_sem] def d_ (a0 : District) (a2 : List Order) (k_2 : Nat) (s_2 : Int) : Unit⊕Int:=(match aw (df a0 a2 k_2) (Int.toNat a0.hours) 0 s_2 with | .inl x_3_0=> .inl () | .inr s_3=> .inr s_3)
def jt (a0 : District) (a2 : List Order) (k_2 : Nat) (s_2 : Int) : Prop:=((a0.hours < 9223372036854775808)∧okI (df a0 a2 k_2) (jr a0 a2 k_2) (Int.toNat a0.hours) 0 s_2)
def eX (a0 : District) (a1 : List Claim) (a2 : List Order) : Bool:=(match aw (cH a1) a1.length 0 ([]) with | .inl x=> x.elim | .inr s_0=> (match bK (d8 a2 s_0) s_0 () with | .inl x_1_0=> false | .inr s_1=> (match aw (d_ a0 a2) a0.reaches.length 0 0 with | .inl x_2_0=> false | .inr s_2=> (decide (s_2≤a0.tank.start)))))
def jH (a0 : District) (a1 : List Claim) (a2 : List Order) : Prop:=(a1.length≤bv→(∀ s_0,aw (cH a1) a1.length 0 ([])= .inr s_0→(okM (d8 a2 s_0) (jq a2 s_0) s_0 ()∧(∀ s_1,bK (d8 a2 s_0) s_0 ()= .inr s_1→(a0.reaches.length≤bv→okI (d_ a0 a2) (jt a0 a2) a0.reaches.length 0 0)))))
@[go_sem] def qj : List SV→Option Con:=(pD .district fun a0=> (pR .claim fun a1=> (pR .order fun a2=> (pE (.det (jH a0 a1 a2) (.v (.bool (eX a0 a1 a2))))))))
set_option maxHeartbeats 4000000 in
theorem wj : FnOk Tryz.prog 26 qj:=by
 have hG : ConsOk Tryz.prog (mkG [(20,fun l=> lG (cK [.sl .order] l)),(45,oN)] []) :=aQ (cgc (nT.norm [.sl .order]) (cgc tR cg0)) cg0
 refine a_ [.o] mixed aF hG (fn:=Tryz.f26) (c:=ag Tryz.f26) (by kernel_rfl) (by kernel_rfl) (by kernel_rfl) (by kernel_rfl) (bS fun a0=> (cL fun a1=> (cL fun a2=> (aM (fun hp=> ?_)))))
 dsimp only [aW] at hp
 unfold jH at hp
 refine ⟨Nat.le_of_ble_eq_true rfl,(fun id st=> bif Nat.beq id 0 then some (LCR (ρ:=Empty) (σ:=(List (Acequialaw27Key×Int))) 3 [] [0,1,2] (fun k_0 s_0=> ⟨[(3,.ptr 0 0),(7,.os 1),(8,.os 2),(30,.rs .claim a1),(31,.v (.int .i64 (a1.length : Int))),(32,.v (.int .i64 (k_0 : Int)))],[.cells (cellsOf .district a0),.mp .acequialaw27Key .int (aJ a2) none,.mp .acequialaw27Key .int s_0 none]⟩) (cH a1) pT a1.length ([]) (a1.length≤bv) ((·.elim)) ((·.elim)) st) else bif Nat.beq id 2 then some (LCM (τ:=Acequialaw27Key×Int) (ρ:=Unit) (σ:=Unit) 4 [] [0,1,2,3] (fun left_1 cur_1 s_1=> ⟨[(3,.ptr 0 0),(7,.os 1),(50,.ptr 3 0)],[.cells (cellsOf .district a0),.mp .acequialaw27Key .int (aJ a2) none,.mp .acequialaw27Key .int (aD (aw (cH a1) a1.length 0 ([]))) none,.mi (some 2) (aD (aw (cH a1) a1.length 0 ([]))).length left_1 cur_1]⟩) (d8 a2 (aD (aw (cH a1) a1.length 0 ([])))) (jq a2 (aD (aw (cH a1) a1.length 0 ([])))) (aD (aw (cH a1) a1.length 0 ([]))) () (fun _=> .ret) (fun x_1_0=> ⟨[(6,.v (.bool false))],[.dead,.dead,.dead,.dead]⟩) (fun s_1=> ⟨[(3,.ptr 0 0),(7,.os 1)],[.cells (cellsOf .district a0),.mp .acequialaw27Key .int (aJ a2) none,.dead,.dead]⟩) st) else bif Nat.beq id 4 then some (LCR (ρ:=Unit) (σ:=Int) 4 [] [0,1,2,3] (fun k_2 s_2=> ⟨[(3,.ptr 0 0),(7,.os 1),(13,.v (.int .i64 s_2)),(62,.rs .reach a0.reaches),(63,.v (.int .i64 (a0.reaches.length : Int))),(64,.v (.int .i64 (k_2 : Int)))],[.cells (cellsOf .district a0),.mp .acequialaw27Key .int (aJ a2) none,.dead,.dead]⟩) (d_ a0 a2) (jt a0 a2) a0.reaches.length 0 (a0.reaches.length≤bv) (fun _=> .ret) (fun x_2_0=> ⟨[(6,.v (.bool false))],[.dead,.dead,.dead,.dead]⟩) st) else none),?_,?_⟩
 ·unfold ag Tryz.f26
  simp only [az,true_and,and_true]
  refine ⟨?_,?_,?_⟩
  ·refine cq mixed aF hG (by kernel_rfl) (fun _=> rfl) (a1.length : Int) rfl j7 (fun hb0 k_0 s_0 hlt0 _ hw hc=> ⟨L0,av _,?_⟩) (fun hb0 s_0 hc=> ?_)
   ·exact JU
   ·exact JV
  ·refine IK (cW .acequialaw27Key,cW .int) 3 mixed aF hG (by kernel_rfl) (fun _=> rfl) fun left_1 cur_1 s_1 hp1=> ⟨L0,av _,?_⟩
   ·by_cases hl1 : left_1=[]
    ·subst hl1
     simp only [go_sem,Nat.reduceBEq,Nat.reduceLeDiff,Nat.reduceLT,decide_true,Nat.reduceAdd,Nat.reduceSub,Nat.reduceMul,Int.reduceLE,Int.reduceLT,Int.reduceToNat,Int.reduceNeg,reduceCtorEq,List.not_mem_nil]
     all_goals exact sd
    ·simp only [go_sem,Nat.reduceBEq,Nat.reduceLeDiff,Nat.reduceLT,decide_true,Nat.reduceAdd,Nat.reduceSub,Nat.reduceMul,Int.reduceLE,Int.reduceLT,Int.reduceToNat,Int.reduceNeg,reduceCtorEq,hl1]
     intro j hj1
     obtain ⟨hlt1,hq1⟩ :=hp1 j hj1
     unfold jq at hq1
     all_goals exact sd
  ·refine cq mixed aF hG (by kernel_rfl) (fun _=> rfl) (a0.reaches.length : Int) rfl j7 (fun hb2 k_2 s_2 hlt2 hq2 hw hc=> ⟨(fun id st=> bif Nat.beq id 6 then some (LCR (ρ:=Unit) (σ:=Int) 5 [] [0,1,2,3,4] (fun k_3 s_3=> ⟨[(3,.ptr 0 0),(7,.os 1),(13,.v (.int .i64 s_3)),(14,.v (.int .i64 (k_2 : Int))),(15,.ptr 4 0),(62,.rs .reach a0.reaches),(63,.v (.int .i64 (a0.reaches.length : Int))),(64,.v (.int .i64 (k_2 : Int))),(70,.v (.int .i64 a0.hours)),(71,.v (.int .i64 (k_3 : Int)))],[.cells (cellsOf .district a0),.mp .acequialaw27Key .int (aJ a2) none,.dead,.dead,.cells (cellsOf .reach (a0.reaches.getD k_2 (default : Reach)))]⟩) (df a0 a2 k_2) (jr a0 a2 k_2) (Int.toNat a0.hours) s_2 (a0.hours < 9223372036854775808) (fun _=> .ret) (fun x_3_0=> ⟨[(6,.v (.bool false))],[.dead,.dead,.dead,.dead,.dead]⟩) st) else none),?_,?_⟩) (fun hb2 s_2 hc=> ?_)
   ·simp only [az,true_and,and_true]
    ·refine cq mixed aF hG (by kernel_rfl) (fun _=> rfl) a0.hours rfl id (fun hb3 k_3 s_3 hlt3 hq3 hw hc=> ⟨(fun id st=> bif Nat.beq id 8 then some (LCV (ρ:=Int) (σ:=(Int×Int)) 5 [] [0,1,2,3,4] (fun k_4 s_4=> ⟨[(3,.ptr 0 0),(7,.os 1),(13,.v (.int .i64 s_3)),(14,.v (.int .i64 (k_2 : Int))),(15,.ptr 4 0),(16,.v (.int .i64 (k_3 : Int))),(17,.v (.int .i64 (ay .acequialaw27Key .int (aJ a2) ({ outlet:=false,index:=(k_2 : Int),hour:=(k_3 : Int)} : Acequialaw27Key)))),(18,.v (.int .i64 s_4.1)),(19,.v (.int .i64 s_4.2)),(62,.rs .reach a0.reaches),(63,.v (.int .i64 (a0.reaches.length : Int))),(64,.v (.int .i64 (k_2 : Int))),(70,.v (.int .i64 a0.hours)),(71,.v (.int .i64 (k_3 : Int)))],[.cells (cellsOf .district a0),.mp .acequialaw27Key .int (aJ a2) none,.dead,.dead,.cells (cellsOf .reach (a0.reaches.getD k_2 (default : Reach)))]⟩) (d9 a0 a2 k_2 k_3) pT (1 + Int.toNat (a0.reaches.getD k_2 (default : Reach)).delay) (0,(IntKind.i64.wrap ((IntKind.i64.wrap ((k_3 : Int) - (a0.reaches.getD k_2 (default : Reach)).delay)) + 1))) (fun _=> .normal) (fun x_4_0=> ⟨[(3,.ptr 0 0),(7,.os 1),(13,.v (.int .i64 s_3)),(14,.v (.int .i64 (k_2 : Int))),(15,.ptr 4 0),(16,.v (.int .i64 (k_3 : Int))),(17,.v (.int .i64 (ay .acequialaw27Key .int (aJ a2) ({ outlet:=false,index:=(k_2 : Int),hour:=(k_3 : Int)} : Acequialaw27Key)))),(18,.v (.int .i64 x_4_0)),(62,.rs .reach a0.reaches),(63,.v (.int .i64 (a0.reaches.length : Int))),(64,.v (.int .i64 (k_2 : Int))),(70,.v (.int .i64 a0.hours)),(71,.v (.int .i64 (k_3 : Int)))],[.cells (cellsOf .district a0),.mp .acequialaw27Key .int (aJ a2) none,.dead,.dead,.cells (cellsOf .reach (a0.reaches.getD k_2 (default : Reach)))]⟩) st) else bif Nat.beq id 1000117 then some (JC (⟨[(3,.ptr 0 0),(7,.os 1),(13,.v (.int .i64 (bif ((k_2 : Int) ==0) then (IntKind.i64.wrap (s_3 + (ay .acequialaw27Key .int (aJ a2) ({ outlet:=false,index:=(k_2 : Int),hour:=(k_3 : Int)} : Acequialaw27Key)))) else s_3))),(14,.v (.int .i64 (k_2 : Int))),(15,.ptr 4 0),(16,.v (.int .i64 (k_3 : Int))),(62,.rs .reach a0.reaches),(63,.v (.int .i64 (a0.reaches.length : Int))),(64,.v (.int .i64 (k_2 : Int))),(70,.v (.int .i64 a0.hours)),(71,.v (.int .i64 (k_3 : Int)))],[.cells (cellsOf .district a0),.mp .acequialaw27Key .int (aJ a2) none,.dead,.dead,.cells (cellsOf .reach (a0.reaches.getD k_2 (default : Reach)))]⟩)) else bif Nat.beq id 10 then some (LCR (ρ:=Empty) (σ:=Int) 5 [] [0,1,2,3,4] (fun k_5 s_5=> ⟨[(3,.ptr 0 0),(7,.os 1),(13,.v (.int .i64 (bif ((k_2 : Int) ==0) then (IntKind.i64.wrap (s_3 + (ay .acequialaw27Key .int (aJ a2) ({ outlet:=false,index:=(k_2 : Int),hour:=(k_3 : Int)} : Acequialaw27Key)))) else s_3))),(14,.v (.int .i64 (k_2 : Int))),(15,.ptr 4 0),(16,.v (.int .i64 (k_3 : Int))),(20,.v (.int .i64 s_5)),(62,.rs .reach a0.reaches),(63,.v (.int .i64 (a0.reaches.length : Int))),(64,.v (.int .i64 (k_2 : Int))),(70,.v (.int .i64 a0.hours)),(71,.v (.int .i64 (k_3 : Int))),(122,.rs .reach a0.reaches),(123,.v (.int .i64 (a0.reaches.length : Int))),(124,.v (.int .i64 (k_5 : Int)))],[.cells (cellsOf .district a0),.mp .acequialaw27Key .int (aJ a2) none,.dead,.dead,.cells (cellsOf .reach (a0.reaches.getD k_2 (default : Reach)))]⟩) (eS a0 a2 k_2 k_3) pT a0.reaches.length 0 (a0.reaches.length≤bv) ((·.elim)) ((·.elim)) st) else bif Nat.beq id 12 then some (LCR (ρ:=Empty) (σ:=Int) 5 [] [0,1,2,3,4] (fun k_6 s_6=> ⟨[(3,.ptr 0 0),(7,.os 1),(13,.v (.int .i64 (bif ((k_2 : Int) ==0) then (IntKind.i64.wrap (s_3 + (ay .acequialaw27Key .int (aJ a2) ({ outlet:=false,index:=(k_2 : Int),hour:=(k_3 : Int)} : Acequialaw27Key)))) else s_3))),(14,.v (.int .i64 (k_2 : Int))),(15,.ptr 4 0),(16,.v (.int .i64 (k_3 : Int))),(20,.v (.int .i64 s_6)),(62,.rs .reach a0.reaches),(63,.v (.int .i64 (a0.reaches.length : Int))),(64,.v (.int .i64 (k_2 : Int))),(70,.v (.int .i64 a0.hours)),(71,.v (.int .i64 (k_3 : Int))),(142,.rs .farm a0.farms),(143,.v (.int .i64 (a0.farms.length : Int))),(144,.v (.int .i64 (k_6 : Int)))],[.cells (cellsOf .district a0),.mp .acequialaw27Key .int (aJ a2) none,.dead,.dead,.cells (cellsOf .reach (a0.reaches.getD k_2 (default : Reach)))]⟩) (f7 a0 a2 k_2 k_3) pT a0.farms.length (aD (aw (eS a0 a2 k_2 k_3) a0.reaches.length 0 0)) (a0.farms.length≤bv) ((·.elim)) ((·.elim)) st) else none),?_,?_⟩) (fun hb3 s_3 hc=> ?_)
     ·simp only [az,true_and,and_true]
      refine ⟨?_,?_,?_⟩
      ·refine zX mixed aF hG (by kernel_rfl) (fun _=> rfl) fun k_4 s_4 _=> ⟨L0,av _,?_⟩
       ·exact JY
      ·refine cq mixed aF hG (by kernel_rfl) (fun _=> rfl) (a0.reaches.length : Int) rfl j7 (fun hb5 k_5 s_5 hlt5 _ hw hc=> ⟨L0,av _,?_⟩) (fun hb5 s_5 hc=> ?_)
       ·exact wh
       ·exact wi
      ·refine cq mixed aF hG (by kernel_rfl) (fun _=> rfl) (a0.farms.length : Int) rfl j7 (fun hb6 k_6 s_6 hlt6 _ hw hc=> ⟨L0,av _,?_⟩) (fun hb6 s_6 hc=> ?_)
       ·exact wh
       ·exact wi
     ·unfold jr at hq3
      try simp only [hw,Int.toNat_natCast] at hq3
      exact wh
     ·exact wi
   ·unfold jt at hq2
    try simp only [hw,Int.toNat_natCast] at hq2
    exact JW
   ·exact JX
 ·unfold ag Tryz.f26
  try unfold eX
  simp only [go_sem,Nat.reduceBEq,Nat.reduceLeDiff,Nat.reduceLT,decide_true,Nat.reduceAdd,Nat.reduceSub,Nat.reduceMul,Int.reduceLE,Int.reduceLT,Int.reduceToNat,Int.reduceNeg,reduceCtorEq]
  all_goals exact cl
end Go.Sx
end
