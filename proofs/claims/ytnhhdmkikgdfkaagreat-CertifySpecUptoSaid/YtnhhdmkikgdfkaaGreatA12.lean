/- Part of the proof that the law CertifySpec returns true and leaves its arguments as they were, for all arguments of bulk at most 1048576 (the Upto form). -/
import Derived.Test.YtnhhdmkikgdfkaaGreatA11
import Derived.Test.YtnhhdmkikgdfkaaGreatA07
set_option linter.all false
section
namespace Go.Sx
open Go.Proofs
def osum (p : Order → Bool) : List Order → Int
  | [] => 0
  | x :: r => (bif p x then x.litres else 0) + osum p r
theorem osum_app (p : Order → Bool) (a b : List Order) : osum p (a ++ b) = osum p a + osum p b := by
  induction a with
  | nil => simp [osum]
  | cons x r ih => simp only [List.cons_append, osum, ih]; omega
theorem osum_bound {p : Order → Bool} {l : List Order} (h : ∀ x ∈ l, 1 ≤ x.litres ∧ x.litres ≤ 1073741824) : 0 ≤ osum p l ∧ osum p l ≤ l.length * 1073741824 := by
  induction l with
  | nil => simp [osum]
  | cons x r ih =>
    have h1 := ih fun a ha => h a (List.mem_cons_of_mem _ ha)
    have h2 := h x List.mem_cons_self
    simp only [osum, List.length_cons]
    cases p x <;> simp only [cond_true, cond_false] <;> omega
theorem osum_none {p : Order → Bool} {l : List Order} (h : ∀ x ∈ l, p x = false) : osum p l = 0 := by
  induction l with
  | nil => rfl
  | cons x r ih =>
    simp only [osum]
    rw [h x List.mem_cons_self, ih fun y hy => h y (List.mem_cons_of_mem _ hy)]
    rfl
theorem osum_add {p q r : Order → Bool} {l : List Order} (h : ∀ x ∈ l, (r x = (p x || q x)) ∧ (p x && q x) = false) : osum p l + osum q l = osum r l := by
  induction l with
  | nil => rfl
  | cons x t ih =>
    simp only [osum]
    have h1 := h x List.mem_cons_self
    have h2 := ih fun y hy => h y (List.mem_cons_of_mem _ hy)
    rw [h1.1]
    cases hp : p x <;> cases hq : q x <;> simp only [hp, hq, Bool.or_true, Bool.or_false, Bool.and_self, cond_true, cond_false] at h1 ⊢
    all_goals (first | omega | (simp at h1))
theorem osum_one {p : Order → Bool} {l : List Order} {j : Nat} (hj : j < l.length) (h : p l[j] = true) (hn : ∀ i (hi : i < l.length), i ≠ j → p l[i] = false) : osum p l = l[j].litres := by
  have e : l = l.take j ++ l[j] :: l.drop (j + 1) := by rw [← List.drop_eq_getElem_cons hj, List.take_append_drop]
  conv => lhs; rw [e, osum_app]
  rw [osum_none fun x hx => ?_]
  · simp only [osum, h, cond_true]
    rw [osum_none fun x hx => ?_]
    · omega
    · obtain ⟨i, hi, rfl⟩ := List.getElem_of_mem hx
      rw [List.length_drop] at hi
      rw [List.getElem_drop]
      exact hn _ _ (by omega)
  · obtain ⟨i, hi, rfl⟩ := List.getElem_of_mem hx
    rw [List.length_take] at hi
    rw [List.getElem_take]
    exact hn _ _ (by omega)
theorem sum_run {p : Order → Bool} {l : List Order} (hl : l.length ≤ 4096) (h : ∀ x ∈ l, 1 ≤ x.litres ∧ x.litres ≤ 1073741824) {step : Nat → Int → Empty ⊕ Int}
    (hs : ∀ k s, step k s = bif p (l.getD k default) then .inr (IntKind.i64.wrap (s + (l.getD k default).litres)) else .inr s) : runI step l.length 0 0 = .inr (osum p l) := by
  cases hr : runI step l.length 0 0 with
  | inl x => exact x.elim
  | inr m =>
    have := runI_inv (fun j s => s = osum p (l.take j)) _ _ _ (by simp [osum]) (fun j s _ hj hg s' hs' => by
      have hj : j < l.length := by omega
      rw [hs, getD_el _ _ hj] at hs'
      rw [List.take_succ_eq_append_getElem hj, osum_app, ← hg]
      have hb := osum_bound (p := p) fun a ha => h a (List.mem_of_mem_take (i := j) ha)
      have hb2 := h l[j] (List.getElem_mem _)
      have hb3 : (l.take j).length ≤ 4096 := by rw [List.length_take]; omega
      simp only [osum]
      cases hd : p l[j] with
      | true =>
        rw [hd] at hs'
        simp only [cond_true, Sum.inr.injEq] at hs' ⊢
        rw [← hs', wrapI (by omega) (by omega)]; omega
      | false =>
        rw [hd] at hs'
        simp only [cond_false, Sum.inr.injEq] at hs' ⊢
        rw [← hs']; omega) m hr
    rw [Nat.zero_add, List.take_length] at this
    rw [this]
def gateP (reach a b : Int) (x : Order) : Bool := (!x.outlet && x.index == reach) && decide (x.hour ≥ a) && decide (x.hour ≤ b)
def drawP (d : District) (reach hour : Int) (x : Order) : Bool := (x.hour == hour) && ((x.outlet && (d.farms.getD x.index.toNat default).reach == reach) || (!x.outlet && (d.reaches.getD x.index.toNat default).up == reach))
theorem Orders1.lit {d : District} {l : List Order} (h : Orders1 d l) : ∀ x ∈ l, 1 ≤ x.litres ∧ x.litres ≤ 1073741824 := fun x hx => by
  obtain ⟨k, hk, rfl⟩ := List.getElem_of_mem hx
  have := h.one k hk
  rw [getD_el _ _ hk] at this
  exact ⟨this.litres1, this.litres⟩
theorem Sum_eq {d : District} {l : List Order} (h : Orders1 d l) (reach a b : Int) : ref28_Sum l reach a b = osum (gateP reach a b) l := by
  unfold ref28_Sum
  rw [sum_run (step := ref28_Sum_l0 l reach a b) (p := gateP reach a b) h.len h.lit fun k s => rfl]
theorem Orders1.uniq {d : District} {l : List Order} (h : Orders1 d l) {i j : Nat} (hi : i < l.length) (hj : j < l.length) (e1 : l[i].hour = l[j].hour) (e2 : l[i].index = l[j].index) (e3 : l[i].outlet = l[j].outlet) : i = j := by
  have key : ∀ a b (ha : a < l.length) (hb : b < l.length), a < b → l[a].hour = l[b].hour → l[a].index = l[b].index → l[a].outlet = l[b].outlet → False := fun a b ha hb hab e1 e2 e3 => by
    have := h.lt b a hab hb
    rw [getD_el _ _ ha, getD_el _ _ hb] at this
    unfold olt oval at this
    rw [e1, e2, e3] at this
    omega
  rcases Nat.lt_trichotomy i j with h1 | h1 | h1
  · exact (key i j hi hj h1 e1 e2 e3).elim
  · exact h1
  · exact (key j i hj hi h1 e1.symm e2.symm e3.symm).elim
theorem getDset {α : Type} (l : List α) (d r : α) (i k : Nat) (hi : i < l.length) : (l.set i r).getD k d = if k = i then r else l.getD k d := by
  rw [List.getD_eq_getElem?_getD, List.getElem?_set, List.getD_eq_getElem?_getD]
  by_cases h : k = i
  · subst h; simp [hi]
  · rw [if_neg (fun e => h e.symm), if_neg h]
def cell (g : List (List Int)) (i j : Nat) : Int := (g.getD i []).getD j 0
theorem cell_set2 {g : List (List Int)} {n m : Nat} (hg : Grid g n m) {i j : Nat} (hi : i < n) (hj : j < m) (v : Int) (a b : Nat) : cell (g.set i ((g.getD i []).set j v)) a b = if a = i ∧ b = j then v else cell g a b := by
  unfold cell
  have h1 : i < g.length := by rw [hg.1]; exact hi
  rw [getDset _ _ _ _ _ h1]
  by_cases ha : a = i
  · subst ha
    rw [if_pos rfl, getDset _ _ _ _ _ (by rw [hg.row hi]; exact hj)]
    by_cases hb : b = j <;> simp [hb]
  · rw [if_neg ha, if_neg (fun e => ha e.1)]
end Go.Sx
end
section
namespace Go.Sx
open Go.Proofs
def placeP (h i : Int) (o : Bool) (x : Order) : Bool := (x.hour == h && x.index == i) && x.outlet == o
structure T1 (d : District) (pre : List Order) (s : List (CertifyPlace × Int) × List (List Int) × List (List Int)) : Prop where
  lit : ∀ h i o, mgetT .certifyPlace .int s.1 { hour := h, index := i, outlet := o } = osum (placeP h i o) pre
  gd : Grid s.2.1 d.reaches.length d.hours.toNat
  gs : Grid s.2.2 d.reaches.length (d.hours + 1).toNat
  drawn : ∀ r h, r < d.reaches.length → h < d.hours.toNat → cell s.2.1 r h = osum (drawP d r h) pre
  sums : ∀ r t, r < d.reaches.length → t < (d.hours + 1).toNat → cell s.2.2 r t = osum (gateP r ((t : Int) - 1) ((t : Int) - 1)) pre
theorem osum_take {p : Order → Bool} {l : List Order} {j : Nat} (hj : j < l.length) : osum p (l.take (j + 1)) = osum p (l.take j) + (bif p l[j] then l[j].litres else 0) := by
  rw [List.take_succ_eq_append_getElem hj, osum_app]
  simp [osum]
theorem take_none {d : District} {l : List Order} (ho : Orders1 d l) {j : Nat} (hj : j < l.length) {p : Order → Bool} (hp : ∀ x, p x = true → x.hour = l[j].hour ∧ x.index = l[j].index ∧ x.outlet = l[j].outlet) : osum p (l.take j) = 0 :=
  osum_none fun x hx => by
    obtain ⟨i, hi, rfl⟩ := List.getElem_of_mem hx
    rw [List.length_take] at hi
    rw [List.getElem_take]
    cases h : p l[i] with
    | false => rfl
    | true =>
      obtain ⟨e1, e2, e3⟩ := hp _ h
      have := ho.uniq (by omega) hj e1 e2 e3
      omega
theorem take_le {d : District} {l : List Order} (ho : Orders1 d l) (p : Order → Bool) (j : Nat) : 0 ≤ osum p (l.take j) ∧ osum p (l.take j) ≤ 4398046511104 := by
  have hb := osum_bound (p := p) fun a ha => ho.lit a (List.mem_of_mem_take (i := j) ha)
  have hl := ho.len
  have hb3 : (l.take j).length ≤ 4096 := by rw [List.length_take]; omega
  omega
theorem nat_beq {a : Nat} {b : Int} (hb : 0 ≤ b) : ((b == (a : Int)) = true) ↔ a = b.toNat := by
  rw [beq_iff_eq]; omega
theorem T1_step {d : District} {l : List Order} (ho : Orders1 d l) {j : Nat} (hj : j < l.length) {s s' : List (CertifyPlace × Int) × List (List Int) × List (List Int)} (h : T1 d (l.take j) s) (hs : certify_read_l1 d l j s = .inr s') : T1 d (l.take (j + 1)) s' := by
  have hR := ho.right
  have a1 := hR.hours1
  have a2 := hR.hours
  have hx := ho.one j hj
  rw [getD_el _ _ hj] at hx
  have hgd := (read1_step ho j hj s h.gd h.gs).2 s' hs
  have x0 := hx.hour0
  have x1 := hx.hour
  have x2 := hx.index0
  have x3 := hx.litres1
  have x4 := hx.litres
  have hlit : s'.1 = mupdT .certifyPlace .int s.1 { hour := l[j].hour, index := l[j].index, outlet := l[j].outlet } l[j].litres := by
    unfold certify_read_l1 at hs
    rw [getD_el _ _ hj] at hs
    simp only [Bool.cond_eq_ite] at hs
    repeat' split at hs
    all_goals (simp only [Sum.inr.injEq] at hs; subst hs; rfl)
  refine ⟨fun hh i o => ?_, hgd.1, hgd.2, fun r t hr ht => ?_, fun r t hr ht => ?_⟩
  · rw [hlit, mgetT_mupdT, osum_take hj, h.lit]
    by_cases hp : ({ hour := hh, index := i, outlet := o } : CertifyPlace) = { hour := l[j].hour, index := l[j].index, outlet := l[j].outlet }
    · rw [if_pos hp]
      simp only [CertifyPlace.mk.injEq] at hp
      obtain ⟨e1, e2, e3⟩ := hp
      have hpp : placeP hh i o l[j] = true := by unfold placeP; rw [e1, e2, e3]; simp
      rw [hpp, take_none ho hj fun x hx => ?_]
      · exact (Int.zero_add _).symm
      · unfold placeP at hx
        simp only [Bool.and_eq_true, beq_iff_eq] at hx
        exact ⟨hx.1.1.trans e1, hx.1.2.trans e2, hx.2.trans e3⟩
    · rw [if_neg hp]
      have hpp : placeP hh i o l[j] = false := by
        cases hq : placeP hh i o l[j] with
        | false => rfl
        | true =>
          unfold placeP at hq
          simp only [Bool.and_eq_true, beq_iff_eq] at hq
          exact absurd (by rw [hq.1.1, hq.1.2, hq.2]) hp
      rw [hpp]
      exact (Int.add_zero _).symm
  · have hb := take_le ho (drawP d r t) j
    have hold := h.drawn r t hr ht
    rw [osum_take hj]
    have hd : drawP d r t l[j] = ((l[j].hour == (t : Int)) && ((l[j].outlet && (d.farms.getD l[j].index.toNat default).reach == (r : Int)) || (!l[j].outlet && (d.reaches.getD l[j].index.toNat default).up == (r : Int)))) := rfl
    unfold certify_read_l1 at hs
    rw [getD_el _ _ hj] at hs
    have key : ∀ (at_ : Int), 0 ≤ at_ → at_ < (d.reaches.length : Int) → (drawP d r t l[j] = ((l[j].hour == (t : Int)) && (at_ == (r : Int)))) →
        cell (s.2.1.set at_.toNat ((s.2.1.getD at_.toNat []).set l[j].hour.toNat (IntKind.i64.wrap (((s.2.1.getD at_.toNat []).getD l[j].hour.toNat 0) + l[j].litres)))) r t = osum (drawP d r t) (l.take j) + (bif drawP d r t l[j] then l[j].litres else 0) := fun at_ q0 q1 q2 => by
      rw [cell_set2 h.gd (by omega) (by omega)]
      by_cases hc : r = at_.toNat ∧ t = l[j].hour.toNat
      · obtain ⟨rfl, rfl⟩ := hc
        have : drawP d at_.toNat l[j].hour.toNat l[j] = true := by rw [q2, Bool.and_eq_true, nat_beq x0, nat_beq q0]; exact ⟨rfl, rfl⟩
        rw [if_pos ⟨rfl, rfl⟩, this]
        have hold : (s.2.1.getD at_.toNat []).getD l[j].hour.toNat 0 = _ := hold
        rw [hold, wrapI (by omega) (by omega)]
        rfl
      · rw [if_neg hc, hold]
        have : drawP d r t l[j] = false := by
          cases hq : drawP d r t l[j] with
          | false => rfl
          | true =>
            rw [hq] at q2
            have := q2.symm
            rw [Bool.and_eq_true, nat_beq x0, nat_beq q0] at this
            exact absurd ⟨this.2, this.1⟩ hc
        rw [this]
        exact (Int.add_zero _).symm
    cases ho1 : l[j].outlet with
    | true =>
      have hf := hR.farm l[j].index.toNat (by have := hx.farm ho1; omega)
      rw [ho1, decide_eq_true hf.1] at hs
      simp only [cond_true, Sum.inr.injEq] at hs
      subst hs
      exact key _ hf.1 hf.2 (by rw [hd, ho1]; simp)
    | false =>
      have hf := hR.reachI hx.index0 (hx.reach ho1)
      rw [ho1] at hs
      simp only [cond_false] at hs
      by_cases hu : (d.reaches.getD l[j].index.toNat default).up ≥ 0
      · rw [decide_eq_true hu] at hs
        simp only [cond_true, Sum.inr.injEq] at hs
        subst hs
        have := hf.up
        have := hx.reach ho1
        exact key _ hu (by omega) (by rw [hd, ho1]; simp)
      · rw [decide_eq_false hu] at hs
        simp only [cond_false, Sum.inr.injEq] at hs
        subst hs
        have : drawP d r t l[j] = false := by
          rw [hd, ho1]
          have : ((d.reaches.getD l[j].index.toNat default).up == (r : Int)) = false := by rw [beq_eq_false_iff_ne]; omega
          rw [this]; simp
        rw [this]
        show cell s.2.1 r t = _
        rw [hold]
        exact (Int.add_zero _).symm
  · have hold := h.sums r t hr ht
    rw [osum_take hj]
    unfold certify_read_l1 at hs
    rw [getD_el _ _ hj] at hs
    cases ho1 : l[j].outlet with
    | true =>
      have e : s'.2.2 = s.2.2 := by
        rw [ho1] at hs
        simp only [cond_true] at hs
        simp only [Bool.cond_eq_ite] at hs
        split at hs <;> (simp only [Sum.inr.injEq] at hs; subst hs; rfl)
      have : gateP r ((t : Int) - 1) ((t : Int) - 1) l[j] = false := by unfold gateP; rw [ho1]; rfl
      rw [e, this, hold]
      exact (Int.add_zero _).symm
    | false =>
      have hxr := hx.reach ho1
      have hw : IntKind.i64.wrap (l[j].hour + 1) = l[j].hour + 1 := wrapI (by omega) (by omega)
      have e : s'.2.2 = s.2.2.set l[j].index.toNat ((s.2.2.getD l[j].index.toNat []).set (l[j].hour + 1).toNat l[j].litres) := by
        rw [ho1, hw] at hs
        simp only [cond_false] at hs
        simp only [Bool.cond_eq_ite] at hs
        split at hs <;> (simp only [Sum.inr.injEq] at hs; subst hs; rfl)
      rw [e, cell_set2 h.gs (by omega) (by omega)]
      by_cases hc : r = l[j].index.toNat ∧ t = (l[j].hour + 1).toNat
      · obtain ⟨rfl, rfl⟩ := hc
        rw [if_pos ⟨rfl, rfl⟩]
        have e2 : (((l[j].hour + 1).toNat : Int) - 1) = l[j].hour := by omega
        have e3 : ((l[j].index.toNat : Nat) : Int) = l[j].index := by omega
        rw [e2, e3]
        have : gateP l[j].index l[j].hour l[j].hour l[j] = true := by unfold gateP; rw [ho1]; simp
        rw [this, take_none ho hj fun x hx => ?_]
        · exact (Int.zero_add _).symm
        · unfold gateP at hx
          simp only [Bool.and_eq_true, beq_iff_eq, decide_eq_true_eq, Bool.not_eq_true'] at hx
          exact ⟨by omega, hx.1.1.2, by rw [hx.1.1.1, ho1]⟩
      · rw [if_neg hc, hold]
        have : gateP r ((t : Int) - 1) ((t : Int) - 1) l[j] = false := by
          cases hq : gateP r ((t : Int) - 1) ((t : Int) - 1) l[j] with
          | false => rfl
          | true =>
            unfold gateP at hq
            simp only [Bool.and_eq_true, beq_iff_eq, decide_eq_true_eq, Bool.not_eq_true'] at hq
            exact absurd ⟨by omega, by omega⟩ hc
        rw [this]
        exact (Int.add_zero _).symm
end Go.Sx
end
section
namespace Go.Sx
open Go.Proofs
theorem gate_split {d : District} {l : List Order} (ho : Orders1 d l) (r : Int) (t : Nat) : osum (gateP r 0 ((t : Int) - 1)) l + osum (gateP r t t) l = osum (gateP r 0 t) l :=
  osum_add fun x hx => by
    unfold gateP
    obtain ⟨k, hk, rfl⟩ := List.getElem_of_mem hx
    have h0 := (ho.one k hk).hour0
    rw [getD_el _ _ hk] at h0
    cases (!l[k].outlet && l[k].index == r)
    · simp
    · simp only [Bool.true_and]
      constructor
      · refine b_iff ?_
        simp only [Bool.or_eq_true, Bool.and_eq_true, decide_eq_true_eq]; omega
      · rw [Bool.eq_false_iff]
        simp only [ne_eq, Bool.and_eq_true, decide_eq_true_eq]; omega
theorem all_le {d : District} {l : List Order} (ho : Orders1 d l) (p : Order → Bool) : 0 ≤ osum p l ∧ osum p l ≤ 4398046511104 := by
  have := take_le ho p l.length
  rwa [List.take_length] at this
theorem sums_row {d : District} {l : List Order} (ho : Orders1 d l) {k : Nat} (hk : k < d.reaches.length) {g g' : List (List Int)} (hg : Grid g d.reaches.length (d.hours + 1).toNat)
    (hrow : ∀ t, t < (d.hours + 1).toNat → cell g k t = osum (gateP k ((t : Int) - 1) ((t : Int) - 1)) l) (hr : runI (certify_read_l3 d k) d.hours.toNat 0 g = .inr g') :
    Grid g' d.reaches.length (d.hours + 1).toNat ∧ (∀ t, t < (d.hours + 1).toNat → cell g' k t = osum (gateP k 0 ((t : Int) - 1)) l) ∧ ∀ a t, a ≠ k → cell g' a t = cell g a t := by
  have hR := ho.right
  have a1 := hR.hours1
  have a2 := hR.hours
  have := runI_inv (fun j s => Grid s d.reaches.length (d.hours + 1).toNat ∧ (∀ t, t < (d.hours + 1).toNat → cell s k t = if t ≤ j then osum (gateP k 0 ((t : Int) - 1)) l else osum (gateP k ((t : Int) - 1) ((t : Int) - 1)) l) ∧ ∀ a t, a ≠ k → cell s a t = cell g a t) _ _ _
    ⟨hg, fun t ht => by
      rw [hrow t ht]
      by_cases h : t ≤ 0
      · have : t = 0 := by omega
        subst this
        rw [if_pos h]
        rw [osum_none fun x hx => ?_, osum_none fun x hx => ?_]
        · unfold gateP
          rw [Bool.eq_false_iff]
          simp only [ne_eq, Bool.and_eq_true, decide_eq_true_eq]; omega
        · obtain ⟨i, hi, rfl⟩ := List.getElem_of_mem hx
          have h0 := (ho.one i hi).hour0
          rw [getD_el _ _ hi] at h0
          unfold gateP
          rw [Bool.eq_false_iff]
          simp only [ne_eq, Bool.and_eq_true, decide_eq_true_eq]; omega
      · rw [if_neg h], fun _ _ _ => rfl⟩
    (fun j s _ hj ⟨i1, i2, i3⟩ s' hs' => by
      simp only [certify_read_l3, Sum.inr.injEq] at hs'
      have hw : IntKind.i64.wrap ((j : Int) + 1) = (j : Int) + 1 := wrapI (by omega) (by omega)
      rw [hw] at hs'
      have e1 : ((j : Int) + 1).toNat = j + 1 := by omega
      rw [e1] at hs'
      have c1 := i2 (j + 1) (by omega)
      have c2 := i2 j (by omega)
      rw [if_neg (by omega)] at c1
      rw [if_pos (by omega)] at c2
      have e2 : (((j + 1 : Nat) : Int) - 1) = (j : Int) := by omega
      rw [e2] at c1
      have b1 := all_le ho (gateP k j j)
      have b2 := all_le ho (gateP k 0 ((j : Int) - 1))
      have hc1 : (s.getD k []).getD (j + 1) 0 = osum (gateP k j j) l := c1
      have hc2 : (s.getD k []).getD j 0 = osum (gateP k 0 ((j : Int) - 1)) l := c2
      rw [hc1, hc2, wrapI (by omega) (by omega)] at hs'
      have hsp := gate_split ho k j
      subst hs'
      refine ⟨i1.set2, fun t ht => ?_, fun a t ha => ?_⟩
      · rw [cell_set2 i1 hk (by omega)]
        by_cases h : k = k ∧ t = j + 1
        · rw [if_pos h, if_pos (by omega), h.2, e2]; omega
        · rw [if_neg h, i2 t ht]
          have : t ≠ j + 1 := fun e => h ⟨rfl, e⟩
          by_cases h2 : t ≤ j
          · rw [if_pos h2, if_pos (by omega)]
          · rw [if_neg h2, if_neg (by omega)]
      · rw [cell_set2 i1 hk (by omega), if_neg (fun e => ha e.1)]
        exact i3 a t ha) g' hr
  rw [Nat.zero_add] at this
  refine ⟨this.1, fun t ht => ?_, this.2.2⟩
  rw [this.2.1 t ht, if_pos (by omega)]
structure Table2 (d : District) (l : List Order) (t : CertifyTable) : Prop where
  lit : ∀ h i o, mgetT .certifyPlace .int t.litres { hour := h, index := i, outlet := o } = osum (placeP h i o) l
  drawn : ∀ r h, r < d.reaches.length → h < d.hours.toNat → cell t.drawn r h = osum (drawP d r h) l
  sums : ∀ r j, r < d.reaches.length → j < (d.hours + 1).toNat → cell t.sums r j = osum (gateP r 0 ((j : Int) - 1)) l
theorem zero_grid (n m : Nat) (i j : Nat) (hi : i < n) : ∀ (g : List (List Int)), (∀ k, k < n → g.getD k [] = List.replicate m 0) → cell g i j = 0 := fun g h => by
  unfold cell
  rw [h i hi, List.getD_eq_getElem?_getD, List.getElem?_replicate]
  split <;> rfl
theorem table2 {d : District} {l : List Order} (h : (certify_read d l).2 = 0) : Table2 d l (certify_read d l).1 := by
  have ht := read_table (d := d) (l := l) (by simp [h])
  have ho := ht.ords
  have hR := ho.right
  have a1 := hR.hours1
  have a2 := hR.hours
  unfold certify_read at h ⊢
  cases h1 : (decide (IntKind.i64.wrap ((d.reaches.length : Int) * d.hours) > 1024) || decide ((l.length : Int) > 4096)) with
  | true => rw [h1] at h; simp at h
  | false =>
    rw [h1] at h
    simp only [cond_false] at h ⊢
    cases h2 : (routing_Check d l != 0) with
    | true => rw [h2] at h; simp at h
    | false =>
      simp only [cond_false]
      have hw : IntKind.i64.wrap (d.hours + 1) = d.hours + 1 := wrapI (by omega) (by omega)
      cases hs0 : runI (certify_read_l0 d) d.reaches.length 0 ([], []) with
      | inl x => exact x.elim
      | inr s0 =>
        have hg0 := runI_inv (fun j s => (s.1.length = j ∧ ∀ k, k < j → s.1.getD k [] = List.replicate (d.hours + 1).toNat 0) ∧ (s.2.length = j ∧ ∀ k, k < j → s.2.getD k [] = List.replicate d.hours.toNat 0)) _ _ _ ⟨⟨rfl, fun k hk => by omega⟩, ⟨rfl, fun k hk => by omega⟩⟩ (fun j s _ hj hg s' hs => by
          simp only [certify_read_l0, Sum.inr.injEq] at hs
          subst hs
          simp only [hw]
          refine ⟨⟨by simp [hg.1.1], fun k hk => ?_⟩, ⟨by simp [hg.2.1], fun k hk => ?_⟩⟩
          · rw [List.getD_eq_getElem?_getD, List.getElem?_append]
            by_cases hkj : k < j
            · rw [if_pos (by omega), ← List.getD_eq_getElem?_getD]; exact hg.1.2 k hkj
            · rw [if_neg (by omega)]
              have : k - s.1.length = 0 := by omega
              rw [this]; rfl
          · rw [List.getD_eq_getElem?_getD, List.getElem?_append]
            by_cases hkj : k < j
            · rw [if_pos (by omega), ← List.getD_eq_getElem?_getD]; exact hg.2.2 k hkj
            · rw [if_neg (by omega)]
              have : k - s.2.length = 0 := by omega
              rw [this]; rfl) s0 hs0
        simp only [Nat.zero_add] at hg0
        dsimp only
        cases hs1 : runI (certify_read_l1 d l) l.length 0 ([], s0.2, s0.1) with
        | inl x => exact x.elim
        | inr s1 =>
          have hT0 : T1 d (l.take 0) ([], s0.2, s0.1) := by
            refine ⟨fun _ _ _ => by simp [osum, mgetT, mget, dflt], ⟨hg0.2.1, fun i hi => by rw [hg0.2.2 i hi]; simp⟩, ⟨hg0.1.1, fun i hi => by rw [hg0.1.2 i hi]; simp⟩, fun r h hr _ => ?_, fun r t hr _ => ?_⟩
            · simp only [List.take_zero, osum]; exact zero_grid _ _ r h hr _ hg0.2.2
            · simp only [List.take_zero, osum]; exact zero_grid _ _ r t hr _ hg0.1.2
          have hT := runI_inv (fun j s => T1 d (l.take j) s) _ _ _ hT0 (fun j s _ hj hg s' hs' => T1_step ho (by omega) hg hs') s1 hs1
          rw [Nat.zero_add, List.take_length] at hT
          dsimp only
          cases hs2 : runI (certify_read_l2 d s1) s1.2.2.length 0 s1.2.2 with
          | inl x => exact x.elim
          | inr s2 =>
            have hlen := hT.gs.1
            have h3 := runI_inv (fun j s => Grid s d.reaches.length (d.hours + 1).toNat ∧ (∀ a t, a < j → a < d.reaches.length → t < (d.hours + 1).toNat → cell s a t = osum (gateP a 0 ((t : Int) - 1)) l) ∧ ∀ a t, j ≤ a → cell s a t = cell s1.2.2 a t) _ _ _
              ⟨hT.gs, fun a t ha => by omega, fun _ _ _ => rfl⟩ (fun j s _ hj ⟨i1, i2, i3⟩ s' hs' => by
                unfold certify_read_l2 at hs'
                split at hs'
                · rename_i x _; exact x.elim
                · rename_i s3 h3
                  simp only [Sum.inr.injEq] at hs'
                  subst hs'
                  obtain ⟨q1, q2, q3⟩ := sums_row ho (by omega) i1 (fun t ht => by rw [i3 j t (Nat.le_refl _)]; exact hT.sums j t (by omega) ht) h3
                  refine ⟨q1, fun a t ha ha2 ht => ?_, fun a t ha => ?_⟩
                  · by_cases e : a = j
                    · subst e; exact q2 t ht
                    · rw [q3 a t e]; exact i2 a t (by omega) ha2 ht
                  · rw [q3 a t (by omega)]; exact i3 a t (by omega)) s2 hs2
            rw [Nat.zero_add] at h3
            exact ⟨hT.lit, hT.drawn, fun r j hr hj => h3.2.1 r j (by omega) hr hj⟩
end Go.Sx
end
section
namespace Go.Sx
open Go.Proofs
set_option maxRecDepth 100000
set_option linter.unusedSimpArgs false
theorem crSxR13_0 {p : Prop} (h : p := by (first | done | (repeat' (first | with_reducible refine And.intro ?_ ?_ | ((with_reducible show _ ≠ _); first | assumption | omega | (simp_all [outR, outL]; done) | grind) | with_reducible intro _)) <;> (first | done | exact Empty.elim ‹Empty› | assumption | rfl | omega | decide | exact fk [0, 1] | exact fk [0, 6] | exact fk [0, 4] | (simp only [*, cond_true, cond_false, Bool.not_true, Bool.not_false, go_sem, Nat.reduceBEq, Nat.reduceLeDiff, Nat.reduceAdd, Nat.reduceSub, Nat.reduceMul, Int.reduceLE, Int.reduceLT, Int.reduceToNat, Int.reduceNeg, reduceCtorEq]; done) | (simp only [*, cond_true, cond_false, Bool.not_true, Bool.not_false, go_sem, Nat.reduceBEq, Nat.reduceLeDiff, Nat.reduceAdd, Nat.reduceSub, Nat.reduceMul, Int.reduceLE, Int.reduceLT, Int.reduceToNat, Int.reduceNeg, reduceCtorEq]; (repeat' (first | with_reducible refine And.intro ?_ ?_ | ((with_reducible show _ ≠ _); first | assumption | omega | (simp_all [outR, outL]; done) | grind) | with_reducible intro _)) <;> (first | done | assumption | rfl | omega | decide | exact fk [0, 1] | exact fk [0, 6] | exact fk [0, 4] | (simp_all [outR, outL]; done))) | (simp_all [okI, outR, outL]; done) | (simp_all [outR, outL]; (first | done | exact fk2 [0, 1] | exact fk2 [0, 6] | exact fk2 [0, 4])) | exact fk2 [0, 1] | exact fk2 [0, 6] | exact fk2 [0, 4]))) : p := h
theorem crSxR13_1 {p : Prop} (h : p := by (first | done | (repeat' (first | with_reducible refine And.intro ?_ ?_ | ((with_reducible show _ ≠ _); first | assumption | omega | (simp_all [outR, outL]; done) | grind) | with_reducible intro _)) <;> (first | done | exact Empty.elim ‹Empty› | assumption | rfl | omega | decide | exact fk [0, 1, 4] | exact fk [0, 1, 2] | (simp only [*, cond_true, cond_false, Bool.not_true, Bool.not_false, go_sem, Nat.reduceBEq, Nat.reduceLeDiff, Nat.reduceAdd, Nat.reduceSub, Nat.reduceMul, Int.reduceLE, Int.reduceLT, Int.reduceToNat, Int.reduceNeg, reduceCtorEq]; done) | (simp only [*, cond_true, cond_false, Bool.not_true, Bool.not_false, go_sem, Nat.reduceBEq, Nat.reduceLeDiff, Nat.reduceAdd, Nat.reduceSub, Nat.reduceMul, Int.reduceLE, Int.reduceLT, Int.reduceToNat, Int.reduceNeg, reduceCtorEq]; (repeat' (first | with_reducible refine And.intro ?_ ?_ | ((with_reducible show _ ≠ _); first | assumption | omega | (simp_all [outR, outL]; done) | grind) | with_reducible intro _)) <;> (first | done | assumption | rfl | omega | decide | exact fk [0, 1, 4] | exact fk [0, 1, 2] | (simp_all [outR, outL]; done))) | (simp_all [okI, outR, outL]; done) | (simp_all [outR, outL]; (first | done | exact fk2 [0, 1, 4] | exact fk2 [0, 1, 2])) | exact fk2 [0, 1, 4] | exact fk2 [0, 1, 2]))) : p := h
theorem crSxR13_2 {p : Prop} (h : p := by (first | done | (repeat' (first | with_reducible refine And.intro ?_ ?_ | ((with_reducible show _ ≠ _); first | assumption | omega | (simp_all [outR, outL]; done) | grind) | with_reducible intro _)) <;> (first | done | exact Empty.elim ‹Empty› | assumption | rfl | omega | decide | exact fk [0, 2] | exact fk [0, 1] | (simp only [*, cond_true, cond_false, Bool.not_true, Bool.not_false, go_sem, Nat.reduceBEq, Nat.reduceLeDiff, Nat.reduceAdd, Nat.reduceSub, Nat.reduceMul, Int.reduceLE, Int.reduceLT, Int.reduceToNat, Int.reduceNeg, reduceCtorEq]; done) | (simp only [*, cond_true, cond_false, Bool.not_true, Bool.not_false, go_sem, Nat.reduceBEq, Nat.reduceLeDiff, Nat.reduceAdd, Nat.reduceSub, Nat.reduceMul, Int.reduceLE, Int.reduceLT, Int.reduceToNat, Int.reduceNeg, reduceCtorEq]; (repeat' (first | with_reducible refine And.intro ?_ ?_ | ((with_reducible show _ ≠ _); first | assumption | omega | (simp_all [outR, outL]; done) | grind) | with_reducible intro _)) <;> (first | done | assumption | rfl | omega | decide | exact fk [0, 2] | exact fk [0, 1] | (simp_all [outR, outL]; done))) | (simp_all [okI, outR, outL]; done) | (simp_all [outR, outL]; (first | done | exact fk2 [0, 2] | exact fk2 [0, 1])) | exact fk2 [0, 2] | exact fk2 [0, 1]))) : p := h
theorem crSxR13_3 {p : Prop} (h : p := by (first | done | (repeat' (first | with_reducible refine And.intro ?_ ?_ | ((with_reducible show _ ≠ _); first | assumption | omega | (simp_all [outR, outL]; done) | grind) | with_reducible intro _)) <;> (first | done | exact Empty.elim ‹Empty› | assumption | rfl | omega | decide | exact fk [0] | exact fk [0, 1] | (simp only [*, cond_true, cond_false, Bool.not_true, Bool.not_false, go_sem, Nat.reduceBEq, Nat.reduceLeDiff, Nat.reduceAdd, Nat.reduceSub, Nat.reduceMul, Int.reduceLE, Int.reduceLT, Int.reduceToNat, Int.reduceNeg, reduceCtorEq]; done) | (simp only [*, cond_true, cond_false, Bool.not_true, Bool.not_false, go_sem, Nat.reduceBEq, Nat.reduceLeDiff, Nat.reduceAdd, Nat.reduceSub, Nat.reduceMul, Int.reduceLE, Int.reduceLT, Int.reduceToNat, Int.reduceNeg, reduceCtorEq]; (repeat' (first | with_reducible refine And.intro ?_ ?_ | ((with_reducible show _ ≠ _); first | assumption | omega | (simp_all [outR, outL]; done) | grind) | with_reducible intro _)) <;> (first | done | assumption | rfl | omega | decide | exact fk [0] | exact fk [0, 1] | (simp_all [outR, outL]; done))) | (simp_all [okI, outR, outL]; done) | (simp_all [outR, outL]; (first | done | exact fk2 [0] | exact fk2 [0, 1])) | exact fk2 [0] | exact fk2 [0, 1]))) : p := h
theorem crSxR13_4 {p : Prop} (h : p := by (first | done | (repeat' (first | with_reducible refine And.intro ?_ ?_ | ((with_reducible show _ ≠ _); first | assumption | omega | (simp_all [outR, outL]; done) | grind) | with_reducible intro _)) <;> (first | done | exact Empty.elim ‹Empty› | assumption | rfl | omega | decide | exact fk [0, 1] | exact fk [0, 2] | (simp only [*, cond_true, cond_false, Bool.not_true, Bool.not_false, go_sem, Nat.reduceBEq, Nat.reduceLeDiff, Nat.reduceAdd, Nat.reduceSub, Nat.reduceMul, Int.reduceLE, Int.reduceLT, Int.reduceToNat, Int.reduceNeg, reduceCtorEq]; done) | (simp only [*, cond_true, cond_false, Bool.not_true, Bool.not_false, go_sem, Nat.reduceBEq, Nat.reduceLeDiff, Nat.reduceAdd, Nat.reduceSub, Nat.reduceMul, Int.reduceLE, Int.reduceLT, Int.reduceToNat, Int.reduceNeg, reduceCtorEq]; (repeat' (first | with_reducible refine And.intro ?_ ?_ | ((with_reducible show _ ≠ _); first | assumption | omega | (simp_all [outR, outL]; done) | grind) | with_reducible intro _)) <;> (first | done | assumption | rfl | omega | decide | exact fk [0, 1] | exact fk [0, 2] | (simp_all [outR, outL]; done))) | (simp_all [okI, outR, outL]; done) | (simp_all [outR, outL]; (first | done | exact fk2 [0, 1] | exact fk2 [0, 2])) | exact fk2 [0, 1] | exact fk2 [0, 2]))) : p := h
def ref26_valid (a0 : District) (a1 : Claim) : Bool := (bif ((((((((decide (a1.right < 0)) || (decide (a1.right ≥ (a0.rights.length : Int)))) || (decide (a1.farm < 0))) || (decide (a1.farm ≥ (a0.farms.length : Int)))) || (decide (a1.hour < 0))) || (decide (a1.hour ≥ a0.hours))) || (decide (a1.litres < 1))) || (decide (a1.litres > 1073741824))) then false else (((a0.rights.getD (Int.toNat a1.right) (default : Right)).kind == 1) && ((a0.rights.getD (Int.toNat a1.right) (default : Right)).rank == a1.rank)))
def ref26_valid_p (a0 : District) (a1 : Claim) : Prop := (((((((((decide (a1.right < 0)) || (decide (a1.right ≥ (a0.rights.length : Int)))) || (decide (a1.farm < 0))) || (decide (a1.farm ≥ (a0.farms.length : Int)))) || (decide (a1.hour < 0))) || (decide (a1.hour ≥ a0.hours))) || (decide (a1.litres < 1))) || (decide (a1.litres > 1073741824))) = false → ((0 ≤ a1.right ∧ a1.right < (a0.rights.length : Int)) ∧ (((a0.rights.getD (Int.toNat a1.right) (default : Right)).kind == 1) = true → (0 ≤ a1.right ∧ a1.right < (a0.rights.length : Int)))))
def C_ref26_valid : List SV → Option Con := (pD .district fun a0 => (pD .claim fun a1 => pE (.det (ref26_valid_p a0 a1) (.v (.bool (ref26_valid a0 a1))))))
theorem ok_ref26_valid : FnOk Tryz.prog 56 C_ref26_valid := by
  have hG : ConsOk Tryz.prog (mkG [] []) := mkG_ok cg0 cg0
  refine fn_okN [.o] mixed ts_ok hG (fn := Tryz.f56) (c := bodyOf Tryz.f56) (by kernel_rfl) (by kernel_rfl) (by kernel_rfl) (by kernel_rfl) fun l con h hp => ?_
  unfold C_ref26_valid at h
  obtain ⟨a0, l0, rfl, h0⟩ := pD_inv h
  obtain ⟨a1, l1, rfl, h1⟩ := pD_inv h0
  obtain ⟨rfl, rfl⟩ := pE_inv h1
  clear h h0 h1
  dsimp only [conPre] at hp
  unfold ref26_valid_p at hp
  refine ⟨Nat.le_of_ble_eq_true rfl, (fun id st => none), ?_, ?_⟩
  · unfold bodyOf Tryz.f56
    simp only [loopsOk, and_self, true_and, and_true]
  · unfold bodyOf Tryz.f56
    try unfold ref26_valid
    simp only [go_sem, Nat.reduceBEq, Nat.reduceLeDiff, Nat.reduceAdd, Nat.reduceSub, Nat.reduceMul, Int.reduceLE, Int.reduceLT, Int.reduceToNat, Int.reduceNeg, reduceCtorEq]
    all_goals exact cl
def ref26_Before (a : Claim) (b : Claim) : Bool := (bif (a.hour != b.hour) then (decide (a.hour < b.hour)) else (bif (a.rank != b.rank) then (decide (a.rank < b.rank)) else (bif (a.right != b.right) then (decide (a.right < b.right)) else (decide (a.farm < b.farm)))))
def C_ref26_Before : List SV → Option Con := (pD .claim fun a => (pD .claim fun b => pE (.det True (.v (.bool (ref26_Before a b))))))
theorem ok_ref26_Before : FnOk Tryz.prog 57 C_ref26_Before := by
  have hG : ConsOk Tryz.prog (mkG [] []) := mkG_ok cg0 cg0
  refine fn_okN [.o] mixed ts_ok hG (fn := Tryz.f57) (c := bodyOf Tryz.f57) (by kernel_rfl) (by kernel_rfl) (by kernel_rfl) (by kernel_rfl) fun l con h hp => ?_
  unfold C_ref26_Before at h
  obtain ⟨a, l0, rfl, h0⟩ := pD_inv h
  obtain ⟨b, l1, rfl, h1⟩ := pD_inv h0
  obtain ⟨rfl, rfl⟩ := pE_inv h1
  clear h h0 h1
  dsimp only [conPre] at hp
  refine ⟨Nat.le_of_ble_eq_true rfl, (fun id st => none), ?_, ?_⟩
  · unfold bodyOf Tryz.f57
    simp only [loopsOk, and_self, true_and, and_true]
  · unfold bodyOf Tryz.f57
    try unfold ref26_Before
    simp only [go_sem, Nat.reduceBEq, Nat.reduceLeDiff, Nat.reduceAdd, Nat.reduceSub, Nat.reduceMul, Int.reduceLE, Int.reduceLT, Int.reduceToNat, Int.reduceNeg, reduceCtorEq]
    all_goals exact cl
def ref26_Check_l0 (d : District) (c : List Claim) : Nat → Unit → Unit ⊕ Unit := fun k_0 s_0 => (bif ((!(ref26_valid d (c.getD k_0 (default : Claim)))) || ((decide ((k_0 : Int) > 0)) && (!(ref26_Before (c.getD (Int.toNat (IntKind.i64.wrap ((k_0 : Int) - 1))) (default : Claim)) (c.getD k_0 (default : Claim)))))) then .inl () else .inr ())
def ref26_Check_l0_p (d : District) (c : List Claim) : Nat → Unit → Prop := fun k_0 s_0 => (c.length ≤ maxL → ((ref26_valid_p d (c.getD k_0 (default : Claim))) ∧ ((!(ref26_valid d (c.getD k_0 (default : Claim)))) = false → ((decide ((k_0 : Int) > 0)) = true → (0 ≤ (IntKind.i64.wrap ((k_0 : Int) - 1)) ∧ (IntKind.i64.wrap ((k_0 : Int) - 1)) < (c.length : Int))))))
def ref26_Check (d : District) (c : List Claim) : Int := (bif ((ref19_Check d) != 0) then (ref19_Check d) else (bif (decide ((c.length : Int) > 4096)) then 2 else (match runI (ref26_Check_l0 d c) c.length 0 () with | .inl x_0_0 => 260 | .inr s_0 => 0)))
def ref26_Check_p (d : District) (c : List Claim) : Prop := ((ref19_Check_p d) ∧ (((ref19_Check d) != 0) = false → (c.length ≤ maxL → ((decide ((c.length : Int) > 4096)) = false → okI (ref26_Check_l0 d c) (ref26_Check_l0_p d c) c.length 0 ()))))
def C_ref26_Check : List SV → Option Con := (pD .district fun d => (pR .claim fun c => pE (.det (ref26_Check_p d c) (.v (.int .i64 (ref26_Check d c))))))
set_option maxHeartbeats 4000000 in
theorem ok_ref26_Check : FnOk Tryz.prog 39 C_ref26_Check := by
  have hG : ConsOk Tryz.prog (mkG [(55, fun l => C_ref19_Check (nrmA [.st .district] l)), (56, fun l => C_ref26_valid (nrmA [.st .district, .st .claim] l)), (57, C_ref26_Before)] []) := mkG_ok (cgc (ok_ref19_Check.norm [.st .district]) (cgc (ok_ref26_valid.norm [.st .district, .st .claim]) (cgc ok_ref26_Before cg0))) cg0
  refine fn_okN [.o] mixed ts_ok hG (fn := Tryz.f39) (c := bodyOf Tryz.f39) (by kernel_rfl) (by kernel_rfl) (by kernel_rfl) (by kernel_rfl) fun l con h hp => ?_
  unfold C_ref26_Check at h
  obtain ⟨d, l0, rfl, h0⟩ := pD_inv h
  obtain ⟨c, l1, rfl, h1⟩ := pR_inv h0
  obtain ⟨rfl, rfl⟩ := pE_inv h1
  clear h h0 h1
  dsimp only [conPre] at hp
  unfold ref26_Check_p at hp
  refine ⟨Nat.le_of_ble_eq_true rfl, (fun id st => bif Nat.beq id 0 then some (LC (ρ := Unit) (σ := Unit) (lk 1 st.t = .rs .claim c ∧ lk 2 st.t = .ptr 0 0 ∧ lk 6 st.t = .v (.int .i64 0) ∧ st.h = [.cells [.v (.string d.name), .v (.int .i64 d.hours), .v (.int .i64 d.tank.cap), .v (.int .i64 d.tank.start), .rs .reach d.reaches, .rs .farm d.farms, .rs .crop d.crops, .rs .right d.rights, .rs .duty d.duties, .rs .well d.wells]] ∧ okI (ref26_Check_l0 d c) (ref26_Check_l0_p d c) c.length 0 ()) (runI (ref26_Check_l0 d c) c.length 0 ()) (fun _ => .ret) (fun x_0_0 => ⟨[(4, .v (.int .i64 260))], [.dead]⟩) (fun s_0 => ⟨[], [.dead]⟩)) else none), ?_, ?_⟩
  · unfold bodyOf Tryz.f39
    simp only [loopsOk, true_and, and_true]
    · refine count_okP mixed ts_ok hG (by kernel_rfl) fun st lc hC hp => ?_
      simp only [go_sem, Nat.reduceBEq, Option.some.injEq] at hC
      subst hC
      obtain ⟨t, h⟩ := st
      dsimp only [LC] at hp
      obtain ⟨e0_0, e0_1, e0_2, rfl, hok0⟩ := hp
      refine ⟨_, _, _, (ref26_Check_l0 d c), (ref26_Check_l0_p d c), c.length, (), _, _, _, (fun k_0 s_0 => ⟨[(1, .rs .claim c), (2, .ptr 0 0), (6, .v (.int .i64 (k_0 : Int)))], [.cells [.v (.string d.name), .v (.int .i64 d.hours), .v (.int .i64 d.tank.cap), .v (.int .i64 d.tank.start), .rs .reach d.reaches, .rs .farm d.farms, .rs .crop d.crops, .rs .right d.rights, .rs .duty d.duties, .rs .well d.wells]]⟩), [0], rfl, hok0, Nat.le_refl _, ?_, fun k_0 s_0 hk0 hp0 => ?_⟩
      · simp only [go_sem, Nat.reduceBEq, Nat.reduceLeDiff, Nat.reduceAdd, Nat.reduceSub, Nat.reduceMul, Int.reduceLE, Int.reduceLT, Int.reduceToNat, Int.reduceNeg, reduceCtorEq, e0_0, e0_1, e0_2]
        all_goals (first | done | decide | (repeat' (first | refine And.intro ?_ ?_ | rfl | decide)))
      refine ⟨(fun id st => none), ?_, ?_⟩
      · simp only [loopsOk, and_self, true_and, and_true]
      · by_cases hb0 : c.length ≤ maxL
        rotate_left
        · simp only [go_sem, Nat.reduceBEq, Nat.reduceLeDiff, Nat.reduceAdd, Nat.reduceSub, Nat.reduceMul, Int.reduceLE, Int.reduceLT, Int.reduceToNat, Int.reduceNeg, reduceCtorEq, C_ref19_Check, C_ref26_valid, C_ref26_Before, hb0]
        · by_cases hlt0 : k_0 < c.length
          · have hw0 := wrapS hlt0 hb0
            have hq0 := hp0 hlt0
            unfold ref26_Check_l0_p at hq0
            replace hq0 := hq0 hb0
            try simp only [hw0, Int.toNat_natCast] at hq0
            have hc0 : decide ((k_0 : Int) < (c.length : Int)) = true := by simp only [decide_eq_true_eq]; omega
            simp only [go_sem, Nat.reduceBEq, Nat.reduceLeDiff, Nat.reduceAdd, Nat.reduceSub, Nat.reduceMul, Int.reduceLE, Int.reduceLT, Int.reduceToNat, Int.reduceNeg, reduceCtorEq, C_ref19_Check, C_ref26_valid, C_ref26_Before, ref26_Check_l0, hc0, hw0]
            all_goals exact cl
          · have hc0 : decide ((k_0 : Int) < (c.length : Int)) = false := by simp only [decide_eq_false_iff_not]; omega
            simp only [go_sem, Nat.reduceBEq, Nat.reduceLeDiff, Nat.reduceAdd, Nat.reduceSub, Nat.reduceMul, Int.reduceLE, Int.reduceLT, Int.reduceToNat, Int.reduceNeg, reduceCtorEq, C_ref19_Check, C_ref26_valid, C_ref26_Before, hc0]
            all_goals exact cl2
  · unfold bodyOf Tryz.f39
    try unfold ref26_Check
    simp only [go_sem, Nat.reduceBEq, Nat.reduceLeDiff, Nat.reduceAdd, Nat.reduceSub, Nat.reduceMul, Int.reduceLE, Int.reduceLT, Int.reduceToNat, Int.reduceNeg, reduceCtorEq, C_ref19_Check, C_ref26_valid, C_ref26_Before]
    all_goals exact cl
def ref28_check (d : District) (c : List Claim) (l_ : List Order) : Int := (bif ((ref26_Check d c) != 0) then (ref26_Check d c) else (ref28_orders d l_))
def ref28_check_p (d : District) (c : List Claim) (l_ : List Order) : Prop := ((ref26_Check_p d c) ∧ (((ref26_Check d c) != 0) = false → (ref28_orders_p d l_)))
def C_ref28_check : List SV → Option Con := (pD .district fun d => (pR .claim fun c => (pR .order fun l_ => pE (.det (ref28_check_p d c l_) (.v (.int .i64 (ref28_check d c l_)))))))
theorem ok_ref28_check : FnOk Tryz.prog 25 C_ref28_check := by
  have hG : ConsOk Tryz.prog (mkG [(39, fun l => C_ref26_Check (nrmA [.st .district, .sl .claim] l)), (40, fun l => C_ref28_orders (nrmA [.st .district, .sl .order] l))] []) := mkG_ok (cgc (ok_ref26_Check.norm [.st .district, .sl .claim]) (cgc (ok_ref28_orders.norm [.st .district, .sl .order]) cg0)) cg0
  refine fn_okN [.o] mixed ts_ok hG (fn := Tryz.f25) (c := bodyOf Tryz.f25) (by kernel_rfl) (by kernel_rfl) (by kernel_rfl) (by kernel_rfl) fun l con h hp => ?_
  unfold C_ref28_check at h
  obtain ⟨d, l0, rfl, h0⟩ := pD_inv h
  obtain ⟨c, l1, rfl, h1⟩ := pR_inv h0
  obtain ⟨l_, l2, rfl, h2⟩ := pR_inv h1
  obtain ⟨rfl, rfl⟩ := pE_inv h2
  clear h h0 h1 h2
  dsimp only [conPre] at hp
  unfold ref28_check_p at hp
  refine ⟨Nat.le_of_ble_eq_true rfl, (fun id st => none), ?_, ?_⟩
  · unfold bodyOf Tryz.f25
    simp only [loopsOk, and_self, true_and, and_true]
  · unfold bodyOf Tryz.f25
    try unfold ref28_check
    simp only [go_sem, Nat.reduceBEq, Nat.reduceLeDiff, Nat.reduceAdd, Nat.reduceSub, Nat.reduceMul, Int.reduceLE, Int.reduceLT, Int.reduceToNat, Int.reduceNeg, reduceCtorEq, C_ref26_Check, C_ref28_orders]
    all_goals exact cl
def ref28_gates_l0 (a0 : District) (a1 : List Order) (a2 : Int) : Nat → (List Fault) → Empty ⊕ (List Fault) := fun k_0 s_0 => (bif (a1.getD k_0 (default : Order)).outlet then .inr s_0 else (bif ((a2 == 1) && (decide ((a1.getD k_0 (default : Order)).litres > (a0.reaches.getD (Int.toNat ((a1.getD k_0 (default : Order)).index)) (default : Reach)).cap))) then (bif ((a2 == 2) && (decide ((a1.getD k_0 (default : Order)).litres < (a0.reaches.getD (Int.toNat ((a1.getD k_0 (default : Order)).index)) (default : Reach)).siphon))) then .inr ((s_0 ++ ([({ kind := a2, hour := (a1.getD k_0 (default : Order)).hour, index := (a1.getD k_0 (default : Order)).index, litres := (a1.getD k_0 (default : Order)).litres, limit := (a0.reaches.getD (Int.toNat ((a1.getD k_0 (default : Order)).index)) (default : Reach)).cap } : Fault)])) ++ ([({ kind := a2, hour := (a1.getD k_0 (default : Order)).hour, index := (a1.getD k_0 (default : Order)).index, litres := (a1.getD k_0 (default : Order)).litres, limit := (a0.reaches.getD (Int.toNat ((a1.getD k_0 (default : Order)).index)) (default : Reach)).siphon } : Fault)])) else .inr (s_0 ++ ([({ kind := a2, hour := (a1.getD k_0 (default : Order)).hour, index := (a1.getD k_0 (default : Order)).index, litres := (a1.getD k_0 (default : Order)).litres, limit := (a0.reaches.getD (Int.toNat ((a1.getD k_0 (default : Order)).index)) (default : Reach)).cap } : Fault)]))) else (bif ((a2 == 2) && (decide ((a1.getD k_0 (default : Order)).litres < (a0.reaches.getD (Int.toNat ((a1.getD k_0 (default : Order)).index)) (default : Reach)).siphon))) then .inr (s_0 ++ ([({ kind := a2, hour := (a1.getD k_0 (default : Order)).hour, index := (a1.getD k_0 (default : Order)).index, litres := (a1.getD k_0 (default : Order)).litres, limit := (a0.reaches.getD (Int.toNat ((a1.getD k_0 (default : Order)).index)) (default : Reach)).siphon } : Fault)])) else .inr s_0)))
def ref28_gates_l0_p (a0 : District) (a1 : List Order) (a2 : Int) : Nat → (List Fault) → Prop := fun k_0 s_0 => (a1.length ≤ maxL → ((a1.getD k_0 (default : Order)).outlet = false → ((0 ≤ (a1.getD k_0 (default : Order)).index ∧ (a1.getD k_0 (default : Order)).index < (a0.reaches.length : Int)) ∧ ((((a2 == 1) && (decide ((a1.getD k_0 (default : Order)).litres > (a0.reaches.getD (Int.toNat ((a1.getD k_0 (default : Order)).index)) (default : Reach)).cap))) = true → (((s_0 ++ ([({ kind := a2, hour := (a1.getD k_0 (default : Order)).hour, index := (a1.getD k_0 (default : Order)).index, litres := (a1.getD k_0 (default : Order)).litres, limit := (a0.reaches.getD (Int.toNat ((a1.getD k_0 (default : Order)).index)) (default : Reach)).cap } : Fault)])).length * 40 ≤ maxB) ∧ ((s_0 ++ ([({ kind := a2, hour := (a1.getD k_0 (default : Order)).hour, index := (a1.getD k_0 (default : Order)).index, litres := (a1.getD k_0 (default : Order)).litres, limit := (a0.reaches.getD (Int.toNat ((a1.getD k_0 (default : Order)).index)) (default : Reach)).cap } : Fault)])).length ≤ maxL → (((a2 == 2) && (decide ((a1.getD k_0 (default : Order)).litres < (a0.reaches.getD (Int.toNat ((a1.getD k_0 (default : Order)).index)) (default : Reach)).siphon))) = true → (((s_0 ++ ([({ kind := a2, hour := (a1.getD k_0 (default : Order)).hour, index := (a1.getD k_0 (default : Order)).index, litres := (a1.getD k_0 (default : Order)).litres, limit := (a0.reaches.getD (Int.toNat ((a1.getD k_0 (default : Order)).index)) (default : Reach)).cap } : Fault)])) ++ ([({ kind := a2, hour := (a1.getD k_0 (default : Order)).hour, index := (a1.getD k_0 (default : Order)).index, litres := (a1.getD k_0 (default : Order)).litres, limit := (a0.reaches.getD (Int.toNat ((a1.getD k_0 (default : Order)).index)) (default : Reach)).siphon } : Fault)])).length * 40 ≤ maxB))))) ∧ (((a2 == 1) && (decide ((a1.getD k_0 (default : Order)).litres > (a0.reaches.getD (Int.toNat ((a1.getD k_0 (default : Order)).index)) (default : Reach)).cap))) = false → (((a2 == 2) && (decide ((a1.getD k_0 (default : Order)).litres < (a0.reaches.getD (Int.toNat ((a1.getD k_0 (default : Order)).index)) (default : Reach)).siphon))) = true → ((s_0 ++ ([({ kind := a2, hour := (a1.getD k_0 (default : Order)).hour, index := (a1.getD k_0 (default : Order)).index, litres := (a1.getD k_0 (default : Order)).litres, limit := (a0.reaches.getD (Int.toNat ((a1.getD k_0 (default : Order)).index)) (default : Reach)).siphon } : Fault)])).length * 40 ≤ maxB)))))))
def ref28_gates (a0 : District) (a1 : List Order) (a2 : Int) : List Fault := (match runI (ref28_gates_l0 a0 a1 a2) a1.length 0 ([]) with | .inl x => x.elim | .inr s_0 => s_0)
def ref28_gates_p (a0 : District) (a1 : List Order) (a2 : Int) : Prop := okI (ref28_gates_l0 a0 a1 a2) (ref28_gates_l0_p a0 a1 a2) a1.length 0 ([])
def C_ref28_gates : List SV → Option Con := (pD .district fun a0 => (pR .order fun a1 => (pI fun a2 => pE (.det (ref28_gates_p a0 a1 a2) (.nw .fault (ref28_gates a0 a1 a2))))))
set_option maxHeartbeats 4000000 in
theorem ok_ref28_gates : FnOk Tryz.prog 26 C_ref28_gates := by
  have hG : ConsOk Tryz.prog (mkG [] []) := mkG_ok cg0 cg0
  refine fn_okW [(.tmp 6, .fault)] mixed ts_ok hG (fn := Tryz.f26) (c := bodyOf Tryz.f26) (by kernel_rfl) (by kernel_rfl) (by kernel_rfl) (by kernel_rfl) fun l con h hp => ?_
  unfold C_ref28_gates at h
  obtain ⟨a0, l0, rfl, h0⟩ := pD_inv h
  obtain ⟨a1, l1, rfl, h1⟩ := pR_inv h0
  obtain ⟨a2, l2, rfl, h2⟩ := pI_inv h1
  obtain ⟨rfl, rfl⟩ := pE_inv h2
  clear h h0 h1 h2
  dsimp only [conPre] at hp
  unfold ref28_gates_p at hp
  refine ⟨Nat.le_of_ble_eq_true rfl, (fun id st => bif Nat.beq id 0 then some (LC (ρ := Empty) (σ := List Fault) (lk 1 st.t = .rs .order a1 ∧ lk 2 st.t = .v (.int .i64 a2) ∧ lk 3 st.t = .ptr 0 0 ∧ lk 7 st.t = .v (.slice none 0 0) ∧ lk 8 st.t = .v (.int .i64 0) ∧ st.h = [.cells [.v (.string a0.name), .v (.int .i64 a0.hours), .v (.int .i64 a0.tank.cap), .v (.int .i64 a0.tank.start), .rs .reach a0.reaches, .rs .farm a0.farms, .rs .crop a0.crops, .rs .right a0.rights, .rs .duty a0.duties, .rs .well a0.wells]] ∧ okI (ref28_gates_l0 a0 a1 a2) (ref28_gates_l0_p a0 a1 a2) a1.length 0 ([])) (runI (ref28_gates_l0 a0 a1 a2) a1.length 0 ([])) (fun x => x.elim) (fun x => x.elim) (fun s_0 => ⟨[(7, .os 1)], [.dead, .row .fault s_0]⟩)) else none), ?_, ?_⟩
  · unfold bodyOf Tryz.f26
    simp only [loopsOk, true_and, and_true]
    · refine count_okR mixed ts_ok hG (by kernel_rfl) fun st lc hC hp => ?_
      simp only [go_sem, Nat.reduceBEq, Option.some.injEq] at hC
      subst hC
      obtain ⟨t, h⟩ := st
      dsimp only [LC] at hp
      obtain ⟨e0_0, e0_1, e0_2, e0_3, e0_4, rfl, hok0⟩ := hp
      refine ⟨_, _, _, (ref28_gates_l0 a0 a1 a2), (ref28_gates_l0_p a0 a1 a2), a1.length, [], _, _, _, (fun k_0 s_0 => ⟨[(1, .rs .order a1), (2, .v (.int .i64 a2)), (3, .ptr 0 0), (7, .os 1), (8, .v (.int .i64 (k_0 : Int)))], [.cells [.v (.string a0.name), .v (.int .i64 a0.hours), .v (.int .i64 a0.tank.cap), .v (.int .i64 a0.tank.start), .rs .reach a0.reaches, .rs .farm a0.farms, .rs .crop a0.crops, .rs .right a0.rights, .rs .duty a0.duties, .rs .well a0.wells], .row .fault s_0]⟩), ⟨(7, .os 1) :: t, [.cells [.v (.string a0.name), .v (.int .i64 a0.hours), .v (.int .i64 a0.tank.cap), .v (.int .i64 a0.tank.start), .rs .reach a0.reaches, .rs .farm a0.farms, .rs .crop a0.crops, .rs .right a0.rights, .rs .duty a0.duties, .rs .well a0.wells], .row .fault ([])]⟩, [0, 1], rfl, hok0, NilS.slot (h := [.cells [.v (.string a0.name), .v (.int .i64 a0.hours), .v (.int .i64 a0.tank.cap), .v (.int .i64 a0.tank.start), .rs .reach a0.reaches, .rs .farm a0.farms, .rs .crop a0.crops, .rs .right a0.rights, .rs .duty a0.duties, .rs .well a0.wells]]) (i := 7) (.row .fault ([])) (NilS.refl _) (by first | exact e0_3 | (simp only [go_sem, e0_0, e0_1, e0_2, e0_3, e0_4])) (.inl ⟨_, rfl⟩), Nat.le_of_ble_eq_true rfl, ?_, fun k_0 s_0 hk0 hp0 => ?_⟩
      · simp only [go_sem, Nat.reduceBEq, Nat.reduceLeDiff, Nat.reduceAdd, Nat.reduceSub, Nat.reduceMul, Int.reduceLE, Int.reduceLT, Int.reduceToNat, Int.reduceNeg, reduceCtorEq, e0_0, e0_1, e0_2, e0_3, e0_4]
        all_goals (first | done | decide | (repeat' (first | refine And.intro ?_ ?_ | rfl | decide)))
      refine ⟨(fun id st => none), ?_, ?_⟩
      · simp only [loopsOk, and_self, true_and, and_true]
      · by_cases hb0 : a1.length ≤ maxL
        rotate_left
        · simp only [go_sem, Nat.reduceBEq, Nat.reduceLeDiff, Nat.reduceAdd, Nat.reduceSub, Nat.reduceMul, Int.reduceLE, Int.reduceLT, Int.reduceToNat, Int.reduceNeg, reduceCtorEq, hb0]
        · by_cases hlt0 : k_0 < a1.length
          · have hw0 := wrapS hlt0 hb0
            have hq0 := hp0 hlt0
            unfold ref28_gates_l0_p at hq0
            replace hq0 := hq0 hb0
            try simp only [hw0, Int.toNat_natCast] at hq0
            have hc0 : decide ((k_0 : Int) < (a1.length : Int)) = true := by simp only [decide_eq_true_eq]; omega
            simp only [go_sem, Nat.reduceBEq, Nat.reduceLeDiff, Nat.reduceAdd, Nat.reduceSub, Nat.reduceMul, Int.reduceLE, Int.reduceLT, Int.reduceToNat, Int.reduceNeg, reduceCtorEq, ref28_gates_l0, hc0, hw0]
            all_goals exact crSxR13_0
          · have hc0 : decide ((k_0 : Int) < (a1.length : Int)) = false := by simp only [decide_eq_false_iff_not]; omega
            simp only [go_sem, Nat.reduceBEq, Nat.reduceLeDiff, Nat.reduceAdd, Nat.reduceSub, Nat.reduceMul, Int.reduceLE, Int.reduceLT, Int.reduceToNat, Int.reduceNeg, reduceCtorEq, hc0]
            all_goals exact crSxR13_0
  · unfold bodyOf Tryz.f26
    try unfold ref28_gates
    simp only [go_sem, Nat.reduceBEq, Nat.reduceLeDiff, Nat.reduceAdd, Nat.reduceSub, Nat.reduceMul, Int.reduceLE, Int.reduceLT, Int.reduceToNat, Int.reduceNeg, reduceCtorEq]
    all_goals exact cl
def ref28_banks_l1 (d : District) (l_ : List Order) (k_0 : Nat) : Nat → (List Fault) → Empty ⊕ (List Fault) := fun k_1 s_1 => (bif (decide ((ref28_Sum l_ (k_1 : Int) (IntKind.i64.wrap ((IntKind.i64.wrap ((k_0 : Int) - (d.reaches.getD k_1 (default : Reach)).delay)) + 1)) (k_0 : Int)) > (d.reaches.getD k_1 (default : Reach)).bank)) then .inr (s_1 ++ ([({ kind := 3, hour := (k_0 : Int), index := (k_1 : Int), litres := (ref28_Sum l_ (k_1 : Int) (IntKind.i64.wrap ((IntKind.i64.wrap ((k_0 : Int) - (d.reaches.getD k_1 (default : Reach)).delay)) + 1)) (k_0 : Int)), limit := (d.reaches.getD k_1 (default : Reach)).bank } : Fault)])) else .inr s_1)
def ref28_banks_l1_p (d : District) (l_ : List Order) (k_0 : Nat) : Nat → (List Fault) → Prop := fun k_1 s_1 => (d.reaches.length ≤ maxL → ((decide ((ref28_Sum l_ (k_1 : Int) (IntKind.i64.wrap ((IntKind.i64.wrap ((k_0 : Int) - (d.reaches.getD k_1 (default : Reach)).delay)) + 1)) (k_0 : Int)) > (d.reaches.getD k_1 (default : Reach)).bank)) = true → ((s_1 ++ ([({ kind := 3, hour := (k_0 : Int), index := (k_1 : Int), litres := (ref28_Sum l_ (k_1 : Int) (IntKind.i64.wrap ((IntKind.i64.wrap ((k_0 : Int) - (d.reaches.getD k_1 (default : Reach)).delay)) + 1)) (k_0 : Int)), limit := (d.reaches.getD k_1 (default : Reach)).bank } : Fault)])).length * 40 ≤ maxB)))
def ref28_banks_l0 (d : District) (l_ : List Order) : Nat → (List Fault) → Empty ⊕ (List Fault) := fun k_0 s_0 => (match runI (ref28_banks_l1 d l_ k_0) d.reaches.length 0 s_0 with | .inl x => x.elim | .inr s_1 => .inr s_1)
def ref28_banks_l0_p (d : District) (l_ : List Order) : Nat → (List Fault) → Prop := fun k_0 s_0 => okI (ref28_banks_l1 d l_ k_0) (ref28_banks_l1_p d l_ k_0) d.reaches.length 0 s_0
def ref28_banks (d : District) (l_ : List Order) : List Fault := (match runI (ref28_banks_l0 d l_) (Int.toNat d.hours) 0 ([]) with | .inl x => x.elim | .inr s_0 => s_0)
def ref28_banks_p (d : District) (l_ : List Order) : Prop := ((d.hours < 9223372036854775808) ∧ okI (ref28_banks_l0 d l_) (ref28_banks_l0_p d l_) (Int.toNat d.hours) 0 ([]))
def C_ref28_banks : List SV → Option Con := (pD .district fun d => (pR .order fun l_ => pE (.det (ref28_banks_p d l_) (.rs .fault (ref28_banks d l_)))))
set_option maxHeartbeats 4000000 in
theorem ok_ref28_banks : FnOk Tryz.prog 27 C_ref28_banks := by
  have hG : ConsOk Tryz.prog (mkG [(41, fun l => C_ref28_Sum (nrmA [.sl .order, .o, .o, .o] l))] []) := mkG_ok (cgc (ok_ref28_Sum.norm [.sl .order, .o, .o, .o]) cg0) cg0
  refine fn_okN [.sl .fault] mixed ts_ok hG (fn := Tryz.f27) (c := bodyOf Tryz.f27) (by kernel_rfl) (by kernel_rfl) (by kernel_rfl) (by kernel_rfl) fun l con h hp => ?_
  unfold C_ref28_banks at h
  obtain ⟨d, l0, rfl, h0⟩ := pD_inv h
  obtain ⟨l_, l1, rfl, h1⟩ := pR_inv h0
  obtain ⟨rfl, rfl⟩ := pE_inv h1
  clear h h0 h1
  dsimp only [conPre] at hp
  unfold ref28_banks_p at hp
  refine ⟨Nat.le_of_ble_eq_true rfl, (fun id st => bif Nat.beq id 0 then some (LC (ρ := Empty) (σ := List Fault) (lk 1 st.t = .rs .order l_ ∧ lk 2 st.t = .ptr 0 0 ∧ lk 5 st.t = .v (.slice none 0 0) ∧ lk 6 st.t = .v (.int .i64 0) ∧ st.h = [.cells [.v (.string d.name), .v (.int .i64 d.hours), .v (.int .i64 d.tank.cap), .v (.int .i64 d.tank.start), .rs .reach d.reaches, .rs .farm d.farms, .rs .crop d.crops, .rs .right d.rights, .rs .duty d.duties, .rs .well d.wells]] ∧ d.hours < 9223372036854775808 ∧ okI (ref28_banks_l0 d l_) (ref28_banks_l0_p d l_) (Int.toNat d.hours) 0 ([])) (runI (ref28_banks_l0 d l_) (Int.toNat d.hours) 0 ([])) (fun x => x.elim) (fun x => x.elim) (fun s_0 => ⟨[(5, .os 1)], [.dead, .row .fault s_0]⟩)) else none), ?_, ?_⟩
  · unfold bodyOf Tryz.f27
    simp only [loopsOk, true_and, and_true]
    · refine count_okR mixed ts_ok hG (by kernel_rfl) fun st lc hC hp => ?_
      simp only [go_sem, Nat.reduceBEq, Option.some.injEq] at hC
      subst hC
      obtain ⟨t, h⟩ := st
      dsimp only [LC] at hp
      obtain ⟨e0_0, e0_1, e0_2, e0_3, rfl, hb0, hok0⟩ := hp
      refine ⟨_, _, _, (ref28_banks_l0 d l_), (ref28_banks_l0_p d l_), (Int.toNat d.hours), [], _, _, _, (fun k_0 s_0 => ⟨[(1, .rs .order l_), (2, .ptr 0 0), (5, .os 1), (6, .v (.int .i64 (k_0 : Int)))], [.cells [.v (.string d.name), .v (.int .i64 d.hours), .v (.int .i64 d.tank.cap), .v (.int .i64 d.tank.start), .rs .reach d.reaches, .rs .farm d.farms, .rs .crop d.crops, .rs .right d.rights, .rs .duty d.duties, .rs .well d.wells], .row .fault s_0]⟩), ⟨(5, .os 1) :: t, [.cells [.v (.string d.name), .v (.int .i64 d.hours), .v (.int .i64 d.tank.cap), .v (.int .i64 d.tank.start), .rs .reach d.reaches, .rs .farm d.farms, .rs .crop d.crops, .rs .right d.rights, .rs .duty d.duties, .rs .well d.wells], .row .fault ([])]⟩, [0, 1], rfl, hok0, NilS.slot (h := [.cells [.v (.string d.name), .v (.int .i64 d.hours), .v (.int .i64 d.tank.cap), .v (.int .i64 d.tank.start), .rs .reach d.reaches, .rs .farm d.farms, .rs .crop d.crops, .rs .right d.rights, .rs .duty d.duties, .rs .well d.wells]]) (i := 5) (.row .fault ([])) (NilS.refl _) (by first | exact e0_2 | (simp only [go_sem, e0_0, e0_1, e0_2, e0_3])) (.inl ⟨_, rfl⟩), Nat.le_of_ble_eq_true rfl, ?_, fun k_0 s_0 hk0 hp0 => ?_⟩
      · simp only [go_sem, Nat.reduceBEq, Nat.reduceLeDiff, Nat.reduceAdd, Nat.reduceSub, Nat.reduceMul, Int.reduceLE, Int.reduceLT, Int.reduceToNat, Int.reduceNeg, reduceCtorEq, e0_0, e0_1, e0_2, e0_3]
        all_goals (first | done | decide | (repeat' (first | refine And.intro ?_ ?_ | rfl | decide)))
      refine ⟨(fun id st => bif Nat.beq id 2 then some (LC (ρ := Empty) (σ := List Fault) (lk 1 st.t = .rs .order l_ ∧ lk 2 st.t = .ptr 0 0 ∧ lk 5 st.t = .os 1 ∧ lk 6 st.t = .v (.int .i64 (k_0 : Int)) ∧ lk 7 st.t = .v (.int .i64 0) ∧ st.h = [.cells [.v (.string d.name), .v (.int .i64 d.hours), .v (.int .i64 d.tank.cap), .v (.int .i64 d.tank.start), .rs .reach d.reaches, .rs .farm d.farms, .rs .crop d.crops, .rs .right d.rights, .rs .duty d.duties, .rs .well d.wells], .row .fault s_0] ∧ okI (ref28_banks_l1 d l_ k_0) (ref28_banks_l1_p d l_ k_0) d.reaches.length 0 s_0) (runI (ref28_banks_l1 d l_ k_0) d.reaches.length 0 s_0) (fun x => x.elim) (fun x => x.elim) (fun s_1 => ⟨[(1, .rs .order l_), (2, .ptr 0 0), (5, .os 2), (6, .v (.int .i64 (k_0 : Int)))], [.cells [.v (.string d.name), .v (.int .i64 d.hours), .v (.int .i64 d.tank.cap), .v (.int .i64 d.tank.start), .rs .reach d.reaches, .rs .farm d.farms, .rs .crop d.crops, .rs .right d.rights, .rs .duty d.duties, .rs .well d.wells], .dead, .row .fault s_1]⟩)) else none), ?_, ?_⟩
      · simp only [loopsOk, true_and, and_true]
        · refine count_okR mixed ts_ok hG (by kernel_rfl) fun st lc hC hp => ?_
          simp only [go_sem, Nat.reduceBEq, Option.some.injEq] at hC
          subst hC
          obtain ⟨t, h⟩ := st
          dsimp only [LC] at hp
          obtain ⟨e1_0, e1_1, e1_2, e1_3, e1_4, rfl, hok1⟩ := hp
          refine ⟨_, _, _, (ref28_banks_l1 d l_ k_0), (ref28_banks_l1_p d l_ k_0), d.reaches.length, s_0, _, _, _, (fun k_1 s_1 => ⟨[(1, .rs .order l_), (2, .ptr 0 0), (5, .os 2), (6, .v (.int .i64 (k_0 : Int))), (7, .v (.int .i64 (k_1 : Int)))], [.cells [.v (.string d.name), .v (.int .i64 d.hours), .v (.int .i64 d.tank.cap), .v (.int .i64 d.tank.start), .rs .reach d.reaches, .rs .farm d.farms, .rs .crop d.crops, .rs .right d.rights, .rs .duty d.duties, .rs .well d.wells], .dead, .row .fault s_1]⟩), ⟨t, [.cells [.v (.string d.name), .v (.int .i64 d.hours), .v (.int .i64 d.tank.cap), .v (.int .i64 d.tank.start), .rs .reach d.reaches, .rs .farm d.farms, .rs .crop d.crops, .rs .right d.rights, .rs .duty d.duties, .rs .well d.wells], .row .fault s_0]⟩, [0, 1, 1], rfl, hok1, NilS.refl _, Nat.le_of_ble_eq_true rfl, ?_, fun k_1 s_1 hk1 hp1 => ?_⟩
          · simp only [go_sem, Nat.reduceBEq, Nat.reduceLeDiff, Nat.reduceAdd, Nat.reduceSub, Nat.reduceMul, Int.reduceLE, Int.reduceLT, Int.reduceToNat, Int.reduceNeg, reduceCtorEq, e1_0, e1_1, e1_2, e1_3, e1_4]
            all_goals (first | done | decide | (repeat' (first | refine And.intro ?_ ?_ | rfl | decide)))
          refine ⟨(fun id st => none), ?_, ?_⟩
          · simp only [loopsOk, and_self, true_and, and_true]
          · by_cases hb1 : d.reaches.length ≤ maxL
            rotate_left
            · simp only [go_sem, Nat.reduceBEq, Nat.reduceLeDiff, Nat.reduceAdd, Nat.reduceSub, Nat.reduceMul, Int.reduceLE, Int.reduceLT, Int.reduceToNat, Int.reduceNeg, reduceCtorEq, C_ref28_Sum, hb1]
            · by_cases hlt1 : k_1 < d.reaches.length
              · have hw1 := wrapS hlt1 hb1
                have hq1 := hp1 hlt1
                unfold ref28_banks_l1_p at hq1
                replace hq1 := hq1 hb1
                try simp only [hw1, Int.toNat_natCast] at hq1
                have hc1 : decide ((k_1 : Int) < (d.reaches.length : Int)) = true := by simp only [decide_eq_true_eq]; omega
                simp only [go_sem, Nat.reduceBEq, Nat.reduceLeDiff, Nat.reduceAdd, Nat.reduceSub, Nat.reduceMul, Int.reduceLE, Int.reduceLT, Int.reduceToNat, Int.reduceNeg, reduceCtorEq, C_ref28_Sum, ref28_banks_l1, hc1, hw1]
                all_goals exact crSxR13_1
              · have hc1 : decide ((k_1 : Int) < (d.reaches.length : Int)) = false := by simp only [decide_eq_false_iff_not]; omega
                simp only [go_sem, Nat.reduceBEq, Nat.reduceLeDiff, Nat.reduceAdd, Nat.reduceSub, Nat.reduceMul, Int.reduceLE, Int.reduceLT, Int.reduceToNat, Int.reduceNeg, reduceCtorEq, C_ref28_Sum, hc1]
                all_goals exact crSxR13_1
      · by_cases hlt0 : k_0 < (Int.toNat d.hours)
        · have hw0 := wrapT hlt0 hb0
          have hq0 := hp0 hlt0
          unfold ref28_banks_l0_p at hq0
          try simp only [hw0, Int.toNat_natCast] at hq0
          have hc0 : decide ((k_0 : Int) < d.hours) = true := by simp only [decide_eq_true_eq]; omega
          simp only [go_sem, Nat.reduceBEq, Nat.reduceLeDiff, Nat.reduceAdd, Nat.reduceSub, Nat.reduceMul, Int.reduceLE, Int.reduceLT, Int.reduceToNat, Int.reduceNeg, reduceCtorEq, C_ref28_Sum, ref28_banks_l0, hc0, hw0]
          all_goals exact crSxR13_2
        · have hc0 : decide ((k_0 : Int) < d.hours) = false := by simp only [decide_eq_false_iff_not]; omega
          simp only [go_sem, Nat.reduceBEq, Nat.reduceLeDiff, Nat.reduceAdd, Nat.reduceSub, Nat.reduceMul, Int.reduceLE, Int.reduceLT, Int.reduceToNat, Int.reduceNeg, reduceCtorEq, C_ref28_Sum, hc0]
          all_goals exact crSxR13_2
  · unfold bodyOf Tryz.f27
    try unfold ref28_banks
    simp only [go_sem, Nat.reduceBEq, Nat.reduceLeDiff, Nat.reduceAdd, Nat.reduceSub, Nat.reduceMul, Int.reduceLE, Int.reduceLT, Int.reduceToNat, Int.reduceNeg, reduceCtorEq, C_ref28_Sum]
    all_goals exact cl
def ref28_tank_l0 (d : District) (l_ : List Order) : Nat → Unit → (List Fault) ⊕ Unit := fun k_0 s_0 => (bif (decide ((ref28_Sum l_ 0 0 (k_0 : Int)) > d.tank.start)) then .inl ([({ kind := 4, hour := (k_0 : Int), index := 0, litres := (ref28_Sum l_ 0 0 (k_0 : Int)), limit := d.tank.start } : Fault)]) else .inr ())
def ref28_tank_l0_p (d : District) (l_ : List Order) : Nat → Unit → Prop := fun k_0 s_0 => True
def ref28_tank (d : District) (l_ : List Order) : List Fault := (match runI (ref28_tank_l0 d l_) (Int.toNat d.hours) 0 () with | .inl x_0_0 => x_0_0 | .inr s_0 => [])
def ref28_tank_p (d : District) (l_ : List Order) : Prop := (d.hours < 9223372036854775808)
def C_ref28_tank : List SV → Option Con := (pD .district fun d => (pR .order fun l_ => pE (.det (ref28_tank_p d l_) (.rs .fault (ref28_tank d l_)))))
set_option maxHeartbeats 4000000 in
theorem ok_ref28_tank : FnOk Tryz.prog 28 C_ref28_tank := by
  have hG : ConsOk Tryz.prog (mkG [(41, fun l => C_ref28_Sum (nrmA [.sl .order, .o, .o, .o] l))] []) := mkG_ok (cgc (ok_ref28_Sum.norm [.sl .order, .o, .o, .o]) cg0) cg0
  refine fn_okN [.sl .fault] mixed ts_ok hG (fn := Tryz.f28) (c := bodyOf Tryz.f28) (by kernel_rfl) (by kernel_rfl) (by kernel_rfl) (by kernel_rfl) fun l con h hp => ?_
  unfold C_ref28_tank at h
  obtain ⟨d, l0, rfl, h0⟩ := pD_inv h
  obtain ⟨l_, l1, rfl, h1⟩ := pR_inv h0
  obtain ⟨rfl, rfl⟩ := pE_inv h1
  clear h h0 h1
  dsimp only [conPre] at hp
  unfold ref28_tank_p at hp
  refine ⟨Nat.le_of_ble_eq_true rfl, (fun id st => bif Nat.beq id 0 then some (LC (ρ := List Fault) (σ := Unit) (lk 1 st.t = .rs .order l_ ∧ lk 2 st.t = .ptr 0 0 ∧ lk 5 st.t = .v (.int .i64 0) ∧ st.h = [.cells [.v (.string d.name), .v (.int .i64 d.hours), .v (.int .i64 d.tank.cap), .v (.int .i64 d.tank.start), .rs .reach d.reaches, .rs .farm d.farms, .rs .crop d.crops, .rs .right d.rights, .rs .duty d.duties, .rs .well d.wells]] ∧ d.hours < 9223372036854775808) (runI (ref28_tank_l0 d l_) (Int.toNat d.hours) 0 ()) (fun _ => .ret) (fun x_0_0 => ⟨[(4, .os 1)], [.dead, .row .fault x_0_0]⟩) (fun s_0 => ⟨[], [.dead]⟩)) else none), ?_, ?_⟩
  · unfold bodyOf Tryz.f28
    simp only [loopsOk, true_and, and_true]
    · refine count_okR mixed ts_ok hG (by kernel_rfl) fun st lc hC hp => ?_
      simp only [go_sem, Nat.reduceBEq, Option.some.injEq] at hC
      subst hC
      obtain ⟨t, h⟩ := st
      dsimp only [LC] at hp
      obtain ⟨e0_0, e0_1, e0_2, rfl, hb0⟩ := hp
      refine ⟨_, _, _, (ref28_tank_l0 d l_), (ref28_tank_l0_p d l_), (Int.toNat d.hours), (), _, _, _, (fun k_0 s_0 => ⟨[(1, .rs .order l_), (2, .ptr 0 0), (5, .v (.int .i64 (k_0 : Int)))], [.cells [.v (.string d.name), .v (.int .i64 d.hours), .v (.int .i64 d.tank.cap), .v (.int .i64 d.tank.start), .rs .reach d.reaches, .rs .farm d.farms, .rs .crop d.crops, .rs .right d.rights, .rs .duty d.duties, .rs .well d.wells]]⟩), ⟨t, [.cells [.v (.string d.name), .v (.int .i64 d.hours), .v (.int .i64 d.tank.cap), .v (.int .i64 d.tank.start), .rs .reach d.reaches, .rs .farm d.farms, .rs .crop d.crops, .rs .right d.rights, .rs .duty d.duties, .rs .well d.wells]]⟩, [0], rfl, okI_all _ _ _ fun _ _ _ _ => trivial, NilS.refl _, Nat.le_of_ble_eq_true rfl, ?_, fun k_0 s_0 hk0 hp0 => ?_⟩
      · simp only [go_sem, Nat.reduceBEq, Nat.reduceLeDiff, Nat.reduceAdd, Nat.reduceSub, Nat.reduceMul, Int.reduceLE, Int.reduceLT, Int.reduceToNat, Int.reduceNeg, reduceCtorEq, e0_0, e0_1, e0_2]
        all_goals (first | done | decide | (repeat' (first | refine And.intro ?_ ?_ | rfl | decide)))
      refine ⟨(fun id st => none), ?_, ?_⟩
      · simp only [loopsOk, and_self, true_and, and_true]
      · by_cases hlt0 : k_0 < (Int.toNat d.hours)
        · have hw0 := wrapT hlt0 hb0
          have hq0 := hp0 hlt0
          unfold ref28_tank_l0_p at hq0
          try simp only [hw0, Int.toNat_natCast] at hq0
          have hc0 : decide ((k_0 : Int) < d.hours) = true := by simp only [decide_eq_true_eq]; omega
          simp only [go_sem, Nat.reduceBEq, Nat.reduceLeDiff, Nat.reduceAdd, Nat.reduceSub, Nat.reduceMul, Int.reduceLE, Int.reduceLT, Int.reduceToNat, Int.reduceNeg, reduceCtorEq, C_ref28_Sum, ref28_tank_l0, hc0, hw0]
          all_goals exact crSxR13_3
        · have hc0 : decide ((k_0 : Int) < d.hours) = false := by simp only [decide_eq_false_iff_not]; omega
          simp only [go_sem, Nat.reduceBEq, Nat.reduceLeDiff, Nat.reduceAdd, Nat.reduceSub, Nat.reduceMul, Int.reduceLE, Int.reduceLT, Int.reduceToNat, Int.reduceNeg, reduceCtorEq, C_ref28_Sum, hc0]
          all_goals exact crSxR13_3
  · unfold bodyOf Tryz.f28
    try unfold ref28_tank
    simp only [go_sem, Nat.reduceBEq, Nat.reduceLeDiff, Nat.reduceAdd, Nat.reduceSub, Nat.reduceMul, Int.reduceLE, Int.reduceLT, Int.reduceToNat, Int.reduceNeg, reduceCtorEq, C_ref28_Sum]
    all_goals exact cl
def ref28_drawn_l0 (d : District) (l_ : List Order) (reach : Int) (hour : Int) : Nat → Int → Empty ⊕ Int := fun k_0 s_0 => (bif (((l_.getD k_0 (default : Order)).hour == hour) && (((l_.getD k_0 (default : Order)).outlet && ((d.farms.getD (Int.toNat ((l_.getD k_0 (default : Order)).index)) (default : Farm)).reach == reach)) || ((!(l_.getD k_0 (default : Order)).outlet) && ((d.reaches.getD (Int.toNat ((l_.getD k_0 (default : Order)).index)) (default : Reach)).up == reach)))) then .inr (IntKind.i64.wrap (s_0 + (l_.getD k_0 (default : Order)).litres)) else .inr s_0)
def ref28_drawn_l0_p (d : District) (l_ : List Order) (reach : Int) (hour : Int) : Nat → Int → Prop := fun k_0 s_0 => (l_.length ≤ maxL → ((((l_.getD k_0 (default : Order)).hour == hour) = true → ((l_.getD k_0 (default : Order)).outlet = true → (0 ≤ (l_.getD k_0 (default : Order)).index ∧ (l_.getD k_0 (default : Order)).index < (d.farms.length : Int)))) ∧ (((l_.getD k_0 (default : Order)).hour == hour) = true → (((l_.getD k_0 (default : Order)).outlet && ((d.farms.getD (Int.toNat ((l_.getD k_0 (default : Order)).index)) (default : Farm)).reach == reach)) = false → ((!(l_.getD k_0 (default : Order)).outlet) = true → (0 ≤ (l_.getD k_0 (default : Order)).index ∧ (l_.getD k_0 (default : Order)).index < (d.reaches.length : Int)))))))
def ref28_drawn (d : District) (l_ : List Order) (reach : Int) (hour : Int) : Int := (match runI (ref28_drawn_l0 d l_ reach hour) l_.length 0 0 with | .inl x => x.elim | .inr s_0 => s_0)
def ref28_drawn_p (d : District) (l_ : List Order) (reach : Int) (hour : Int) : Prop := okI (ref28_drawn_l0 d l_ reach hour) (ref28_drawn_l0_p d l_ reach hour) l_.length 0 0
def C_ref28_drawn : List SV → Option Con := (pD .district fun d => (pR .order fun l_ => (pI fun reach => (pI fun hour => pE (.det (ref28_drawn_p d l_ reach hour) (.v (.int .i64 (ref28_drawn d l_ reach hour))))))))
set_option maxHeartbeats 4000000 in
theorem ok_ref28_drawn : FnOk Tryz.prog 42 C_ref28_drawn := by
  have hG : ConsOk Tryz.prog (mkG [] []) := mkG_ok cg0 cg0
  refine fn_okN [.o] mixed ts_ok hG (fn := Tryz.f42) (c := bodyOf Tryz.f42) (by kernel_rfl) (by kernel_rfl) (by kernel_rfl) (by kernel_rfl) fun l con h hp => ?_
  unfold C_ref28_drawn at h
  obtain ⟨d, l0, rfl, h0⟩ := pD_inv h
  obtain ⟨l_, l1, rfl, h1⟩ := pR_inv h0
  obtain ⟨reach, l2, rfl, h2⟩ := pI_inv h1
  obtain ⟨hour, l3, rfl, h3⟩ := pI_inv h2
  obtain ⟨rfl, rfl⟩ := pE_inv h3
  clear h h0 h1 h2 h3
  dsimp only [conPre] at hp
  unfold ref28_drawn_p at hp
  refine ⟨Nat.le_of_ble_eq_true rfl, (fun id st => bif Nat.beq id 0 then some (LC (ρ := Empty) (σ := Int) (lk 1 st.t = .rs .order l_ ∧ lk 2 st.t = .v (.int .i64 reach) ∧ lk 3 st.t = .v (.int .i64 hour) ∧ lk 4 st.t = .ptr 0 0 ∧ lk 9 st.t = .v (.int .i64 0) ∧ lk 10 st.t = .v (.int .i64 0) ∧ st.h = [.cells [.v (.string d.name), .v (.int .i64 d.hours), .v (.int .i64 d.tank.cap), .v (.int .i64 d.tank.start), .rs .reach d.reaches, .rs .farm d.farms, .rs .crop d.crops, .rs .right d.rights, .rs .duty d.duties, .rs .well d.wells]] ∧ okI (ref28_drawn_l0 d l_ reach hour) (ref28_drawn_l0_p d l_ reach hour) l_.length 0 0) (runI (ref28_drawn_l0 d l_ reach hour) l_.length 0 0) (fun x => x.elim) (fun x => x.elim) (fun s_0 => ⟨[(9, .v (.int .i64 s_0))], [.dead]⟩)) else none), ?_, ?_⟩
  · unfold bodyOf Tryz.f42
    simp only [loopsOk, true_and, and_true]
    · refine count_okP mixed ts_ok hG (by kernel_rfl) fun st lc hC hp => ?_
      simp only [go_sem, Nat.reduceBEq, Option.some.injEq] at hC
      subst hC
      obtain ⟨t, h⟩ := st
      dsimp only [LC] at hp
      obtain ⟨e0_0, e0_1, e0_2, e0_3, e0_4, e0_5, rfl, hok0⟩ := hp
      refine ⟨_, _, _, (ref28_drawn_l0 d l_ reach hour), (ref28_drawn_l0_p d l_ reach hour), l_.length, 0, _, _, _, (fun k_0 s_0 => ⟨[(1, .rs .order l_), (2, .v (.int .i64 reach)), (3, .v (.int .i64 hour)), (4, .ptr 0 0), (9, .v (.int .i64 s_0)), (10, .v (.int .i64 (k_0 : Int)))], [.cells [.v (.string d.name), .v (.int .i64 d.hours), .v (.int .i64 d.tank.cap), .v (.int .i64 d.tank.start), .rs .reach d.reaches, .rs .farm d.farms, .rs .crop d.crops, .rs .right d.rights, .rs .duty d.duties, .rs .well d.wells]]⟩), [0], rfl, hok0, Nat.le_refl _, ?_, fun k_0 s_0 hk0 hp0 => ?_⟩
      · simp only [go_sem, Nat.reduceBEq, Nat.reduceLeDiff, Nat.reduceAdd, Nat.reduceSub, Nat.reduceMul, Int.reduceLE, Int.reduceLT, Int.reduceToNat, Int.reduceNeg, reduceCtorEq, e0_0, e0_1, e0_2, e0_3, e0_4, e0_5]
        all_goals (first | done | decide | (repeat' (first | refine And.intro ?_ ?_ | rfl | decide)))
      refine ⟨(fun id st => none), ?_, ?_⟩
      · simp only [loopsOk, and_self, true_and, and_true]
      · by_cases hb0 : l_.length ≤ maxL
        rotate_left
        · simp only [go_sem, Nat.reduceBEq, Nat.reduceLeDiff, Nat.reduceAdd, Nat.reduceSub, Nat.reduceMul, Int.reduceLE, Int.reduceLT, Int.reduceToNat, Int.reduceNeg, reduceCtorEq, hb0]
        · by_cases hlt0 : k_0 < l_.length
          · have hw0 := wrapS hlt0 hb0
            have hq0 := hp0 hlt0
            unfold ref28_drawn_l0_p at hq0
            replace hq0 := hq0 hb0
            try simp only [hw0, Int.toNat_natCast] at hq0
            have hc0 : decide ((k_0 : Int) < (l_.length : Int)) = true := by simp only [decide_eq_true_eq]; omega
            simp only [go_sem, Nat.reduceBEq, Nat.reduceLeDiff, Nat.reduceAdd, Nat.reduceSub, Nat.reduceMul, Int.reduceLE, Int.reduceLT, Int.reduceToNat, Int.reduceNeg, reduceCtorEq, ref28_drawn_l0, hc0, hw0]
            all_goals exact cl
          · have hc0 : decide ((k_0 : Int) < (l_.length : Int)) = false := by simp only [decide_eq_false_iff_not]; omega
            simp only [go_sem, Nat.reduceBEq, Nat.reduceLeDiff, Nat.reduceAdd, Nat.reduceSub, Nat.reduceMul, Int.reduceLE, Int.reduceLT, Int.reduceToNat, Int.reduceNeg, reduceCtorEq, hc0]
            all_goals exact cl2
  · unfold bodyOf Tryz.f42
    try unfold ref28_drawn
    simp only [go_sem, Nat.reduceBEq, Nat.reduceLeDiff, Nat.reduceAdd, Nat.reduceSub, Nat.reduceMul, Int.reduceLE, Int.reduceLT, Int.reduceToNat, Int.reduceNeg, reduceCtorEq]
    all_goals exact cl
def ref28_water_l1 (d : District) (l_ : List Order) (k_0 : Nat) : Nat → (List Fault) → Empty ⊕ (List Fault) := fun k_1 s_1 => (bif (decide ((ref28_drawn d l_ (k_1 : Int) (k_0 : Int)) > (ref28_arrives d l_ (k_1 : Int) (k_0 : Int)))) then .inr (s_1 ++ ([({ kind := 5, hour := (k_0 : Int), index := (k_1 : Int), litres := (ref28_drawn d l_ (k_1 : Int) (k_0 : Int)), limit := (ref28_arrives d l_ (k_1 : Int) (k_0 : Int)) } : Fault)])) else .inr s_1)
def ref28_water_l1_p (d : District) (l_ : List Order) (k_0 : Nat) : Nat → (List Fault) → Prop := fun k_1 s_1 => (d.reaches.length ≤ maxL → ((ref28_drawn_p d l_ (k_1 : Int) (k_0 : Int)) ∧ ((ref28_arrives_p d l_ (k_1 : Int) (k_0 : Int)) ∧ ((decide ((ref28_drawn d l_ (k_1 : Int) (k_0 : Int)) > (ref28_arrives d l_ (k_1 : Int) (k_0 : Int)))) = true → ((s_1 ++ ([({ kind := 5, hour := (k_0 : Int), index := (k_1 : Int), litres := (ref28_drawn d l_ (k_1 : Int) (k_0 : Int)), limit := (ref28_arrives d l_ (k_1 : Int) (k_0 : Int)) } : Fault)])).length * 40 ≤ maxB)))))
def ref28_water_l0 (d : District) (l_ : List Order) : Nat → (List Fault) → Empty ⊕ (List Fault) := fun k_0 s_0 => (match runI (ref28_water_l1 d l_ k_0) d.reaches.length 0 s_0 with | .inl x => x.elim | .inr s_1 => .inr s_1)
def ref28_water_l0_p (d : District) (l_ : List Order) : Nat → (List Fault) → Prop := fun k_0 s_0 => okI (ref28_water_l1 d l_ k_0) (ref28_water_l1_p d l_ k_0) d.reaches.length 0 s_0
def ref28_water (d : District) (l_ : List Order) : List Fault := (match runI (ref28_water_l0 d l_) (Int.toNat d.hours) 0 ([]) with | .inl x => x.elim | .inr s_0 => s_0)
def ref28_water_p (d : District) (l_ : List Order) : Prop := ((d.hours < 9223372036854775808) ∧ okI (ref28_water_l0 d l_) (ref28_water_l0_p d l_) (Int.toNat d.hours) 0 ([]))
def C_ref28_water : List SV → Option Con := (pD .district fun d => (pR .order fun l_ => pE (.det (ref28_water_p d l_) (.rs .fault (ref28_water d l_)))))
set_option maxHeartbeats 4000000 in
theorem ok_ref28_water : FnOk Tryz.prog 29 C_ref28_water := by
  have hG : ConsOk Tryz.prog (mkG [(42, fun l => C_ref28_drawn (nrmA [.st .district, .sl .order, .o, .o] l)), (43, fun l => C_ref28_arrives (nrmA [.st .district, .sl .order, .o, .o] l))] []) := mkG_ok (cgc (ok_ref28_drawn.norm [.st .district, .sl .order, .o, .o]) (cgc (ok_ref28_arrives.norm [.st .district, .sl .order, .o, .o]) cg0)) cg0
  refine fn_okN [.sl .fault] mixed ts_ok hG (fn := Tryz.f29) (c := bodyOf Tryz.f29) (by kernel_rfl) (by kernel_rfl) (by kernel_rfl) (by kernel_rfl) fun l con h hp => ?_
  unfold C_ref28_water at h
  obtain ⟨d, l0, rfl, h0⟩ := pD_inv h
  obtain ⟨l_, l1, rfl, h1⟩ := pR_inv h0
  obtain ⟨rfl, rfl⟩ := pE_inv h1
  clear h h0 h1
  dsimp only [conPre] at hp
  unfold ref28_water_p at hp
  refine ⟨Nat.le_of_ble_eq_true rfl, (fun id st => bif Nat.beq id 0 then some (LC (ρ := Empty) (σ := List Fault) (lk 1 st.t = .rs .order l_ ∧ lk 2 st.t = .ptr 0 0 ∧ lk 5 st.t = .v (.slice none 0 0) ∧ lk 6 st.t = .v (.int .i64 0) ∧ st.h = [.cells [.v (.string d.name), .v (.int .i64 d.hours), .v (.int .i64 d.tank.cap), .v (.int .i64 d.tank.start), .rs .reach d.reaches, .rs .farm d.farms, .rs .crop d.crops, .rs .right d.rights, .rs .duty d.duties, .rs .well d.wells]] ∧ d.hours < 9223372036854775808 ∧ okI (ref28_water_l0 d l_) (ref28_water_l0_p d l_) (Int.toNat d.hours) 0 ([])) (runI (ref28_water_l0 d l_) (Int.toNat d.hours) 0 ([])) (fun x => x.elim) (fun x => x.elim) (fun s_0 => ⟨[(5, .os 1)], [.dead, .row .fault s_0]⟩)) else none), ?_, ?_⟩
  · unfold bodyOf Tryz.f29
    simp only [loopsOk, true_and, and_true]
    · refine count_okR mixed ts_ok hG (by kernel_rfl) fun st lc hC hp => ?_
      simp only [go_sem, Nat.reduceBEq, Option.some.injEq] at hC
      subst hC
      obtain ⟨t, h⟩ := st
      dsimp only [LC] at hp
      obtain ⟨e0_0, e0_1, e0_2, e0_3, rfl, hb0, hok0⟩ := hp
      refine ⟨_, _, _, (ref28_water_l0 d l_), (ref28_water_l0_p d l_), (Int.toNat d.hours), [], _, _, _, (fun k_0 s_0 => ⟨[(1, .rs .order l_), (2, .ptr 0 0), (5, .os 1), (6, .v (.int .i64 (k_0 : Int)))], [.cells [.v (.string d.name), .v (.int .i64 d.hours), .v (.int .i64 d.tank.cap), .v (.int .i64 d.tank.start), .rs .reach d.reaches, .rs .farm d.farms, .rs .crop d.crops, .rs .right d.rights, .rs .duty d.duties, .rs .well d.wells], .row .fault s_0]⟩), ⟨(5, .os 1) :: t, [.cells [.v (.string d.name), .v (.int .i64 d.hours), .v (.int .i64 d.tank.cap), .v (.int .i64 d.tank.start), .rs .reach d.reaches, .rs .farm d.farms, .rs .crop d.crops, .rs .right d.rights, .rs .duty d.duties, .rs .well d.wells], .row .fault ([])]⟩, [0, 1], rfl, hok0, NilS.slot (h := [.cells [.v (.string d.name), .v (.int .i64 d.hours), .v (.int .i64 d.tank.cap), .v (.int .i64 d.tank.start), .rs .reach d.reaches, .rs .farm d.farms, .rs .crop d.crops, .rs .right d.rights, .rs .duty d.duties, .rs .well d.wells]]) (i := 5) (.row .fault ([])) (NilS.refl _) (by first | exact e0_2 | (simp only [go_sem, e0_0, e0_1, e0_2, e0_3])) (.inl ⟨_, rfl⟩), Nat.le_of_ble_eq_true rfl, ?_, fun k_0 s_0 hk0 hp0 => ?_⟩
      · simp only [go_sem, Nat.reduceBEq, Nat.reduceLeDiff, Nat.reduceAdd, Nat.reduceSub, Nat.reduceMul, Int.reduceLE, Int.reduceLT, Int.reduceToNat, Int.reduceNeg, reduceCtorEq, e0_0, e0_1, e0_2, e0_3]
        all_goals (first | done | decide | (repeat' (first | refine And.intro ?_ ?_ | rfl | decide)))
      refine ⟨(fun id st => bif Nat.beq id 2 then some (LC (ρ := Empty) (σ := List Fault) (lk 1 st.t = .rs .order l_ ∧ lk 2 st.t = .ptr 0 0 ∧ lk 5 st.t = .os 1 ∧ lk 6 st.t = .v (.int .i64 (k_0 : Int)) ∧ lk 7 st.t = .v (.int .i64 0) ∧ st.h = [.cells [.v (.string d.name), .v (.int .i64 d.hours), .v (.int .i64 d.tank.cap), .v (.int .i64 d.tank.start), .rs .reach d.reaches, .rs .farm d.farms, .rs .crop d.crops, .rs .right d.rights, .rs .duty d.duties, .rs .well d.wells], .row .fault s_0] ∧ okI (ref28_water_l1 d l_ k_0) (ref28_water_l1_p d l_ k_0) d.reaches.length 0 s_0) (runI (ref28_water_l1 d l_ k_0) d.reaches.length 0 s_0) (fun x => x.elim) (fun x => x.elim) (fun s_1 => ⟨[(1, .rs .order l_), (2, .ptr 0 0), (5, .os 2), (6, .v (.int .i64 (k_0 : Int)))], [.cells [.v (.string d.name), .v (.int .i64 d.hours), .v (.int .i64 d.tank.cap), .v (.int .i64 d.tank.start), .rs .reach d.reaches, .rs .farm d.farms, .rs .crop d.crops, .rs .right d.rights, .rs .duty d.duties, .rs .well d.wells], .dead, .row .fault s_1]⟩)) else none), ?_, ?_⟩
      · simp only [loopsOk, true_and, and_true]
        · refine count_okR mixed ts_ok hG (by kernel_rfl) fun st lc hC hp => ?_
          simp only [go_sem, Nat.reduceBEq, Option.some.injEq] at hC
          subst hC
          obtain ⟨t, h⟩ := st
          dsimp only [LC] at hp
          obtain ⟨e1_0, e1_1, e1_2, e1_3, e1_4, rfl, hok1⟩ := hp
          refine ⟨_, _, _, (ref28_water_l1 d l_ k_0), (ref28_water_l1_p d l_ k_0), d.reaches.length, s_0, _, _, _, (fun k_1 s_1 => ⟨[(1, .rs .order l_), (2, .ptr 0 0), (5, .os 2), (6, .v (.int .i64 (k_0 : Int))), (7, .v (.int .i64 (k_1 : Int)))], [.cells [.v (.string d.name), .v (.int .i64 d.hours), .v (.int .i64 d.tank.cap), .v (.int .i64 d.tank.start), .rs .reach d.reaches, .rs .farm d.farms, .rs .crop d.crops, .rs .right d.rights, .rs .duty d.duties, .rs .well d.wells], .dead, .row .fault s_1]⟩), ⟨t, [.cells [.v (.string d.name), .v (.int .i64 d.hours), .v (.int .i64 d.tank.cap), .v (.int .i64 d.tank.start), .rs .reach d.reaches, .rs .farm d.farms, .rs .crop d.crops, .rs .right d.rights, .rs .duty d.duties, .rs .well d.wells], .row .fault s_0]⟩, [0, 1, 1], rfl, hok1, NilS.refl _, Nat.le_of_ble_eq_true rfl, ?_, fun k_1 s_1 hk1 hp1 => ?_⟩
          · simp only [go_sem, Nat.reduceBEq, Nat.reduceLeDiff, Nat.reduceAdd, Nat.reduceSub, Nat.reduceMul, Int.reduceLE, Int.reduceLT, Int.reduceToNat, Int.reduceNeg, reduceCtorEq, e1_0, e1_1, e1_2, e1_3, e1_4]
            all_goals (first | done | decide | (repeat' (first | refine And.intro ?_ ?_ | rfl | decide)))
          refine ⟨(fun id st => none), ?_, ?_⟩
          · simp only [loopsOk, and_self, true_and, and_true]
          · by_cases hb1 : d.reaches.length ≤ maxL
            rotate_left
            · simp only [go_sem, Nat.reduceBEq, Nat.reduceLeDiff, Nat.reduceAdd, Nat.reduceSub, Nat.reduceMul, Int.reduceLE, Int.reduceLT, Int.reduceToNat, Int.reduceNeg, reduceCtorEq, C_ref28_drawn, C_ref28_arrives, hb1]
            · by_cases hlt1 : k_1 < d.reaches.length
              · have hw1 := wrapS hlt1 hb1
                have hq1 := hp1 hlt1
                unfold ref28_water_l1_p at hq1
                replace hq1 := hq1 hb1
                try simp only [hw1, Int.toNat_natCast] at hq1
                have hc1 : decide ((k_1 : Int) < (d.reaches.length : Int)) = true := by simp only [decide_eq_true_eq]; omega
                simp only [go_sem, Nat.reduceBEq, Nat.reduceLeDiff, Nat.reduceAdd, Nat.reduceSub, Nat.reduceMul, Int.reduceLE, Int.reduceLT, Int.reduceToNat, Int.reduceNeg, reduceCtorEq, C_ref28_drawn, C_ref28_arrives, ref28_water_l1, hc1, hw1]
                all_goals exact crSxR13_1
              · have hc1 : decide ((k_1 : Int) < (d.reaches.length : Int)) = false := by simp only [decide_eq_false_iff_not]; omega
                simp only [go_sem, Nat.reduceBEq, Nat.reduceLeDiff, Nat.reduceAdd, Nat.reduceSub, Nat.reduceMul, Int.reduceLE, Int.reduceLT, Int.reduceToNat, Int.reduceNeg, reduceCtorEq, C_ref28_drawn, C_ref28_arrives, hc1]
                all_goals exact crSxR13_1
      · by_cases hlt0 : k_0 < (Int.toNat d.hours)
        · have hw0 := wrapT hlt0 hb0
          have hq0 := hp0 hlt0
          unfold ref28_water_l0_p at hq0
          try simp only [hw0, Int.toNat_natCast] at hq0
          have hc0 : decide ((k_0 : Int) < d.hours) = true := by simp only [decide_eq_true_eq]; omega
          simp only [go_sem, Nat.reduceBEq, Nat.reduceLeDiff, Nat.reduceAdd, Nat.reduceSub, Nat.reduceMul, Int.reduceLE, Int.reduceLT, Int.reduceToNat, Int.reduceNeg, reduceCtorEq, C_ref28_drawn, C_ref28_arrives, ref28_water_l0, hc0, hw0]
          all_goals exact crSxR13_2
        · have hc0 : decide ((k_0 : Int) < d.hours) = false := by simp only [decide_eq_false_iff_not]; omega
          simp only [go_sem, Nat.reduceBEq, Nat.reduceLeDiff, Nat.reduceAdd, Nat.reduceSub, Nat.reduceMul, Int.reduceLE, Int.reduceLT, Int.reduceToNat, Int.reduceNeg, reduceCtorEq, C_ref28_drawn, C_ref28_arrives, hc0]
          all_goals exact crSxR13_2
  · unfold bodyOf Tryz.f29
    try unfold ref28_water
    simp only [go_sem, Nat.reduceBEq, Nat.reduceLeDiff, Nat.reduceAdd, Nat.reduceSub, Nat.reduceMul, Int.reduceLE, Int.reduceLT, Int.reduceToNat, Int.reduceNeg, reduceCtorEq, C_ref28_drawn, C_ref28_arrives]
    all_goals exact cl
def ref28_opened_l0 (l_ : List Order) (farm : Int) (hour : Int) : Nat → Unit → Int ⊕ Unit := fun k_0 s_0 => (bif (((l_.getD k_0 (default : Order)).outlet && ((l_.getD k_0 (default : Order)).index == farm)) && ((l_.getD k_0 (default : Order)).hour == hour)) then .inl ((l_.getD k_0 (default : Order)).litres) else .inr ())
def ref28_opened_l0_p (l_ : List Order) (farm : Int) (hour : Int) : Nat → Unit → Prop := fun k_0 s_0 => True
def ref28_opened (l_ : List Order) (farm : Int) (hour : Int) : Int := (match runI (ref28_opened_l0 l_ farm hour) l_.length 0 () with | .inl x_0_0 => x_0_0 | .inr s_0 => 0)
def C_ref28_opened : List SV → Option Con := (pR .order fun l_ => (pI fun farm => (pI fun hour => pE (.det True (.v (.int .i64 (ref28_opened l_ farm hour)))))))
set_option maxHeartbeats 4000000 in
theorem ok_ref28_opened : FnOk Tryz.prog 44 C_ref28_opened := by
  have hG : ConsOk Tryz.prog (mkG [] []) := mkG_ok cg0 cg0
  refine fn_okN [.o] mixed ts_ok hG (fn := Tryz.f44) (c := bodyOf Tryz.f44) (by kernel_rfl) (by kernel_rfl) (by kernel_rfl) (by kernel_rfl) fun l con h hp => ?_
  unfold C_ref28_opened at h
  obtain ⟨l_, l0, rfl, h0⟩ := pR_inv h
  obtain ⟨farm, l1, rfl, h1⟩ := pI_inv h0
  obtain ⟨hour, l2, rfl, h2⟩ := pI_inv h1
  obtain ⟨rfl, rfl⟩ := pE_inv h2
  clear h h0 h1 h2
  dsimp only [conPre] at hp
  refine ⟨Nat.le_of_ble_eq_true rfl, (fun id st => bif Nat.beq id 0 then some (LC (ρ := Int) (σ := Unit) (lk 0 st.t = .rs .order l_ ∧ lk 1 st.t = .v (.int .i64 farm) ∧ lk 2 st.t = .v (.int .i64 hour) ∧ lk 7 st.t = .v (.int .i64 0) ∧ st.h = []) (runI (ref28_opened_l0 l_ farm hour) l_.length 0 ()) (fun _ => .ret) (fun x_0_0 => ⟨[(6, .v (.int .i64 x_0_0))], []⟩) (fun s_0 => ⟨[], []⟩)) else none), ?_, ?_⟩
  · unfold bodyOf Tryz.f44
    simp only [loopsOk, true_and, and_true]
    · refine count_okP mixed ts_ok hG (by kernel_rfl) fun st lc hC hp => ?_
      simp only [go_sem, Nat.reduceBEq, Option.some.injEq] at hC
      subst hC
      obtain ⟨t, h⟩ := st
      dsimp only [LC] at hp
      obtain ⟨e0_0, e0_1, e0_2, e0_3, rfl⟩ := hp
      refine ⟨_, _, _, (ref28_opened_l0 l_ farm hour), (ref28_opened_l0_p l_ farm hour), l_.length, (), _, _, _, (fun k_0 s_0 => ⟨[(0, .rs .order l_), (1, .v (.int .i64 farm)), (2, .v (.int .i64 hour)), (7, .v (.int .i64 (k_0 : Int)))], []⟩), [], rfl, okI_all _ _ _ fun _ _ _ _ => trivial, Nat.le_refl _, ?_, fun k_0 s_0 hk0 hp0 => ?_⟩
      · simp only [go_sem, Nat.reduceBEq, Nat.reduceLeDiff, Nat.reduceAdd, Nat.reduceSub, Nat.reduceMul, Int.reduceLE, Int.reduceLT, Int.reduceToNat, Int.reduceNeg, reduceCtorEq, e0_0, e0_1, e0_2, e0_3]
        all_goals (first | done | decide | (repeat' (first | refine And.intro ?_ ?_ | rfl | decide)))
      refine ⟨(fun id st => none), ?_, ?_⟩
      · simp only [loopsOk, and_self, true_and, and_true]
      · by_cases hb0 : l_.length ≤ maxL
        rotate_left
        · simp only [go_sem, Nat.reduceBEq, Nat.reduceLeDiff, Nat.reduceAdd, Nat.reduceSub, Nat.reduceMul, Int.reduceLE, Int.reduceLT, Int.reduceToNat, Int.reduceNeg, reduceCtorEq, hb0]
        · by_cases hlt0 : k_0 < l_.length
          · have hw0 := wrapS hlt0 hb0
            have hq0 := hp0 hlt0
            unfold ref28_opened_l0_p at hq0
            try simp only [hw0, Int.toNat_natCast] at hq0
            have hc0 : decide ((k_0 : Int) < (l_.length : Int)) = true := by simp only [decide_eq_true_eq]; omega
            simp only [go_sem, Nat.reduceBEq, Nat.reduceLeDiff, Nat.reduceAdd, Nat.reduceSub, Nat.reduceMul, Int.reduceLE, Int.reduceLT, Int.reduceToNat, Int.reduceNeg, reduceCtorEq, ref28_opened_l0, hc0, hw0]
            all_goals exact cl
          · have hc0 : decide ((k_0 : Int) < (l_.length : Int)) = false := by simp only [decide_eq_false_iff_not]; omega
            simp only [go_sem, Nat.reduceBEq, Nat.reduceLeDiff, Nat.reduceAdd, Nat.reduceSub, Nat.reduceMul, Int.reduceLE, Int.reduceLT, Int.reduceToNat, Int.reduceNeg, reduceCtorEq, hc0]
            all_goals exact cl2
  · unfold bodyOf Tryz.f44
    try unfold ref28_opened
    simp only [go_sem, Nat.reduceBEq, Nat.reduceLeDiff, Nat.reduceAdd, Nat.reduceSub, Nat.reduceMul, Int.reduceLE, Int.reduceLT, Int.reduceToNat, Int.reduceNeg, reduceCtorEq]
    all_goals exact cl
def ref28_claimed_l0 (c : List Claim) (farm : Int) (hour : Int) : Nat → Int → Empty ⊕ Int := fun k_0 s_0 => (bif (((c.getD k_0 (default : Claim)).farm == farm) && ((c.getD k_0 (default : Claim)).hour == hour)) then .inr (IntKind.i64.wrap (s_0 + (c.getD k_0 (default : Claim)).litres)) else .inr s_0)
def ref28_claimed_l0_p (c : List Claim) (farm : Int) (hour : Int) : Nat → Int → Prop := fun k_0 s_0 => True
def ref28_claimed (c : List Claim) (farm : Int) (hour : Int) : Int := (match runI (ref28_claimed_l0 c farm hour) c.length 0 0 with | .inl x => x.elim | .inr s_0 => s_0)
def C_ref28_claimed : List SV → Option Con := (pR .claim fun c => (pI fun farm => (pI fun hour => pE (.det True (.v (.int .i64 (ref28_claimed c farm hour)))))))
set_option maxHeartbeats 4000000 in
theorem ok_ref28_claimed : FnOk Tryz.prog 45 C_ref28_claimed := by
  have hG : ConsOk Tryz.prog (mkG [] []) := mkG_ok cg0 cg0
  refine fn_okN [.o] mixed ts_ok hG (fn := Tryz.f45) (c := bodyOf Tryz.f45) (by kernel_rfl) (by kernel_rfl) (by kernel_rfl) (by kernel_rfl) fun l con h hp => ?_
  unfold C_ref28_claimed at h
  obtain ⟨c, l0, rfl, h0⟩ := pR_inv h
  obtain ⟨farm, l1, rfl, h1⟩ := pI_inv h0
  obtain ⟨hour, l2, rfl, h2⟩ := pI_inv h1
  obtain ⟨rfl, rfl⟩ := pE_inv h2
  clear h h0 h1 h2
  dsimp only [conPre] at hp
  refine ⟨Nat.le_of_ble_eq_true rfl, (fun id st => bif Nat.beq id 0 then some (LC (ρ := Empty) (σ := Int) (lk 0 st.t = .rs .claim c ∧ lk 1 st.t = .v (.int .i64 farm) ∧ lk 2 st.t = .v (.int .i64 hour) ∧ lk 7 st.t = .v (.int .i64 0) ∧ lk 8 st.t = .v (.int .i64 0) ∧ st.h = []) (runI (ref28_claimed_l0 c farm hour) c.length 0 0) (fun x => x.elim) (fun x => x.elim) (fun s_0 => ⟨[(7, .v (.int .i64 s_0))], []⟩)) else none), ?_, ?_⟩
  · unfold bodyOf Tryz.f45
    simp only [loopsOk, true_and, and_true]
    · refine count_okP mixed ts_ok hG (by kernel_rfl) fun st lc hC hp => ?_
      simp only [go_sem, Nat.reduceBEq, Option.some.injEq] at hC
      subst hC
      obtain ⟨t, h⟩ := st
      dsimp only [LC] at hp
      obtain ⟨e0_0, e0_1, e0_2, e0_3, e0_4, rfl⟩ := hp
      refine ⟨_, _, _, (ref28_claimed_l0 c farm hour), (ref28_claimed_l0_p c farm hour), c.length, 0, _, _, _, (fun k_0 s_0 => ⟨[(0, .rs .claim c), (1, .v (.int .i64 farm)), (2, .v (.int .i64 hour)), (7, .v (.int .i64 s_0)), (8, .v (.int .i64 (k_0 : Int)))], []⟩), [], rfl, okI_all _ _ _ fun _ _ _ _ => trivial, Nat.le_refl _, ?_, fun k_0 s_0 hk0 hp0 => ?_⟩
      · simp only [go_sem, Nat.reduceBEq, Nat.reduceLeDiff, Nat.reduceAdd, Nat.reduceSub, Nat.reduceMul, Int.reduceLE, Int.reduceLT, Int.reduceToNat, Int.reduceNeg, reduceCtorEq, e0_0, e0_1, e0_2, e0_3, e0_4]
        all_goals (first | done | decide | (repeat' (first | refine And.intro ?_ ?_ | rfl | decide)))
      refine ⟨(fun id st => none), ?_, ?_⟩
      · simp only [loopsOk, and_self, true_and, and_true]
      · by_cases hb0 : c.length ≤ maxL
        rotate_left
        · simp only [go_sem, Nat.reduceBEq, Nat.reduceLeDiff, Nat.reduceAdd, Nat.reduceSub, Nat.reduceMul, Int.reduceLE, Int.reduceLT, Int.reduceToNat, Int.reduceNeg, reduceCtorEq, hb0]
        · by_cases hlt0 : k_0 < c.length
          · have hw0 := wrapS hlt0 hb0
            have hq0 := hp0 hlt0
            unfold ref28_claimed_l0_p at hq0
            try simp only [hw0, Int.toNat_natCast] at hq0
            have hc0 : decide ((k_0 : Int) < (c.length : Int)) = true := by simp only [decide_eq_true_eq]; omega
            simp only [go_sem, Nat.reduceBEq, Nat.reduceLeDiff, Nat.reduceAdd, Nat.reduceSub, Nat.reduceMul, Int.reduceLE, Int.reduceLT, Int.reduceToNat, Int.reduceNeg, reduceCtorEq, ref28_claimed_l0, hc0, hw0]
            all_goals exact cl
          · have hc0 : decide ((k_0 : Int) < (c.length : Int)) = false := by simp only [decide_eq_false_iff_not]; omega
            simp only [go_sem, Nat.reduceBEq, Nat.reduceLeDiff, Nat.reduceAdd, Nat.reduceSub, Nat.reduceMul, Int.reduceLE, Int.reduceLT, Int.reduceToNat, Int.reduceNeg, reduceCtorEq, hc0]
            all_goals exact cl2
  · unfold bodyOf Tryz.f45
    try unfold ref28_claimed
    simp only [go_sem, Nat.reduceBEq, Nat.reduceLeDiff, Nat.reduceAdd, Nat.reduceSub, Nat.reduceMul, Int.reduceLE, Int.reduceLT, Int.reduceToNat, Int.reduceNeg, reduceCtorEq]
    all_goals exact cl
def ref28_unmet_l1 (d : District) (c : List Claim) (l_ : List Order) (k_0 : Nat) : Nat → (List Fault) → Empty ⊕ (List Fault) := fun k_1 s_1 => (bif (decide ((ref28_opened l_ (k_1 : Int) ((c.getD k_0 (default : Claim)).hour)) < (ref28_claimed c (k_1 : Int) ((c.getD k_0 (default : Claim)).hour)))) then .inr (s_1 ++ ([({ kind := 6, hour := (c.getD k_0 (default : Claim)).hour, index := (k_1 : Int), litres := (ref28_opened l_ (k_1 : Int) ((c.getD k_0 (default : Claim)).hour)), limit := (ref28_claimed c (k_1 : Int) ((c.getD k_0 (default : Claim)).hour)) } : Fault)])) else .inr s_1)
def ref28_unmet_l1_p (d : District) (c : List Claim) (l_ : List Order) (k_0 : Nat) : Nat → (List Fault) → Prop := fun k_1 s_1 => (d.farms.length ≤ maxL → ((decide ((ref28_opened l_ (k_1 : Int) ((c.getD k_0 (default : Claim)).hour)) < (ref28_claimed c (k_1 : Int) ((c.getD k_0 (default : Claim)).hour)))) = true → ((s_1 ++ ([({ kind := 6, hour := (c.getD k_0 (default : Claim)).hour, index := (k_1 : Int), litres := (ref28_opened l_ (k_1 : Int) ((c.getD k_0 (default : Claim)).hour)), limit := (ref28_claimed c (k_1 : Int) ((c.getD k_0 (default : Claim)).hour)) } : Fault)])).length * 40 ≤ maxB)))
def ref28_unmet_l0 (d : District) (c : List Claim) (l_ : List Order) : Nat → (List Fault) → Empty ⊕ (List Fault) := fun k_0 s_0 => (bif ((decide ((k_0 : Int) > 0)) && ((c.getD (Int.toNat (IntKind.i64.wrap ((k_0 : Int) - 1))) (default : Claim)).hour == (c.getD k_0 (default : Claim)).hour)) then .inr s_0 else (match runI (ref28_unmet_l1 d c l_ k_0) d.farms.length 0 s_0 with | .inl x => x.elim | .inr s_1 => .inr s_1))
def ref28_unmet_l0_p (d : District) (c : List Claim) (l_ : List Order) : Nat → (List Fault) → Prop := fun k_0 s_0 => (c.length ≤ maxL → (((decide ((k_0 : Int) > 0)) = true → (0 ≤ (IntKind.i64.wrap ((k_0 : Int) - 1)) ∧ (IntKind.i64.wrap ((k_0 : Int) - 1)) < (c.length : Int))) ∧ (((decide ((k_0 : Int) > 0)) && ((c.getD (Int.toNat (IntKind.i64.wrap ((k_0 : Int) - 1))) (default : Claim)).hour == (c.getD k_0 (default : Claim)).hour)) = false → okI (ref28_unmet_l1 d c l_ k_0) (ref28_unmet_l1_p d c l_ k_0) d.farms.length 0 s_0)))
def ref28_unmet (d : District) (c : List Claim) (l_ : List Order) : List Fault := (match runI (ref28_unmet_l0 d c l_) c.length 0 ([]) with | .inl x => x.elim | .inr s_0 => s_0)
def ref28_unmet_p (d : District) (c : List Claim) (l_ : List Order) : Prop := okI (ref28_unmet_l0 d c l_) (ref28_unmet_l0_p d c l_) c.length 0 ([])
def C_ref28_unmet : List SV → Option Con := (pD .district fun d => (pR .claim fun c => (pR .order fun l_ => pE (.det (ref28_unmet_p d c l_) (.rs .fault (ref28_unmet d c l_))))))
set_option maxHeartbeats 4000000 in
theorem ok_ref28_unmet : FnOk Tryz.prog 30 C_ref28_unmet := by
  have hG : ConsOk Tryz.prog (mkG [(44, fun l => C_ref28_opened (nrmA [.sl .order, .o, .o] l)), (45, fun l => C_ref28_claimed (nrmA [.sl .claim, .o, .o] l))] []) := mkG_ok (cgc (ok_ref28_opened.norm [.sl .order, .o, .o]) (cgc (ok_ref28_claimed.norm [.sl .claim, .o, .o]) cg0)) cg0
  refine fn_okN [.sl .fault] mixed ts_ok hG (fn := Tryz.f30) (c := bodyOf Tryz.f30) (by kernel_rfl) (by kernel_rfl) (by kernel_rfl) (by kernel_rfl) fun l con h hp => ?_
  unfold C_ref28_unmet at h
  obtain ⟨d, l0, rfl, h0⟩ := pD_inv h
  obtain ⟨c, l1, rfl, h1⟩ := pR_inv h0
  obtain ⟨l_, l2, rfl, h2⟩ := pR_inv h1
  obtain ⟨rfl, rfl⟩ := pE_inv h2
  clear h h0 h1 h2
  dsimp only [conPre] at hp
  unfold ref28_unmet_p at hp
  refine ⟨Nat.le_of_ble_eq_true rfl, (fun id st => bif Nat.beq id 0 then some (LC (ρ := Empty) (σ := List Fault) (lk 1 st.t = .rs .claim c ∧ lk 2 st.t = .rs .order l_ ∧ lk 3 st.t = .ptr 0 0 ∧ lk 7 st.t = .v (.slice none 0 0) ∧ lk 8 st.t = .v (.int .i64 0) ∧ st.h = [.cells [.v (.string d.name), .v (.int .i64 d.hours), .v (.int .i64 d.tank.cap), .v (.int .i64 d.tank.start), .rs .reach d.reaches, .rs .farm d.farms, .rs .crop d.crops, .rs .right d.rights, .rs .duty d.duties, .rs .well d.wells]] ∧ okI (ref28_unmet_l0 d c l_) (ref28_unmet_l0_p d c l_) c.length 0 ([])) (runI (ref28_unmet_l0 d c l_) c.length 0 ([])) (fun x => x.elim) (fun x => x.elim) (fun s_0 => ⟨[(7, .os 1)], [.dead, .row .fault s_0]⟩)) else none), ?_, ?_⟩
  · unfold bodyOf Tryz.f30
    simp only [loopsOk, true_and, and_true]
    · refine count_okR mixed ts_ok hG (by kernel_rfl) fun st lc hC hp => ?_
      simp only [go_sem, Nat.reduceBEq, Option.some.injEq] at hC
      subst hC
      obtain ⟨t, h⟩ := st
      dsimp only [LC] at hp
      obtain ⟨e0_0, e0_1, e0_2, e0_3, e0_4, rfl, hok0⟩ := hp
      refine ⟨_, _, _, (ref28_unmet_l0 d c l_), (ref28_unmet_l0_p d c l_), c.length, [], _, _, _, (fun k_0 s_0 => ⟨[(1, .rs .claim c), (2, .rs .order l_), (3, .ptr 0 0), (7, .os 1), (8, .v (.int .i64 (k_0 : Int)))], [.cells [.v (.string d.name), .v (.int .i64 d.hours), .v (.int .i64 d.tank.cap), .v (.int .i64 d.tank.start), .rs .reach d.reaches, .rs .farm d.farms, .rs .crop d.crops, .rs .right d.rights, .rs .duty d.duties, .rs .well d.wells], .row .fault s_0]⟩), ⟨(7, .os 1) :: t, [.cells [.v (.string d.name), .v (.int .i64 d.hours), .v (.int .i64 d.tank.cap), .v (.int .i64 d.tank.start), .rs .reach d.reaches, .rs .farm d.farms, .rs .crop d.crops, .rs .right d.rights, .rs .duty d.duties, .rs .well d.wells], .row .fault ([])]⟩, [0, 1], rfl, hok0, NilS.slot (h := [.cells [.v (.string d.name), .v (.int .i64 d.hours), .v (.int .i64 d.tank.cap), .v (.int .i64 d.tank.start), .rs .reach d.reaches, .rs .farm d.farms, .rs .crop d.crops, .rs .right d.rights, .rs .duty d.duties, .rs .well d.wells]]) (i := 7) (.row .fault ([])) (NilS.refl _) (by first | exact e0_3 | (simp only [go_sem, e0_0, e0_1, e0_2, e0_3, e0_4])) (.inl ⟨_, rfl⟩), Nat.le_of_ble_eq_true rfl, ?_, fun k_0 s_0 hk0 hp0 => ?_⟩
      · simp only [go_sem, Nat.reduceBEq, Nat.reduceLeDiff, Nat.reduceAdd, Nat.reduceSub, Nat.reduceMul, Int.reduceLE, Int.reduceLT, Int.reduceToNat, Int.reduceNeg, reduceCtorEq, e0_0, e0_1, e0_2, e0_3, e0_4]
        all_goals (first | done | decide | (repeat' (first | refine And.intro ?_ ?_ | rfl | decide)))
      refine ⟨(fun id st => bif Nat.beq id 2 then some (LC (ρ := Empty) (σ := List Fault) (lk 1 st.t = .rs .claim c ∧ lk 2 st.t = .rs .order l_ ∧ lk 3 st.t = .ptr 0 0 ∧ lk 7 st.t = .os 1 ∧ lk 8 st.t = .v (.int .i64 (k_0 : Int)) ∧ lk 9 st.t = .v (.int .i64 ((c.getD k_0 (default : Claim)).hour)) ∧ lk 10 st.t = .v (.int .i64 0) ∧ st.h = [.cells [.v (.string d.name), .v (.int .i64 d.hours), .v (.int .i64 d.tank.cap), .v (.int .i64 d.tank.start), .rs .reach d.reaches, .rs .farm d.farms, .rs .crop d.crops, .rs .right d.rights, .rs .duty d.duties, .rs .well d.wells], .row .fault s_0] ∧ okI (ref28_unmet_l1 d c l_ k_0) (ref28_unmet_l1_p d c l_ k_0) d.farms.length 0 s_0) (runI (ref28_unmet_l1 d c l_ k_0) d.farms.length 0 s_0) (fun x => x.elim) (fun x => x.elim) (fun s_1 => ⟨[(1, .rs .claim c), (2, .rs .order l_), (3, .ptr 0 0), (7, .os 2), (8, .v (.int .i64 (k_0 : Int)))], [.cells [.v (.string d.name), .v (.int .i64 d.hours), .v (.int .i64 d.tank.cap), .v (.int .i64 d.tank.start), .rs .reach d.reaches, .rs .farm d.farms, .rs .crop d.crops, .rs .right d.rights, .rs .duty d.duties, .rs .well d.wells], .dead, .row .fault s_1]⟩)) else none), ?_, ?_⟩
      · simp only [loopsOk, true_and, and_true]
        · refine count_okR mixed ts_ok hG (by kernel_rfl) fun st lc hC hp => ?_
          simp only [go_sem, Nat.reduceBEq, Option.some.injEq] at hC
          subst hC
          obtain ⟨t, h⟩ := st
          dsimp only [LC] at hp
          obtain ⟨e1_0, e1_1, e1_2, e1_3, e1_4, e1_5, e1_6, rfl, hok1⟩ := hp
          refine ⟨_, _, _, (ref28_unmet_l1 d c l_ k_0), (ref28_unmet_l1_p d c l_ k_0), d.farms.length, s_0, _, _, _, (fun k_1 s_1 => ⟨[(1, .rs .claim c), (2, .rs .order l_), (3, .ptr 0 0), (7, .os 2), (8, .v (.int .i64 (k_0 : Int))), (9, .v (.int .i64 ((c.getD k_0 (default : Claim)).hour))), (10, .v (.int .i64 (k_1 : Int)))], [.cells [.v (.string d.name), .v (.int .i64 d.hours), .v (.int .i64 d.tank.cap), .v (.int .i64 d.tank.start), .rs .reach d.reaches, .rs .farm d.farms, .rs .crop d.crops, .rs .right d.rights, .rs .duty d.duties, .rs .well d.wells], .dead, .row .fault s_1]⟩), ⟨t, [.cells [.v (.string d.name), .v (.int .i64 d.hours), .v (.int .i64 d.tank.cap), .v (.int .i64 d.tank.start), .rs .reach d.reaches, .rs .farm d.farms, .rs .crop d.crops, .rs .right d.rights, .rs .duty d.duties, .rs .well d.wells], .row .fault s_0]⟩, [0, 1, 1], rfl, hok1, NilS.refl _, Nat.le_of_ble_eq_true rfl, ?_, fun k_1 s_1 hk1 hp1 => ?_⟩
          · simp only [go_sem, Nat.reduceBEq, Nat.reduceLeDiff, Nat.reduceAdd, Nat.reduceSub, Nat.reduceMul, Int.reduceLE, Int.reduceLT, Int.reduceToNat, Int.reduceNeg, reduceCtorEq, e1_0, e1_1, e1_2, e1_3, e1_4, e1_5, e1_6]
            all_goals (first | done | decide | (repeat' (first | refine And.intro ?_ ?_ | rfl | decide)))
          refine ⟨(fun id st => none), ?_, ?_⟩
          · simp only [loopsOk, and_self, true_and, and_true]
          · by_cases hb1 : d.farms.length ≤ maxL
            rotate_left
            · simp only [go_sem, Nat.reduceBEq, Nat.reduceLeDiff, Nat.reduceAdd, Nat.reduceSub, Nat.reduceMul, Int.reduceLE, Int.reduceLT, Int.reduceToNat, Int.reduceNeg, reduceCtorEq, C_ref28_opened, C_ref28_claimed, hb1]
            · by_cases hlt1 : k_1 < d.farms.length
              · have hw1 := wrapS hlt1 hb1
                have hq1 := hp1 hlt1
                unfold ref28_unmet_l1_p at hq1
                replace hq1 := hq1 hb1
                try simp only [hw1, Int.toNat_natCast] at hq1
                have hc1 : decide ((k_1 : Int) < (d.farms.length : Int)) = true := by simp only [decide_eq_true_eq]; omega
                simp only [go_sem, Nat.reduceBEq, Nat.reduceLeDiff, Nat.reduceAdd, Nat.reduceSub, Nat.reduceMul, Int.reduceLE, Int.reduceLT, Int.reduceToNat, Int.reduceNeg, reduceCtorEq, C_ref28_opened, C_ref28_claimed, ref28_unmet_l1, hc1, hw1]
                all_goals exact crSxR13_1
              · have hc1 : decide ((k_1 : Int) < (d.farms.length : Int)) = false := by simp only [decide_eq_false_iff_not]; omega
                simp only [go_sem, Nat.reduceBEq, Nat.reduceLeDiff, Nat.reduceAdd, Nat.reduceSub, Nat.reduceMul, Int.reduceLE, Int.reduceLT, Int.reduceToNat, Int.reduceNeg, reduceCtorEq, C_ref28_opened, C_ref28_claimed, hc1]
                all_goals exact crSxR13_1
      · by_cases hb0 : c.length ≤ maxL
        rotate_left
        · simp only [go_sem, Nat.reduceBEq, Nat.reduceLeDiff, Nat.reduceAdd, Nat.reduceSub, Nat.reduceMul, Int.reduceLE, Int.reduceLT, Int.reduceToNat, Int.reduceNeg, reduceCtorEq, C_ref28_opened, C_ref28_claimed, hb0]
        · by_cases hlt0 : k_0 < c.length
          · have hw0 := wrapS hlt0 hb0
            have hq0 := hp0 hlt0
            unfold ref28_unmet_l0_p at hq0
            replace hq0 := hq0 hb0
            try simp only [hw0, Int.toNat_natCast] at hq0
            have hc0 : decide ((k_0 : Int) < (c.length : Int)) = true := by simp only [decide_eq_true_eq]; omega
            simp only [go_sem, Nat.reduceBEq, Nat.reduceLeDiff, Nat.reduceAdd, Nat.reduceSub, Nat.reduceMul, Int.reduceLE, Int.reduceLT, Int.reduceToNat, Int.reduceNeg, reduceCtorEq, C_ref28_opened, C_ref28_claimed, ref28_unmet_l0, hc0, hw0]
            all_goals exact crSxR13_4
          · have hc0 : decide ((k_0 : Int) < (c.length : Int)) = false := by simp only [decide_eq_false_iff_not]; omega
            simp only [go_sem, Nat.reduceBEq, Nat.reduceLeDiff, Nat.reduceAdd, Nat.reduceSub, Nat.reduceMul, Int.reduceLE, Int.reduceLT, Int.reduceToNat, Int.reduceNeg, reduceCtorEq, C_ref28_opened, C_ref28_claimed, hc0]
            all_goals exact crSxR13_4
  · unfold bodyOf Tryz.f30
    try unfold ref28_unmet
    simp only [go_sem, Nat.reduceBEq, Nat.reduceLeDiff, Nat.reduceAdd, Nat.reduceSub, Nat.reduceMul, Int.reduceLE, Int.reduceLT, Int.reduceToNat, Int.reduceNeg, reduceCtorEq, C_ref28_opened, C_ref28_claimed]
    all_goals exact cl
def ref28_Faults (d : District) (c : List Claim) (l_ : List Order) : List Fault × Int := (bif ((ref28_check d c l_) != 0) then ([], (ref28_check d c l_)) else (((((((ref28_gates d l_ 1) ++ (ref28_gates d l_ 2)) ++ (ref28_banks d l_)) ++ (ref28_tank d l_)) ++ (ref28_water d l_)) ++ (ref28_unmet d c l_)), 0))
def ref28_Faults_p (d : District) (c : List Claim) (l_ : List Order) : Prop := ((ref28_check_p d c l_) ∧ (((ref28_check d c l_) != 0) = false → ((ref28_gates_p d l_ 1) ∧ ((ref28_gates_p d l_ 2) ∧ ((((ref28_gates d l_ 1) ++ (ref28_gates d l_ 2)).length * 40 ≤ maxB) ∧ (((ref28_gates d l_ 1) ++ (ref28_gates d l_ 2)).length ≤ maxL → ((ref28_banks_p d l_) ∧ (((((ref28_gates d l_ 1) ++ (ref28_gates d l_ 2)) ++ (ref28_banks d l_)).length * 40 ≤ maxB) ∧ ((((ref28_gates d l_ 1) ++ (ref28_gates d l_ 2)) ++ (ref28_banks d l_)).length ≤ maxL → ((ref28_tank_p d l_) ∧ ((((((ref28_gates d l_ 1) ++ (ref28_gates d l_ 2)) ++ (ref28_banks d l_)) ++ (ref28_tank d l_)).length * 40 ≤ maxB) ∧ (((((ref28_gates d l_ 1) ++ (ref28_gates d l_ 2)) ++ (ref28_banks d l_)) ++ (ref28_tank d l_)).length ≤ maxL → ((ref28_water_p d l_) ∧ (((((((ref28_gates d l_ 1) ++ (ref28_gates d l_ 2)) ++ (ref28_banks d l_)) ++ (ref28_tank d l_)) ++ (ref28_water d l_)).length * 40 ≤ maxB) ∧ ((((((ref28_gates d l_ 1) ++ (ref28_gates d l_ 2)) ++ (ref28_banks d l_)) ++ (ref28_tank d l_)) ++ (ref28_water d l_)).length ≤ maxL → ((ref28_unmet_p d c l_) ∧ (((((((ref28_gates d l_ 1) ++ (ref28_gates d l_ 2)) ++ (ref28_banks d l_)) ++ (ref28_tank d l_)) ++ (ref28_water d l_)) ++ (ref28_unmet d c l_)).length * 40 ≤ maxB)))))))))))))))))
def C_ref28_Faults : List SV → Option Con := (pD .district fun d => (pR .claim fun c => (pR .order fun l_ => pE (.det (ref28_Faults_p d c l_) (.tup [.rs .fault ((ref28_Faults d c l_).1), .v (.int .i64 ((ref28_Faults d c l_).2))])))))
theorem ok_ref28_Faults : FnOk Tryz.prog 7 C_ref28_Faults := by
  have hG : ConsOk Tryz.prog (mkG [(25, fun l => C_ref28_check (nrmA [.st .district, .sl .claim, .sl .order] l)), (26, fun l => C_ref28_gates (nrmA [.st .district, .sl .order, .o] l)), (27, fun l => C_ref28_banks (nrmA [.st .district, .sl .order] l)), (28, fun l => C_ref28_tank (nrmA [.st .district, .sl .order] l)), (29, fun l => C_ref28_water (nrmA [.st .district, .sl .order] l)), (30, fun l => C_ref28_unmet (nrmA [.st .district, .sl .claim, .sl .order] l))] []) := mkG_ok (cgc (ok_ref28_check.norm [.st .district, .sl .claim, .sl .order]) (cgc (ok_ref28_gates.norm [.st .district, .sl .order, .o]) (cgc (ok_ref28_banks.norm [.st .district, .sl .order]) (cgc (ok_ref28_tank.norm [.st .district, .sl .order]) (cgc (ok_ref28_water.norm [.st .district, .sl .order]) (cgc (ok_ref28_unmet.norm [.st .district, .sl .claim, .sl .order]) cg0)))))) cg0
  refine fn_okN [.sl .fault, .o] mixed ts_ok hG (fn := Tryz.f7) (c := bodyOf Tryz.f7) (by kernel_rfl) (by kernel_rfl) (by kernel_rfl) (by kernel_rfl) fun l con h hp => ?_
  unfold C_ref28_Faults at h
  obtain ⟨d, l0, rfl, h0⟩ := pD_inv h
  obtain ⟨c, l1, rfl, h1⟩ := pR_inv h0
  obtain ⟨l_, l2, rfl, h2⟩ := pR_inv h1
  obtain ⟨rfl, rfl⟩ := pE_inv h2
  clear h h0 h1 h2
  dsimp only [conPre] at hp
  unfold ref28_Faults_p at hp
  refine ⟨Nat.le_of_ble_eq_true rfl, (fun id st => none), ?_, ?_⟩
  · unfold bodyOf Tryz.f7
    simp only [loopsOk, and_self, true_and, and_true]
  · unfold bodyOf Tryz.f7
    try unfold ref28_Faults
    simp only [go_sem, Nat.reduceBEq, Nat.reduceLeDiff, Nat.reduceAdd, Nat.reduceSub, Nat.reduceMul, Int.reduceLE, Int.reduceLT, Int.reduceToNat, Int.reduceNeg, reduceCtorEq, C_ref28_check, C_ref28_gates, C_ref28_banks, C_ref28_tank, C_ref28_water, C_ref28_unmet]
    all_goals exact cl
def ref28_Accepts (d : District) (c : List Claim) (l_ : List Order) : Bool × Int := ((((ref28_Faults d c l_).2 == 0) && ((((ref28_Faults d c l_).1).length : Int) == 0)), (ref28_Faults d c l_).2)
def ref28_Accepts_p (d : District) (c : List Claim) (l_ : List Order) : Prop := (ref28_Faults_p d c l_)
def C_ref28_Accepts : List SV → Option Con := (pD .district fun d => (pR .claim fun c => (pR .order fun l_ => pE (.det (ref28_Accepts_p d c l_) (.tup [.v (.bool ((ref28_Accepts d c l_).1)), .v (.int .i64 ((ref28_Accepts d c l_).2))])))))
theorem ok_ref28_Accepts : FnOk Tryz.prog 9 C_ref28_Accepts := by
  have hG : ConsOk Tryz.prog (mkG [(7, fun l => C_ref28_Faults (nrmA [.st .district, .sl .claim, .sl .order] l))] []) := mkG_ok (cgc (ok_ref28_Faults.norm [.st .district, .sl .claim, .sl .order]) cg0) cg0
  refine fn_okN [.o, .o] mixed ts_ok hG (fn := Tryz.f9) (c := bodyOf Tryz.f9) (by kernel_rfl) (by kernel_rfl) (by kernel_rfl) (by kernel_rfl) fun l con h hp => ?_
  unfold C_ref28_Accepts at h
  obtain ⟨d, l0, rfl, h0⟩ := pD_inv h
  obtain ⟨c, l1, rfl, h1⟩ := pR_inv h0
  obtain ⟨l_, l2, rfl, h2⟩ := pR_inv h1
  obtain ⟨rfl, rfl⟩ := pE_inv h2
  clear h h0 h1 h2
  dsimp only [conPre] at hp
  unfold ref28_Accepts_p at hp
  refine ⟨Nat.le_of_ble_eq_true rfl, (fun id st => none), ?_, ?_⟩
  · unfold bodyOf Tryz.f9
    simp only [loopsOk, and_self, true_and, and_true]
  · unfold bodyOf Tryz.f9
    try unfold ref28_Accepts
    simp only [go_sem, Nat.reduceBEq, Nat.reduceLeDiff, Nat.reduceAdd, Nat.reduceSub, Nat.reduceMul, Int.reduceLE, Int.reduceLT, Int.reduceToNat, Int.reduceNeg, reduceCtorEq, C_ref28_Faults]
    all_goals exact cl
def law28_CertifySpec (a0 : District) (a1 : List Claim) (a2 : List Order) : Bool := (bif (!law28_sane) then false else (bif (!(ref28_Few a0 a1 a2)) then true else ((((ref28_Same ((certify_Faults a0 a1 a2).1) ((ref28_Faults a0 a1 a2).1)) && ((certify_Faults a0 a1 a2).2 == (ref28_Faults a0 a1 a2).2)) && ((certify_Accepts a0 a1 a2).1 == (ref28_Accepts a0 a1 a2).1)) && ((certify_Accepts a0 a1 a2).2 == (ref28_Accepts a0 a1 a2).2))))
def law28_CertifySpec_p (a0 : District) (a1 : List Claim) (a2 : List Order) : Prop := ((law28_sane_p) ∧ ((!law28_sane) = false → ((!(ref28_Few a0 a1 a2)) = false → ((certify_Faults_p a0 a1 a2) ∧ ((ref28_Faults_p a0 a1 a2) ∧ ((certify_Accepts_p a0 a1 a2) ∧ (ref28_Accepts_p a0 a1 a2)))))))
def C_law28_CertifySpec : List SV → Option Con := (pD .district fun a0 => (pR .claim fun a1 => (pR .order fun a2 => pE (.det (law28_CertifySpec_p a0 a1 a2) (.v (.bool (law28_CertifySpec a0 a1 a2)))))))
theorem ok_law28_CertifySpec : FnOk Tryz.prog 3 C_law28_CertifySpec := by
  have hG : ConsOk Tryz.prog (mkG [(4, C_law28_sane), (5, fun l => C_ref28_Few (nrmA [.st .district, .sl .claim, .sl .order] l)), (6, fun l => C_certify_Faults (nrmA [.st .district, .sl .claim, .sl .order] l)), (7, fun l => C_ref28_Faults (nrmA [.st .district, .sl .claim, .sl .order] l)), (8, fun l => C_certify_Accepts (nrmA [.st .district, .sl .claim, .sl .order] l)), (9, fun l => C_ref28_Accepts (nrmA [.st .district, .sl .claim, .sl .order] l)), (10, fun l => C_ref28_Same (nrmA [.sl .fault, .sl .fault] l))] []) := mkG_ok (cgc ok_law28_sane (cgc (ok_ref28_Few.norm [.st .district, .sl .claim, .sl .order]) (cgc (ok_certify_Faults.norm [.st .district, .sl .claim, .sl .order]) (cgc (ok_ref28_Faults.norm [.st .district, .sl .claim, .sl .order]) (cgc (ok_certify_Accepts.norm [.st .district, .sl .claim, .sl .order]) (cgc (ok_ref28_Accepts.norm [.st .district, .sl .claim, .sl .order]) (cgc (ok_ref28_Same.norm [.sl .fault, .sl .fault]) cg0))))))) cg0
  refine fn_okN [.o] mixed ts_ok hG (fn := Tryz.f3) (c := bodyOf Tryz.f3) (by kernel_rfl) (by kernel_rfl) (by kernel_rfl) (by kernel_rfl) fun l con h hp => ?_
  unfold C_law28_CertifySpec at h
  obtain ⟨a0, l0, rfl, h0⟩ := pD_inv h
  obtain ⟨a1, l1, rfl, h1⟩ := pR_inv h0
  obtain ⟨a2, l2, rfl, h2⟩ := pR_inv h1
  obtain ⟨rfl, rfl⟩ := pE_inv h2
  clear h h0 h1 h2
  dsimp only [conPre] at hp
  unfold law28_CertifySpec_p at hp
  refine ⟨Nat.le_of_ble_eq_true rfl, (fun id st => none), ?_, ?_⟩
  · unfold bodyOf Tryz.f3
    simp only [loopsOk, and_self, true_and, and_true]
  · unfold bodyOf Tryz.f3
    try unfold law28_CertifySpec
    simp only [go_sem, Nat.reduceBEq, Nat.reduceLeDiff, Nat.reduceAdd, Nat.reduceSub, Nat.reduceMul, Int.reduceLE, Int.reduceLT, Int.reduceToNat, Int.reduceNeg, reduceCtorEq, C_law28_sane, C_ref28_Few, C_certify_Faults, C_ref28_Faults, C_certify_Accepts, C_ref28_Accepts, C_ref28_Same]
    all_goals exact cl
end Go.Sx
end
section
namespace Go.Sx
open Go.Proofs
theorem flat_congr {α β : Type} {f g : α → List β} {l : List α} (h : ∀ x ∈ l, f x = g x) : l.flatMap f = l.flatMap g := by
  induction l with
  | nil => rfl
  | cons x r ih =>
    rw [List.flatMap_cons, List.flatMap_cons, h x List.mem_cons_self, ih fun y hy => h y (List.mem_cons_of_mem _ hy)]
theorem gates_eq {d : District} {l : List Order} {t : CertifyTable} (ht : t.d = d) (hl : t.l = l) (k : Int) (hk : k = 1 ∨ k = 2) : ref28_gates d l k = (List.range' 0 t.l.length).flatMap (gF t k) := by
  have hs : ∀ j s, ref28_gates_l0 d l k j s = .inr (s ++ gF t k j) := fun j s => by
    unfold ref28_gates_l0 gF
    rw [ht, hl]
    generalize l.getD j default = x
    generalize d.reaches.getD x.index.toNat default = y
    rcases hk with rfl | rfl
    · cases x.outlet <;> cases hc : decide (x.litres > y.cap) <;> simp [hc]
    · cases x.outlet <;> cases hc : decide (x.litres < y.siphon) <;> simp [hc]
  unfold ref28_gates
  rw [runI_app hs, List.nil_append, hl]
def bR (d : District) (l : List Order) (h r : Nat) : List Fault :=
  bif decide ((ref28_Sum l (r : Int) (IntKind.i64.wrap ((IntKind.i64.wrap ((h : Int) - (d.reaches.getD r default).delay)) + 1)) (h : Int)) > (d.reaches.getD r default).bank) then
    [{ kind := 3, hour := (h : Int), index := (r : Int), litres := ref28_Sum l (r : Int) (IntKind.i64.wrap ((IntKind.i64.wrap ((h : Int) - (d.reaches.getD r default).delay)) + 1)) (h : Int), limit := (d.reaches.getD r default).bank }] else []
theorem bR_len (d : District) (l : List Order) (h r : Nat) : (bR d l h r).length ≤ 1 := by
  unfold bR; rw [Bool.cond_eq_ite]; split <;> simp
theorem banksR_step (d : District) (l : List Order) (h r : Nat) (s : List Fault) : ref28_banks_l1 d l h r s = .inr (s ++ bR d l h r) := by
  unfold ref28_banks_l1 bR
  rw [Bool.cond_eq_ite, Bool.cond_eq_ite]; split <;> simp
theorem banksR_row (d : District) (l : List Order) (h : Nat) (s : List Fault) : ref28_banks_l0 d l h s = .inr (s ++ (List.range' 0 d.reaches.length).flatMap (bR d l h)) := by
  unfold ref28_banks_l0
  rw [runI_app (banksR_step d l h)]
theorem banksR_run (d : District) (l : List Order) : ref28_banks d l = (List.range' 0 d.hours.toNat).flatMap fun h => (List.range' 0 d.reaches.length).flatMap (bR d l h) := by
  unfold ref28_banks
  rw [runI_app (banksR_row d l), List.nil_append]
theorem cells_flat {t : CertifyTable} (f : Int × Int → List Fault) : (certify_cells t).flatMap f = (List.range' 0 t.d.hours.toNat).flatMap fun (h : Nat) => (List.range' 0 t.d.reaches.length).flatMap fun (r : Nat) => f ((h : Int), (r : Int)) := by
  unfold certify_cells
  rw [List.flatMap_assoc, ← List.range_eq_range', ← List.range_eq_range']
  refine flat_congr fun h _ => ?_
  rw [List.flatMap_map]
theorem bank_eq {d : District} {l : List Order} {t : CertifyTable} (ho : Orders1 d l) (ht : t.d = d) (h2 : Table2 d l t) {h r : Nat} (hh : h < d.hours.toNat) (hr : r < d.reaches.length) :
    waterW t ((h : Int), (r : Int)) = ref28_Sum l (r : Int) (IntKind.i64.wrap ((IntKind.i64.wrap ((h : Int) - (d.reaches.getD r default).delay)) + 1)) (h : Int) := by
  have hR := ho.right
  have a1 := hR.hours1
  have a2 := hR.hours
  have hx := hR.reach1 hr
  have d1 := hx.delay1
  have d2 := hx.delay
  unfold waterW
  rw [ht]
  simp only [Int.toNat_natCast]
  generalize hdl : (d.reaches.getD r default).delay = dl at d1 d2
  have w1 : IntKind.i64.wrap ((h : Int) + 1) = (h : Int) + 1 := wrapI (by omega) (by omega)
  have w2 : IntKind.i64.wrap ((h : Int) + 1 - dl) = (h : Int) + 1 - dl := wrapI (by omega) (by omega)
  have w3 : IntKind.i64.wrap ((h : Int) - dl) = (h : Int) - dl := wrapI (by omega) (by omega)
  have w4 : IntKind.i64.wrap ((h : Int) - dl + 1) = (h : Int) - dl + 1 := wrapI (by omega) (by omega)
  rw [w1, w2, w3, w4, Sum_eq ho]
  generalize hm : (if 0 < (h : Int) + 1 - dl then (h : Int) + 1 - dl else 0) = m
  have m0 : 0 ≤ m ∧ m ≤ h ∧ (m = (h : Int) + 1 - dl ∨ m = 0 ∧ (h : Int) + 1 - dl ≤ 0) := by
    subst hm; split <;> omega
  have c1 := h2.sums r (h + 1) hr (by omega)
  have c2 := h2.sums r m.toNat hr (by omega)
  have e1 : ((h : Int) + 1).toNat = h + 1 := by omega
  rw [e1]
  show IntKind.i64.wrap (cell t.sums r (h + 1) - cell t.sums r m.toNat) = _
  rw [c1, c2]
  have e2 : (((h + 1 : Nat) : Int) - 1) = (h : Int) := by omega
  have e3 : ((m.toNat : Nat) : Int) = m := by omega
  rw [e2, e3]
  have b1 := all_le ho (gateP r 0 h)
  have b2 := all_le ho (gateP r 0 (m - 1))
  have hadd : osum (gateP r 0 (m - 1)) l + osum (gateP r ((h : Int) - dl + 1) h) l = osum (gateP r 0 h) l := osum_add fun x hx => by
    obtain ⟨k, hk, rfl⟩ := List.getElem_of_mem hx
    have h0 := (ho.one k hk).hour0
    rw [getD_el _ _ hk] at h0
    unfold gateP
    cases (!l[k].outlet && l[k].index == (r : Int))
    · simp
    · simp only [Bool.true_and]
      constructor
      · refine b_iff ?_
        simp only [Bool.or_eq_true, Bool.and_eq_true, decide_eq_true_eq]; omega
      · rw [Bool.eq_false_iff]
        simp only [ne_eq, Bool.and_eq_true, decide_eq_true_eq]; omega
  rw [wrapI (by omega) (by omega)]
  omega
theorem banks_eq {d : District} {l : List Order} {t : CertifyTable} (ho : Orders1 d l) (ht : t.d = d) (h2 : Table2 d l t) : ref28_banks d l = (certify_cells t).flatMap (bF t) := by
  rw [banksR_run, cells_flat, ht]
  refine flat_congr fun h hh => flat_congr fun r hr => ?_
  rw [List.mem_range'_1] at hh hr
  unfold bR bF
  rw [bank_eq ho ht h2 (by omega) (by omega), ht]
  simp only [Int.toNat_natCast]
theorem runI_left {ρ : Type} {f : ρ → ρ} {s1 s2 : Nat → Unit → ρ ⊕ Unit} : ∀ (n i : Nat), (∀ j, i ≤ j → j < i + n → s1 j () = match s2 j () with | .inl y => .inl (f y) | .inr _ => .inr ()) →
    runI s1 n i () = match runI s2 n i () with | .inl y => .inl (f y) | .inr _ => .inr ()
  | 0, i, _ => rfl
  | n + 1, i, h => by
    simp only [runI]
    rw [h i (by omega) (by omega)]
    cases s2 i () with
    | inl y => rfl
    | inr y => exact runI_left n (i + 1) fun j h1 h2 => h j (by omega) (by omega)
theorem tank_eq {d : District} {l : List Order} {t : CertifyTable} (ho : Orders1 d l) (ht : t.d = d) (h2 : Table2 d l t) (s : List Fault) : certify_table_tank t s = s ++ ref28_tank d l := by
  have hR := ho.right
  have a1 := hR.hours1
  have a2 := hR.hours
  unfold certify_table_tank ref28_tank
  rw [ht]
  have := runI_left (f := fun y => s ++ y) (s1 := certify_table_tank_l0 t s) (s2 := ref28_tank_l0 d l) d.hours.toNat 0 fun j _ hj => by
    unfold certify_table_tank_l0 ref28_tank_l0 certify_Faults_1
    have w1 : IntKind.i64.wrap ((j : Int) + 1) = (j : Int) + 1 := wrapI (by omega) (by omega)
    have c1 := h2.sums 0 (j + 1) hR.one (by omega)
    have e1 : ((j : Int) + 1).toNat = j + 1 := by omega
    have e2 : (((j + 1 : Nat) : Int) - 1) = (j : Int) := by omega
    rw [e2] at c1
    have c1 : (t.sums.getD 0 default).getD (j + 1) 0 = osum (gateP (0 : Nat) 0 j) l := c1
    rw [w1, e1, c1, Sum_eq ho, ht]
    cases hd : decide (osum (gateP (0 : Nat) 0 j) l > d.tank.start) <;> (simp only [Int.natCast_zero] at hd; simp [hd])
  rw [this]
  cases runI (ref28_tank_l0 d l) d.hours.toNat 0 () with
  | inl y => rfl
  | inr y => simp
end Go.Sx
end
