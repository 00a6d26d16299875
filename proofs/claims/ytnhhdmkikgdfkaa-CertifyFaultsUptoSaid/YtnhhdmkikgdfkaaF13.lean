/- Part of the proof that the law CertifyFaults returns true and leaves its arguments as they were, for all arguments of bulk at most 1048576 (the Upto form). -/
import Derived.Test.YtnhhdmkikgdfkaaF12
import Derived.Test.YtnhhdmkikgdfkaaF08
import Derived.Test.YtnhhdmkikgdfkaaF06
import Derived.Deep.Slices
import Derived.OpenShut
import Derived.Test.YtnhhdmkikgdfkaaF07
import Derived.ChangeSame
import Derived.WideKeyArgs
import Derived.Below
import Derived.Test.YtnhhdmkikgdfkaaRows
import Derived.WalkKit
import Derived.ProofKit
import Derived.JoinedCond
import Derived.Carry
set_option linter.all false
section
namespace Go.Sx
open Go.Proofs
theorem claims_pt (d : District) (c : List Claim) : claims_Check_p d c := fun _ h1 _ _ => okI_all _ _ _ fun j s h2 h3 => by
  unfold maxL at h1
  unfold claims_Check_l0_p
  refine ⟨fun h => ?_, fun h => ?_, fun _ h => ?_⟩
  · simp only [Bool.not_eq_false', Bool.and_eq_true, decide_eq_true_eq] at h
    omega
  · simp only [Bool.or_eq_false_iff, Bool.not_eq_false', Bool.and_eq_true, decide_eq_true_eq] at h
    omega
  · simp only [decide_eq_true_eq] at h
    rw [wrap_pred (by omega) (by omega)]; omega
theorem runI_inl {ρ : Type} {step : Nat → Unit → ρ ⊕ Unit} : ∀ {n i : Nat} {s : Unit} {y : ρ}, runI step n i s = .inl y → ∃ j, i ≤ j ∧ j < i + n ∧ step j () = .inl y
  | n + 1, i, s, y, h => by
    simp only [runI] at h
    cases hs : step i s with
    | inl r => rw [hs] at h; cases h; exact ⟨i, by omega, by omega, hs⟩
    | inr s' =>
      rw [hs] at h
      obtain ⟨j, h1, h2, h3⟩ := runI_inl h
      exact ⟨j, by omega, by omega, h3⟩
theorem tank_run (t : CertifyTable) (s : List Fault) : ∃ T : List Fault, certify_table_tank t s = s ++ T ∧ (T = [] ∨ ∃ x, T = [x] ∧ x.kind = 4 ∧ x.litres > x.limit) := by
  unfold certify_table_tank
  split
  · rename_i y hy
    obtain ⟨j, _, _, h⟩ := runI_inl hy
    unfold certify_table_tank_l0 certify_Faults_1 at h
    rw [Bool.cond_eq_ite] at h
    split at h
    · rename_i hd
      simp only [decide_eq_true_eq] at hd
      cases h
      exact ⟨_, rfl, .inr ⟨_, rfl, rfl, hd⟩⟩
    · cases h
  · exact ⟨[], by simp, .inl rfl⟩
theorem flat_lenB {α : Type} (f : α → List Fault) (B : Nat) (h : ∀ x, (f x).length ≤ B) : ∀ l : List α, (l.flatMap f).length ≤ l.length * B
  | [] => by simp
  | x :: l => by
    have := flat_lenB f B h l
    have := h x
    simp only [List.flatMap_cons, List.length_append, List.length_cons, Nat.succ_mul]
    omega
theorem unmet_run (c : List Claim) (t : CertifyTable) : ∃ m, ∀ s, certify_table_unmet_1 c t s = s ++ (List.range' 0 t.d.hours.toNat).flatMap fun h => (List.range' 0 t.d.farms.length).flatMap (uF t m h) := by
  unfold certify_table_unmet_1
  cases hs : runI (certify_table_unmet_1_l0 c) c.length 0 [] with
  | inl x => exact x.elim
  | inr m =>
    refine ⟨m, fun s => ?_⟩
    dsimp only
    rw [runI_app (unmet1_step t m)]
theorem stage_p {d : District} {l : List Order} (h : Table1 d l (certify_read d l).1) (c : List Claim) (j : Nat) (s : List Fault) (hs : s.length ≤ 100000000) : certify_Faults_l0_p d c l j s :=
  ⟨fun _ => gates_p h 1 hs, fun _ => ⟨fun _ => gates_p h 2 hs, fun _ => ⟨fun _ => banks_p h hs, fun _ => ⟨fun _ => tank_p h hs, fun _ => ⟨fun _ => water_p h hs, fun _ => unmet_p h c hs⟩⟩⟩⟩⟩
theorem stage_len {d : District} {l : List Order} (h : Table1 d l (certify_read d l).1) (c : List Claim) (j : Nat) (s s' : List Fault) (hs : certify_Faults_l0 d c l j s = .inr s') : s'.length ≤ s.length + 3000000 := by
  have hr := h.ords.right
  have hc := cells_small hr h.td
  have hl := h.ords.len
  unfold certify_Faults_l0 at hs
  generalize (certify_read d l).1 = t at h hc hs
  have g : ∀ k, (certify_table_gates_1 t k s).length ≤ s.length + 3000000 := fun k => by
    have := flat_len _ (gF_len t k) (List.range' 0 t.l.length)
    rw [List.length_range', h.tl] at this
    rw [gates_run, List.length_append, h.tl]; omega
  simp only [Bool.cond_eq_ite] at hs
  repeat' split at hs
  all_goals (simp only [Sum.inr.injEq] at hs; subst hs)
  · exact g 1
  · exact g 2
  · have := flat_len _ (bF_len t) (certify_cells t)
    rw [banks_run, List.length_append]; omega
  · obtain ⟨T, e, hT⟩ := tank_run t s
    rw [e, List.length_append]
    rcases hT with rfl | ⟨x, rfl, _⟩ <;> simp
  · have := flat_len _ (wF_len t) (certify_cells t)
    rw [water_run, List.length_append]; omega
  · obtain ⟨m, hm⟩ := unmet_run c t
    have h1 := flat_lenB (fun h => (List.range' 0 t.d.farms.length).flatMap (uF t m h)) 600 (fun x => by
      have := flat_len _ (uF_len t m x) (List.range' 0 t.d.farms.length)
      have := hr.farms
      rw [List.length_range'] at *
      rw [h.td] at *
      omega) (List.range' 0 t.d.hours.toNat)
    have h2 := hr.hours
    rw [List.length_range', h.td] at h1
    rw [hm, List.length_append, h.td]
    have : d.hours.toNat * 600 ≤ 4096 * 600 := Nat.mul_le_mul_right _ (by omega)
    omega
theorem faults_pt (d : District) (c : List Claim) (l : List Order) : certify_Faults_p d c l := by
  refine ⟨claims_pt d c, fun _ => ⟨read_p d l, fun h2 => ?_⟩⟩
  have h := read_table h2
  exact okI_inv (fun k s => s.length ≤ k * 3000000) _ _ _ (by simp) fun j s _ hj hs => ⟨stage_p h c j s (by omega), fun s' e => by
    have := stage_len h c j s s' e
    omega⟩
theorem accepts_pt (d : District) (c : List Claim) (l : List Order) : certify_Accepts_p d c l := faults_pt d c l
theorem arrive_pt (d : District) (l : List Order) (r h : Int) : certify_Arrive_p d l r h := fun _ => ⟨read_p d l, fun h2 h3 => by
  have ht := read_table h2
  simp only [Bool.or_eq_false_iff, decide_eq_false_iff_not] at h3
  unfold certify_table_arrives_p
  rw [ht.td]
  omega⟩
end Go.Sx
end
section
namespace Go.Sx
open Go.Proofs
set_option maxRecDepth 100000
theorem sane_t : law28_sane = true := by kernel_rfl
theorem acc_T (d : District) (c : List Claim) (l : List Order) : certify_Accepts_p d c l = True := eq_true (accepts_pt d c l)
theorem fau_T (d : District) (c : List Claim) (l : List Order) : certify_Faults_p d c l = True := eq_true (faults_pt d c l)
theorem arr_T (d : District) (l : List Order) (r h : Int) : certify_Arrive_p d l r h = True := eq_true (arrive_pt d l r h)
theorem sane_p : law28_sane_p := by
  unfold law28_sane_p
  simp [acc_T, fau_T, arr_T, maxB, law28_district]
end Go.Sx
end
section
namespace Go.Sx
open Go.Proofs
theorem faults_eq {d : District} {c : List Claim} {l : List Order} (h : ((certify_Faults d c l).2 != 0) = false) :
    ((certify_read d l).2 != 0) = false ∧ (expand_Check d != 0) = false ∧ (certify_Faults d c l).1 = certify_table_unmet_1 c (certify_read d l).1 (certify_table_water (certify_read d l).1 (certify_table_tank (certify_read d l).1 (certify_table_banks (certify_read d l).1 (certify_table_gates_1 (certify_read d l).1 2 (certify_table_gates_1 (certify_read d l).1 1 []))))) := by
  have h : (certify_Faults d c l).2 = 0 := by simpa using h
  unfold certify_Faults at h ⊢
  cases h1 : (claims_Check d c != 0) with
  | true => rw [h1] at h; simp at h h1; exact absurd h h1
  | false =>
    rw [h1] at h
    simp only [cond_false] at h ⊢
    cases h2 : ((certify_read d l).2 != 0) with
    | true => rw [h2] at h; simp at h h2; exact absurd h h2
    | false =>
      refine ⟨rfl, ?_, ?_⟩
      · have h1 : claims_Check d c = 0 := by simpa using h1
        unfold claims_Check at h1
        cases h3 : (expand_Check d != 0) with
        | true => rw [h3] at h1; simp at h1 h3; exact absurd h1 h3
        | false => rfl
      · simp only [cond_false]
        rfl
theorem faults_none {d : District} {c : List Claim} {l : List Order} (h : ((certify_Faults d c l).2 != 0) = true) : (certify_Faults d c l).1 = [] := by
  unfold certify_Faults at h ⊢
  cases h1 : (claims_Check d c != 0) with
  | true => rfl
  | false =>
    rw [h1] at h
    simp only [cond_false] at h ⊢
    cases h2 : ((certify_read d l).2 != 0) with
    | true => rfl
    | false =>
      rw [h2] at h
      simp only [cond_false] at h
      split at h
      · rename_i x _; exact x.elim
      · simp at h
def flt (a b : Fault) : Prop := a.kind < b.kind ∨ a.kind = b.kind ∧ (a.hour < b.hour ∨ a.hour = b.hour ∧ a.index < b.index)
def good (d : District) (l : List Order) (x : Fault) : Prop :=
  ((x.kind = 2 ∨ x.kind = 6) ∧ x.litres < x.limit) ∨ ((x.kind = 1 ∨ x.kind = 3 ∨ x.kind = 4 ∨ x.kind = 5) ∧ x.litres > x.limit ∧ (x.kind = 5 → certify_Arrive d l x.index x.hour = (x.limit, 0)))
theorem gF_mem {t : CertifyTable} {kind : Int} {k : Nat} {x : Fault} (h : x ∈ gF t kind k) : (t.l.getD k default).outlet = false ∧ x.kind = kind ∧ x.hour = (t.l.getD k default).hour ∧ x.index = (t.l.getD k default).index ∧ (kind = 2 → x.litres < x.limit) ∧ (kind ≠ 2 → x.litres > x.limit) := by
  unfold gF at h
  simp only [Bool.cond_eq_ite] at h
  repeat' split at h
  all_goals (first | (cases h; done) | skip)
  all_goals (rw [List.mem_singleton] at h; subst h; simp_all)
theorem bF_mem {t : CertifyTable} {z : Int × Int} {x : Fault} (h : x ∈ bF t z) : x.kind = 3 ∧ x.hour = z.1 ∧ x.index = z.2 ∧ x.litres > x.limit := by
  unfold bF at h
  simp only [Bool.cond_eq_ite] at h
  split at h
  · rename_i hd; rw [List.mem_singleton] at h; subst h; simpa using hd
  · cases h
theorem wF_mem {t : CertifyTable} {z : Int × Int} {x : Fault} (h : x ∈ wF t z) : x.kind = 5 ∧ x.hour = z.1 ∧ x.index = z.2 ∧ x.litres > x.limit ∧ x.limit = certify_table_arrives t z.2 z.1 := by
  unfold wF at h
  simp only [Bool.cond_eq_ite] at h
  split at h
  · rename_i hd; rw [List.mem_singleton] at h; subst h; simpa using hd
  · cases h
theorem uF_mem {t : CertifyTable} {m : List (CertifyPlace × Int)} {a b : Nat} {x : Fault} (h : x ∈ uF t m a b) : x.kind = 6 ∧ x.hour = (a : Int) ∧ x.index = (b : Int) ∧ x.litres < x.limit := by
  unfold uF at h
  simp only [Bool.cond_eq_ite] at h
  split at h
  · rename_i hd; rw [List.mem_singleton] at h; subst h; simpa using hd
  · cases h
end Go.Sx
end
section
namespace Go.Sx
open Go.Proofs
def oval (a : Order) : Int := bif a.outlet then 1 else 0
def olt (a b : Order) : Prop := a.hour < b.hour ∨ a.hour = b.hour ∧ (oval a < oval b ∨ oval a = oval b ∧ a.index < b.index)
theorem compare_neg (x y : Int) : cmp_Compare_int x y = if x < y then -1 else if x > y then 1 else 0 := by
  unfold cmp_Compare_int cmp_isNaN_int
  simp [Bool.cond_eq_ite]
theorem order_lt {a b : Order} (h : routing_by_1 a b < 0) : olt a b := by
  unfold routing_by_1 at h
  unfold olt
  have k0 : ∀ x, ordKey 0 x = x.hour := fun _ => rfl
  have k1 : ∀ x, ordKey 1 x = oval x := fun _ => rfl
  have k2 : ∀ x, ordKey 2 x = x.index := fun _ => rfl
  simp only [runI, ordStep, Nat.zero_add, Nat.reduceAdd, k0, k1, k2, compare_neg] at h
  generalize oval a = p at h ⊢
  generalize oval b = q at h ⊢
  rcases Int.lt_trichotomy a.hour b.hour with e | e | e
  · exact .inl e
  · refine .inr ⟨e, ?_⟩
    rcases Int.lt_trichotomy p q with e1 | e1 | e1
    · exact .inl e1
    · refine .inr ⟨e1, ?_⟩
      rcases Int.lt_trichotomy a.index b.index with e2 | e2 | e2
      · exact e2
      · simp [e, e1, e2] at h
      · have h1 : ¬ a.index < b.index := by omega
        simp [e, e1, e2, h1] at h
    · have h1 : ¬ p < q := by omega
      simp [e, e1, h1] at h
  · have h1 : ¬ a.hour < b.hour := by omega
    simp [e, h1] at h
theorem olt_trans {a b c : Order} (h1 : olt a b) (h2 : olt b c) : olt a c := by
  unfold olt at *; omega
theorem Orders1.lt {d : District} {l : List Order} (h : Orders1 d l) : ∀ (k j : Nat), j < k → k < l.length → olt (l.getD j default) (l.getD k default)
  | k + 1, j, h1, h2 => by
    have h3 := order_lt (h.asc k (by omega))
    by_cases e : j = k
    · subst e; exact h3
    · exact olt_trans (h.lt k j (by omega) (by omega)) h3
theorem pair_flat {α : Type} {R : Fault → Fault → Prop} {S : α → α → Prop} (f : α → List Fault) : ∀ (l : List α), l.Pairwise S → (∀ a ∈ l, (f a).Pairwise R) → (∀ a ∈ l, ∀ b ∈ l, S a b → ∀ x ∈ f a, ∀ y ∈ f b, R x y) → (l.flatMap f).Pairwise R
  | [], _, _, _ => by simp
  | a :: l, h1, h2, h3 => by
    rw [List.pairwise_cons] at h1
    rw [List.flatMap_cons, List.pairwise_append]
    refine ⟨h2 a (by simp), pair_flat f l h1.2 (fun b hb => h2 b (by simp [hb])) (fun b hb c hc => h3 b (by simp [hb]) c (by simp [hc])), fun x hx y hy => ?_⟩
    rw [List.mem_flatMap] at hy
    obtain ⟨b, hb, hy⟩ := hy
    exact h3 a (by simp) b (by simp [hb]) (h1.1 b hb) x hx y hy
theorem pair_one {R : Fault → Fault → Prop} {l : List Fault} (h : l.length ≤ 1) : l.Pairwise R := by
  match l, h with
  | [], _ => exact .nil
  | [x], _ => simp
theorem pair_range (n : Nat) : (List.range' 0 n).Pairwise (· < ·) := List.pairwise_lt_range'
theorem cells_pair (t : CertifyTable) : (certify_cells t).Pairwise fun a b => a.1 < b.1 ∨ a.1 = b.1 ∧ a.2 < b.2 := by
  unfold certify_cells
  rw [List.pairwise_flatMap]
  refine ⟨fun a _ => ?_, ?_⟩
  · rw [List.pairwise_map]
    exact List.Pairwise.imp (fun h => .inr ⟨rfl, by omega⟩) List.pairwise_lt_range
  · refine List.Pairwise.imp (fun {a b} h => ?_) List.pairwise_lt_range
    intro x hx y hy
    rw [List.mem_map] at hx hy
    obtain ⟨_, _, rfl⟩ := hx
    obtain ⟨_, _, rfl⟩ := hy
    exact .inl (by dsimp only; omega)
theorem arrive_eq {d : District} {l : List Order} (h1 : (expand_Check d != 0) = false) (h2 : ((certify_read d l).2 != 0) = false) {r h : Int} (hr : 0 ≤ r ∧ r < (d.reaches.length : Int)) (hh : 0 ≤ h ∧ h < d.hours) : certify_Arrive d l r h = (certify_table_arrives (certify_read d l).1 r h, 0) := by
  unfold certify_Arrive
  rw [h1, h2]
  simp only [cond_false]
  have : ((((decide (r < 0)) || (decide (r ≥ (d.reaches.length : Int)))) || (decide (h < 0))) || (decide (h ≥ d.hours))) = false := by
    simp only [Bool.or_eq_false_iff, decide_eq_false_iff_not]
    omega
  rw [this]
  rfl
theorem faults_law {d : District} {c : List Claim} {l : List Order} (h : ((certify_Faults d c l).2 != 0) = false) : (certify_Faults d c l).1.Pairwise flt ∧ ∀ x ∈ (certify_Faults d c l).1, good d l x := by
  obtain ⟨h2, h1, e⟩ := faults_eq h
  have ht := read_table h2
  have hA := fun r hh => @arrive_eq d l h1 h2 r hh
  rw [e]
  clear e h h1 h2
  generalize (certify_read d l).1 = t at ht hA ⊢
  obtain ⟨m, hm⟩ := unmet_run c t
  obtain ⟨T, hT, hT'⟩ := tank_run t (certify_table_banks t (certify_table_gates_1 t 2 (certify_table_gates_1 t 1 [])))
  rw [hm, water_run, hT, banks_run, gates_run, gates_run, List.nil_append]
  have hl := ht.tl
  have hd := ht.td
  have a1 := ht.ords.right.hours1
  have g1 : ∀ kind, ((List.range' 0 t.l.length).flatMap (gF t kind)).Pairwise flt := fun kind => by
    refine pair_flat _ _ (pair_range _) (fun a _ => pair_one (gF_len t kind a)) fun a ha b hb hab x hx y hy => ?_
    have hx := gF_mem hx
    have hy := gF_mem hy
    have hb := (List.mem_range'_1.1 hb).2
    have := ht.ords.lt b a hab (by rw [← hl]; omega)
    rw [← hl] at this
    unfold olt oval at this
    rw [hx.1, hy.1] at this
    unfold flt
    simp only [cond_false] at this
    omega
  have g2 : ((certify_cells t).flatMap (bF t)).Pairwise flt := pair_flat _ _ (cells_pair t) (fun a _ => pair_one (bF_len t a)) fun a _ b _ hab x hx y hy => by
    have hx := bF_mem hx
    have hy := bF_mem hy
    unfold flt; omega
  have g3 : ((certify_cells t).flatMap (wF t)).Pairwise flt := pair_flat _ _ (cells_pair t) (fun a _ => pair_one (wF_len t a)) fun a _ b _ hab x hx y hy => by
    have hx := wF_mem hx
    have hy := wF_mem hy
    unfold flt; omega
  have g4 : ((List.range' 0 t.d.hours.toNat).flatMap fun h => (List.range' 0 t.d.farms.length).flatMap (uF t m h)).Pairwise flt := by
    refine pair_flat _ _ (pair_range _) (fun a _ => ?_) fun a _ b _ hab x hx y hy => ?_
    · refine pair_flat _ _ (pair_range _) (fun b _ => pair_one (uF_len t m a b)) fun b _ b' _ hab x hx y hy => ?_
      have hx := uF_mem hx
      have hy := uF_mem hy
      unfold flt; omega
    · rw [List.mem_flatMap] at hx hy
      obtain ⟨_, _, hx⟩ := hx
      obtain ⟨_, _, hy⟩ := hy
      have hx := uF_mem hx
      have hy := uF_mem hy
      unfold flt; omega
  have m1 : ∀ kind x, x ∈ (List.range' 0 t.l.length).flatMap (gF t kind) → x.kind = kind ∧ (kind = 2 → x.litres < x.limit) ∧ (kind ≠ 2 → x.litres > x.limit) := fun kind x hx => by
    rw [List.mem_flatMap] at hx
    obtain ⟨_, _, hx⟩ := hx
    have := gF_mem hx
    exact ⟨this.2.1, this.2.2.2.2⟩
  have m2 : ∀ x, x ∈ (certify_cells t).flatMap (bF t) → x.kind = 3 ∧ x.litres > x.limit := fun x hx => by
    rw [List.mem_flatMap] at hx
    obtain ⟨_, _, hx⟩ := hx
    have := bF_mem hx
    exact ⟨this.1, this.2.2.2⟩
  have m3 : ∀ x, x ∈ (certify_cells t).flatMap (wF t) → x.kind = 5 ∧ x.litres > x.limit ∧ certify_Arrive d l x.index x.hour = (x.limit, 0) := fun x hx => by
    rw [List.mem_flatMap] at hx
    obtain ⟨z, hz, hx⟩ := hx
    have hw := wF_mem hx
    have hz := cells_mem hz
    rw [hd] at hz
    refine ⟨hw.1, hw.2.2.2.1, ?_⟩
    rw [hw.2.2.1, hw.2.1, hA z.2 z.1 ⟨hz.2.2.1, hz.2.2.2⟩ ⟨hz.1, by omega⟩, hw.2.2.2.2]
  have m4 : ∀ x, x ∈ ((List.range' 0 t.d.hours.toNat).flatMap fun h => (List.range' 0 t.d.farms.length).flatMap (uF t m h)) → x.kind = 6 ∧ x.litres < x.limit := fun x hx => by
    rw [List.mem_flatMap] at hx
    obtain ⟨_, _, hx⟩ := hx
    rw [List.mem_flatMap] at hx
    obtain ⟨_, _, hx⟩ := hx
    have := uF_mem hx
    exact ⟨this.1, this.2.2.2⟩
  have g5 : T.Pairwise flt := by rcases hT' with rfl | ⟨x, rfl, _⟩ <;> simp
  have m5 : ∀ x ∈ T, x.kind = 4 ∧ x.litres > x.limit := fun x hx => by
    rcases hT' with rfl | ⟨y, rfl, h⟩
    · cases hx
    · rw [List.mem_singleton] at hx; subst hx; exact h
  have p1 := g1 1
  have p2 := g1 2
  have n1 := m1 1
  have n2 := m1 2
  clear g1 m1
  generalize (List.range' 0 t.l.length).flatMap (gF t 1) = A1 at p1 n1 ⊢
  generalize (List.range' 0 t.l.length).flatMap (gF t 2) = A2 at p2 n2 ⊢
  generalize (certify_cells t).flatMap (bF t) = B at g2 m2 ⊢
  generalize (certify_cells t).flatMap (wF t) = W at g3 m3 ⊢
  generalize ((List.range' 0 t.d.hours.toNat).flatMap fun h => (List.range' 0 t.d.farms.length).flatMap (uF t m h)) = U at g4 m4 ⊢
  refine ⟨List.pairwise_append.2 ⟨List.pairwise_append.2 ⟨List.pairwise_append.2 ⟨List.pairwise_append.2 ⟨List.pairwise_append.2 ⟨p1, p2, ?_⟩, g2, ?_⟩, g5, ?_⟩, g3, ?_⟩, g4, ?_⟩, ?_⟩
  · intro x hx y hy
    have q1 := n1 x hx
    have q2 := n2 y hy
    exact .inl (by omega)
  · intro x hx y hy
    have q2 := m2 y hy
    rw [List.mem_append] at hx
    rcases hx with hx | hx
    · have q1 := n1 x hx; exact .inl (by omega)
    · have q1 := n2 x hx; exact .inl (by omega)
  · intro x hx y hy
    have q2 := m5 y hy
    rw [List.mem_append, List.mem_append] at hx
    rcases hx with (hx | hx) | hx
    · have q1 := n1 x hx; exact .inl (by omega)
    · have q1 := n2 x hx; exact .inl (by omega)
    · have q1 := m2 x hx; exact .inl (by omega)
  · intro x hx y hy
    have q2 := m3 y hy
    rw [List.mem_append, List.mem_append, List.mem_append] at hx
    rcases hx with ((hx | hx) | hx) | hx
    · have q1 := n1 x hx; exact .inl (by omega)
    · have q1 := n2 x hx; exact .inl (by omega)
    · have q1 := m2 x hx; exact .inl (by omega)
    · have q1 := m5 x hx; exact .inl (by omega)
  · intro x hx y hy
    have q2 := m4 y hy
    rw [List.mem_append, List.mem_append, List.mem_append, List.mem_append] at hx
    rcases hx with (((hx | hx) | hx) | hx) | hx
    · have q1 := n1 x hx; exact .inl (by omega)
    · have q1 := n2 x hx; exact .inl (by omega)
    · have q1 := m2 x hx; exact .inl (by omega)
    · have q1 := m5 x hx; exact .inl (by omega)
    · have q1 := m3 x hx; exact .inl (by omega)
  · intro x hx
    rw [List.mem_append, List.mem_append, List.mem_append, List.mem_append, List.mem_append] at hx
    unfold good
    rcases hx with ((((hx | hx) | hx) | hx) | hx) | hx
    · have q := n1 x hx; exact .inr ⟨by omega, by omega, fun _ => by omega⟩
    · have q := n2 x hx; exact .inl (by omega)
    · have q := m2 x hx; exact .inr ⟨by omega, by omega, fun _ => by omega⟩
    · have q := m5 x hx; exact .inr ⟨by omega, by omega, fun _ => by omega⟩
    · have q := m3 x hx; exact .inr ⟨by omega, by omega, fun _ => q.2.2⟩
    · have q := m4 x hx; exact .inl (by omega)
end Go.Sx
end
section
namespace Go.Sx
open Go.Proofs
set_option maxRecDepth 100000
set_option linter.unusedSimpArgs false
def law28_CertifyFaults_l0 (a0 : District) (a1 : List Claim) (a2 : List Order) : Nat → Unit → Unit ⊕ Unit := fun k_0 s_0 => (bif (decide ((k_0 : Int) > 0)) then (bif ((decide ((((certify_Faults a0 a1 a2).1).getD k_0 (default : Fault)).kind < (((certify_Faults a0 a1 a2).1).getD (Int.toNat (IntKind.i64.wrap ((k_0 : Int) - 1))) (default : Fault)).kind)) || (((((certify_Faults a0 a1 a2).1).getD k_0 (default : Fault)).kind == (((certify_Faults a0 a1 a2).1).getD (Int.toNat (IntKind.i64.wrap ((k_0 : Int) - 1))) (default : Fault)).kind) && ((decide ((((certify_Faults a0 a1 a2).1).getD k_0 (default : Fault)).hour < (((certify_Faults a0 a1 a2).1).getD (Int.toNat (IntKind.i64.wrap ((k_0 : Int) - 1))) (default : Fault)).hour)) || (((((certify_Faults a0 a1 a2).1).getD k_0 (default : Fault)).hour == (((certify_Faults a0 a1 a2).1).getD (Int.toNat (IntKind.i64.wrap ((k_0 : Int) - 1))) (default : Fault)).hour) && (decide ((((certify_Faults a0 a1 a2).1).getD k_0 (default : Fault)).index ≤ (((certify_Faults a0 a1 a2).1).getD (Int.toNat (IntKind.i64.wrap ((k_0 : Int) - 1))) (default : Fault)).index)))))) then .inl () else (bif ((((certify_Faults a0 a1 a2).1).getD k_0 (default : Fault)).kind == 2) then (bif ((((certify_Faults a0 a1 a2).1).getD k_0 (default : Fault)).kind == 2) then (bif (decide ((((certify_Faults a0 a1 a2).1).getD k_0 (default : Fault)).litres ≥ (((certify_Faults a0 a1 a2).1).getD k_0 (default : Fault)).limit)) then .inl () else (bif ((((certify_Faults a0 a1 a2).1).getD k_0 (default : Fault)).kind == 5) then (bif (((certify_Arrive a0 a2 ((((certify_Faults a0 a1 a2).1).getD k_0 (default : Fault)).index) ((((certify_Faults a0 a1 a2).1).getD k_0 (default : Fault)).hour)).2 != 0) || ((certify_Arrive a0 a2 ((((certify_Faults a0 a1 a2).1).getD k_0 (default : Fault)).index) ((((certify_Faults a0 a1 a2).1).getD k_0 (default : Fault)).hour)).1 != (((certify_Faults a0 a1 a2).1).getD k_0 (default : Fault)).limit)) then .inl () else .inr ()) else .inr ())) else (bif ((((certify_Faults a0 a1 a2).1).getD k_0 (default : Fault)).kind == 1) then (bif ((((certify_Faults a0 a1 a2).1).getD k_0 (default : Fault)).kind == 1) then (bif (decide ((((certify_Faults a0 a1 a2).1).getD k_0 (default : Fault)).litres ≤ (((certify_Faults a0 a1 a2).1).getD k_0 (default : Fault)).limit)) then .inl () else (bif ((((certify_Faults a0 a1 a2).1).getD k_0 (default : Fault)).kind == 5) then (bif (((certify_Arrive a0 a2 ((((certify_Faults a0 a1 a2).1).getD k_0 (default : Fault)).index) ((((certify_Faults a0 a1 a2).1).getD k_0 (default : Fault)).hour)).2 != 0) || ((certify_Arrive a0 a2 ((((certify_Faults a0 a1 a2).1).getD k_0 (default : Fault)).index) ((((certify_Faults a0 a1 a2).1).getD k_0 (default : Fault)).hour)).1 != (((certify_Faults a0 a1 a2).1).getD k_0 (default : Fault)).limit)) then .inl () else .inr ()) else .inr ())) else .inl ()) else (bif ((((certify_Faults a0 a1 a2).1).getD k_0 (default : Fault)).kind == 3) then (bif ((((certify_Faults a0 a1 a2).1).getD k_0 (default : Fault)).kind == 3) then (bif (decide ((((certify_Faults a0 a1 a2).1).getD k_0 (default : Fault)).litres ≤ (((certify_Faults a0 a1 a2).1).getD k_0 (default : Fault)).limit)) then .inl () else (bif ((((certify_Faults a0 a1 a2).1).getD k_0 (default : Fault)).kind == 5) then (bif (((certify_Arrive a0 a2 ((((certify_Faults a0 a1 a2).1).getD k_0 (default : Fault)).index) ((((certify_Faults a0 a1 a2).1).getD k_0 (default : Fault)).hour)).2 != 0) || ((certify_Arrive a0 a2 ((((certify_Faults a0 a1 a2).1).getD k_0 (default : Fault)).index) ((((certify_Faults a0 a1 a2).1).getD k_0 (default : Fault)).hour)).1 != (((certify_Faults a0 a1 a2).1).getD k_0 (default : Fault)).limit)) then .inl () else .inr ()) else .inr ())) else .inl ()) else (bif ((((certify_Faults a0 a1 a2).1).getD k_0 (default : Fault)).kind == 4) then (bif ((((certify_Faults a0 a1 a2).1).getD k_0 (default : Fault)).kind == 4) then (bif (decide ((((certify_Faults a0 a1 a2).1).getD k_0 (default : Fault)).litres ≤ (((certify_Faults a0 a1 a2).1).getD k_0 (default : Fault)).limit)) then .inl () else (bif ((((certify_Faults a0 a1 a2).1).getD k_0 (default : Fault)).kind == 5) then (bif (((certify_Arrive a0 a2 ((((certify_Faults a0 a1 a2).1).getD k_0 (default : Fault)).index) ((((certify_Faults a0 a1 a2).1).getD k_0 (default : Fault)).hour)).2 != 0) || ((certify_Arrive a0 a2 ((((certify_Faults a0 a1 a2).1).getD k_0 (default : Fault)).index) ((((certify_Faults a0 a1 a2).1).getD k_0 (default : Fault)).hour)).1 != (((certify_Faults a0 a1 a2).1).getD k_0 (default : Fault)).limit)) then .inl () else .inr ()) else .inr ())) else .inl ()) else (bif ((((certify_Faults a0 a1 a2).1).getD k_0 (default : Fault)).kind == 5) then (bif (decide ((((certify_Faults a0 a1 a2).1).getD k_0 (default : Fault)).litres ≤ (((certify_Faults a0 a1 a2).1).getD k_0 (default : Fault)).limit)) then .inl () else (bif ((((certify_Faults a0 a1 a2).1).getD k_0 (default : Fault)).kind == 5) then (bif (((certify_Arrive a0 a2 ((((certify_Faults a0 a1 a2).1).getD k_0 (default : Fault)).index) ((((certify_Faults a0 a1 a2).1).getD k_0 (default : Fault)).hour)).2 != 0) || ((certify_Arrive a0 a2 ((((certify_Faults a0 a1 a2).1).getD k_0 (default : Fault)).index) ((((certify_Faults a0 a1 a2).1).getD k_0 (default : Fault)).hour)).1 != (((certify_Faults a0 a1 a2).1).getD k_0 (default : Fault)).limit)) then .inl () else .inr ()) else .inr ())) else .inl ()))))) else (bif ((((certify_Faults a0 a1 a2).1).getD k_0 (default : Fault)).kind == 6) then (bif (decide ((((certify_Faults a0 a1 a2).1).getD k_0 (default : Fault)).litres ≥ (((certify_Faults a0 a1 a2).1).getD k_0 (default : Fault)).limit)) then .inl () else (bif ((((certify_Faults a0 a1 a2).1).getD k_0 (default : Fault)).kind == 5) then (bif (((certify_Arrive a0 a2 ((((certify_Faults a0 a1 a2).1).getD k_0 (default : Fault)).index) ((((certify_Faults a0 a1 a2).1).getD k_0 (default : Fault)).hour)).2 != 0) || ((certify_Arrive a0 a2 ((((certify_Faults a0 a1 a2).1).getD k_0 (default : Fault)).index) ((((certify_Faults a0 a1 a2).1).getD k_0 (default : Fault)).hour)).1 != (((certify_Faults a0 a1 a2).1).getD k_0 (default : Fault)).limit)) then .inl () else .inr ()) else .inr ())) else (bif ((((certify_Faults a0 a1 a2).1).getD k_0 (default : Fault)).kind == 1) then (bif ((((certify_Faults a0 a1 a2).1).getD k_0 (default : Fault)).kind == 1) then (bif (decide ((((certify_Faults a0 a1 a2).1).getD k_0 (default : Fault)).litres ≤ (((certify_Faults a0 a1 a2).1).getD k_0 (default : Fault)).limit)) then .inl () else (bif ((((certify_Faults a0 a1 a2).1).getD k_0 (default : Fault)).kind == 5) then (bif (((certify_Arrive a0 a2 ((((certify_Faults a0 a1 a2).1).getD k_0 (default : Fault)).index) ((((certify_Faults a0 a1 a2).1).getD k_0 (default : Fault)).hour)).2 != 0) || ((certify_Arrive a0 a2 ((((certify_Faults a0 a1 a2).1).getD k_0 (default : Fault)).index) ((((certify_Faults a0 a1 a2).1).getD k_0 (default : Fault)).hour)).1 != (((certify_Faults a0 a1 a2).1).getD k_0 (default : Fault)).limit)) then .inl () else .inr ()) else .inr ())) else .inl ()) else (bif ((((certify_Faults a0 a1 a2).1).getD k_0 (default : Fault)).kind == 3) then (bif ((((certify_Faults a0 a1 a2).1).getD k_0 (default : Fault)).kind == 3) then (bif (decide ((((certify_Faults a0 a1 a2).1).getD k_0 (default : Fault)).litres ≤ (((certify_Faults a0 a1 a2).1).getD k_0 (default : Fault)).limit)) then .inl () else (bif ((((certify_Faults a0 a1 a2).1).getD k_0 (default : Fault)).kind == 5) then (bif (((certify_Arrive a0 a2 ((((certify_Faults a0 a1 a2).1).getD k_0 (default : Fault)).index) ((((certify_Faults a0 a1 a2).1).getD k_0 (default : Fault)).hour)).2 != 0) || ((certify_Arrive a0 a2 ((((certify_Faults a0 a1 a2).1).getD k_0 (default : Fault)).index) ((((certify_Faults a0 a1 a2).1).getD k_0 (default : Fault)).hour)).1 != (((certify_Faults a0 a1 a2).1).getD k_0 (default : Fault)).limit)) then .inl () else .inr ()) else .inr ())) else .inl ()) else (bif ((((certify_Faults a0 a1 a2).1).getD k_0 (default : Fault)).kind == 4) then (bif ((((certify_Faults a0 a1 a2).1).getD k_0 (default : Fault)).kind == 4) then (bif (decide ((((certify_Faults a0 a1 a2).1).getD k_0 (default : Fault)).litres ≤ (((certify_Faults a0 a1 a2).1).getD k_0 (default : Fault)).limit)) then .inl () else (bif ((((certify_Faults a0 a1 a2).1).getD k_0 (default : Fault)).kind == 5) then (bif (((certify_Arrive a0 a2 ((((certify_Faults a0 a1 a2).1).getD k_0 (default : Fault)).index) ((((certify_Faults a0 a1 a2).1).getD k_0 (default : Fault)).hour)).2 != 0) || ((certify_Arrive a0 a2 ((((certify_Faults a0 a1 a2).1).getD k_0 (default : Fault)).index) ((((certify_Faults a0 a1 a2).1).getD k_0 (default : Fault)).hour)).1 != (((certify_Faults a0 a1 a2).1).getD k_0 (default : Fault)).limit)) then .inl () else .inr ()) else .inr ())) else .inl ()) else (bif ((((certify_Faults a0 a1 a2).1).getD k_0 (default : Fault)).kind == 5) then (bif (decide ((((certify_Faults a0 a1 a2).1).getD k_0 (default : Fault)).litres ≤ (((certify_Faults a0 a1 a2).1).getD k_0 (default : Fault)).limit)) then .inl () else (bif ((((certify_Faults a0 a1 a2).1).getD k_0 (default : Fault)).kind == 5) then (bif (((certify_Arrive a0 a2 ((((certify_Faults a0 a1 a2).1).getD k_0 (default : Fault)).index) ((((certify_Faults a0 a1 a2).1).getD k_0 (default : Fault)).hour)).2 != 0) || ((certify_Arrive a0 a2 ((((certify_Faults a0 a1 a2).1).getD k_0 (default : Fault)).index) ((((certify_Faults a0 a1 a2).1).getD k_0 (default : Fault)).hour)).1 != (((certify_Faults a0 a1 a2).1).getD k_0 (default : Fault)).limit)) then .inl () else .inr ()) else .inr ())) else .inl ()))))))) else (bif ((((certify_Faults a0 a1 a2).1).getD k_0 (default : Fault)).kind == 2) then (bif ((((certify_Faults a0 a1 a2).1).getD k_0 (default : Fault)).kind == 2) then (bif (decide ((((certify_Faults a0 a1 a2).1).getD k_0 (default : Fault)).litres ≥ (((certify_Faults a0 a1 a2).1).getD k_0 (default : Fault)).limit)) then .inl () else (bif ((((certify_Faults a0 a1 a2).1).getD k_0 (default : Fault)).kind == 5) then (bif (((certify_Arrive a0 a2 ((((certify_Faults a0 a1 a2).1).getD k_0 (default : Fault)).index) ((((certify_Faults a0 a1 a2).1).getD k_0 (default : Fault)).hour)).2 != 0) || ((certify_Arrive a0 a2 ((((certify_Faults a0 a1 a2).1).getD k_0 (default : Fault)).index) ((((certify_Faults a0 a1 a2).1).getD k_0 (default : Fault)).hour)).1 != (((certify_Faults a0 a1 a2).1).getD k_0 (default : Fault)).limit)) then .inl () else .inr ()) else .inr ())) else (bif ((((certify_Faults a0 a1 a2).1).getD k_0 (default : Fault)).kind == 1) then (bif ((((certify_Faults a0 a1 a2).1).getD k_0 (default : Fault)).kind == 1) then (bif (decide ((((certify_Faults a0 a1 a2).1).getD k_0 (default : Fault)).litres ≤ (((certify_Faults a0 a1 a2).1).getD k_0 (default : Fault)).limit)) then .inl () else (bif ((((certify_Faults a0 a1 a2).1).getD k_0 (default : Fault)).kind == 5) then (bif (((certify_Arrive a0 a2 ((((certify_Faults a0 a1 a2).1).getD k_0 (default : Fault)).index) ((((certify_Faults a0 a1 a2).1).getD k_0 (default : Fault)).hour)).2 != 0) || ((certify_Arrive a0 a2 ((((certify_Faults a0 a1 a2).1).getD k_0 (default : Fault)).index) ((((certify_Faults a0 a1 a2).1).getD k_0 (default : Fault)).hour)).1 != (((certify_Faults a0 a1 a2).1).getD k_0 (default : Fault)).limit)) then .inl () else .inr ()) else .inr ())) else .inl ()) else (bif ((((certify_Faults a0 a1 a2).1).getD k_0 (default : Fault)).kind == 3) then (bif ((((certify_Faults a0 a1 a2).1).getD k_0 (default : Fault)).kind == 3) then (bif (decide ((((certify_Faults a0 a1 a2).1).getD k_0 (default : Fault)).litres ≤ (((certify_Faults a0 a1 a2).1).getD k_0 (default : Fault)).limit)) then .inl () else (bif ((((certify_Faults a0 a1 a2).1).getD k_0 (default : Fault)).kind == 5) then (bif (((certify_Arrive a0 a2 ((((certify_Faults a0 a1 a2).1).getD k_0 (default : Fault)).index) ((((certify_Faults a0 a1 a2).1).getD k_0 (default : Fault)).hour)).2 != 0) || ((certify_Arrive a0 a2 ((((certify_Faults a0 a1 a2).1).getD k_0 (default : Fault)).index) ((((certify_Faults a0 a1 a2).1).getD k_0 (default : Fault)).hour)).1 != (((certify_Faults a0 a1 a2).1).getD k_0 (default : Fault)).limit)) then .inl () else .inr ()) else .inr ())) else .inl ()) else (bif ((((certify_Faults a0 a1 a2).1).getD k_0 (default : Fault)).kind == 4) then (bif ((((certify_Faults a0 a1 a2).1).getD k_0 (default : Fault)).kind == 4) then (bif (decide ((((certify_Faults a0 a1 a2).1).getD k_0 (default : Fault)).litres ≤ (((certify_Faults a0 a1 a2).1).getD k_0 (default : Fault)).limit)) then .inl () else (bif ((((certify_Faults a0 a1 a2).1).getD k_0 (default : Fault)).kind == 5) then (bif (((certify_Arrive a0 a2 ((((certify_Faults a0 a1 a2).1).getD k_0 (default : Fault)).index) ((((certify_Faults a0 a1 a2).1).getD k_0 (default : Fault)).hour)).2 != 0) || ((certify_Arrive a0 a2 ((((certify_Faults a0 a1 a2).1).getD k_0 (default : Fault)).index) ((((certify_Faults a0 a1 a2).1).getD k_0 (default : Fault)).hour)).1 != (((certify_Faults a0 a1 a2).1).getD k_0 (default : Fault)).limit)) then .inl () else .inr ()) else .inr ())) else .inl ()) else (bif ((((certify_Faults a0 a1 a2).1).getD k_0 (default : Fault)).kind == 5) then (bif (decide ((((certify_Faults a0 a1 a2).1).getD k_0 (default : Fault)).litres ≤ (((certify_Faults a0 a1 a2).1).getD k_0 (default : Fault)).limit)) then .inl () else (bif ((((certify_Faults a0 a1 a2).1).getD k_0 (default : Fault)).kind == 5) then (bif (((certify_Arrive a0 a2 ((((certify_Faults a0 a1 a2).1).getD k_0 (default : Fault)).index) ((((certify_Faults a0 a1 a2).1).getD k_0 (default : Fault)).hour)).2 != 0) || ((certify_Arrive a0 a2 ((((certify_Faults a0 a1 a2).1).getD k_0 (default : Fault)).index) ((((certify_Faults a0 a1 a2).1).getD k_0 (default : Fault)).hour)).1 != (((certify_Faults a0 a1 a2).1).getD k_0 (default : Fault)).limit)) then .inl () else .inr ()) else .inr ())) else .inl ()))))) else (bif ((((certify_Faults a0 a1 a2).1).getD k_0 (default : Fault)).kind == 6) then (bif (decide ((((certify_Faults a0 a1 a2).1).getD k_0 (default : Fault)).litres ≥ (((certify_Faults a0 a1 a2).1).getD k_0 (default : Fault)).limit)) then .inl () else (bif ((((certify_Faults a0 a1 a2).1).getD k_0 (default : Fault)).kind == 5) then (bif (((certify_Arrive a0 a2 ((((certify_Faults a0 a1 a2).1).getD k_0 (default : Fault)).index) ((((certify_Faults a0 a1 a2).1).getD k_0 (default : Fault)).hour)).2 != 0) || ((certify_Arrive a0 a2 ((((certify_Faults a0 a1 a2).1).getD k_0 (default : Fault)).index) ((((certify_Faults a0 a1 a2).1).getD k_0 (default : Fault)).hour)).1 != (((certify_Faults a0 a1 a2).1).getD k_0 (default : Fault)).limit)) then .inl () else .inr ()) else .inr ())) else (bif ((((certify_Faults a0 a1 a2).1).getD k_0 (default : Fault)).kind == 1) then (bif ((((certify_Faults a0 a1 a2).1).getD k_0 (default : Fault)).kind == 1) then (bif (decide ((((certify_Faults a0 a1 a2).1).getD k_0 (default : Fault)).litres ≤ (((certify_Faults a0 a1 a2).1).getD k_0 (default : Fault)).limit)) then .inl () else (bif ((((certify_Faults a0 a1 a2).1).getD k_0 (default : Fault)).kind == 5) then (bif (((certify_Arrive a0 a2 ((((certify_Faults a0 a1 a2).1).getD k_0 (default : Fault)).index) ((((certify_Faults a0 a1 a2).1).getD k_0 (default : Fault)).hour)).2 != 0) || ((certify_Arrive a0 a2 ((((certify_Faults a0 a1 a2).1).getD k_0 (default : Fault)).index) ((((certify_Faults a0 a1 a2).1).getD k_0 (default : Fault)).hour)).1 != (((certify_Faults a0 a1 a2).1).getD k_0 (default : Fault)).limit)) then .inl () else .inr ()) else .inr ())) else .inl ()) else (bif ((((certify_Faults a0 a1 a2).1).getD k_0 (default : Fault)).kind == 3) then (bif ((((certify_Faults a0 a1 a2).1).getD k_0 (default : Fault)).kind == 3) then (bif (decide ((((certify_Faults a0 a1 a2).1).getD k_0 (default : Fault)).litres ≤ (((certify_Faults a0 a1 a2).1).getD k_0 (default : Fault)).limit)) then .inl () else (bif ((((certify_Faults a0 a1 a2).1).getD k_0 (default : Fault)).kind == 5) then (bif (((certify_Arrive a0 a2 ((((certify_Faults a0 a1 a2).1).getD k_0 (default : Fault)).index) ((((certify_Faults a0 a1 a2).1).getD k_0 (default : Fault)).hour)).2 != 0) || ((certify_Arrive a0 a2 ((((certify_Faults a0 a1 a2).1).getD k_0 (default : Fault)).index) ((((certify_Faults a0 a1 a2).1).getD k_0 (default : Fault)).hour)).1 != (((certify_Faults a0 a1 a2).1).getD k_0 (default : Fault)).limit)) then .inl () else .inr ()) else .inr ())) else .inl ()) else (bif ((((certify_Faults a0 a1 a2).1).getD k_0 (default : Fault)).kind == 4) then (bif ((((certify_Faults a0 a1 a2).1).getD k_0 (default : Fault)).kind == 4) then (bif (decide ((((certify_Faults a0 a1 a2).1).getD k_0 (default : Fault)).litres ≤ (((certify_Faults a0 a1 a2).1).getD k_0 (default : Fault)).limit)) then .inl () else (bif ((((certify_Faults a0 a1 a2).1).getD k_0 (default : Fault)).kind == 5) then (bif (((certify_Arrive a0 a2 ((((certify_Faults a0 a1 a2).1).getD k_0 (default : Fault)).index) ((((certify_Faults a0 a1 a2).1).getD k_0 (default : Fault)).hour)).2 != 0) || ((certify_Arrive a0 a2 ((((certify_Faults a0 a1 a2).1).getD k_0 (default : Fault)).index) ((((certify_Faults a0 a1 a2).1).getD k_0 (default : Fault)).hour)).1 != (((certify_Faults a0 a1 a2).1).getD k_0 (default : Fault)).limit)) then .inl () else .inr ()) else .inr ())) else .inl ()) else (bif ((((certify_Faults a0 a1 a2).1).getD k_0 (default : Fault)).kind == 5) then (bif (decide ((((certify_Faults a0 a1 a2).1).getD k_0 (default : Fault)).litres ≤ (((certify_Faults a0 a1 a2).1).getD k_0 (default : Fault)).limit)) then .inl () else (bif ((((certify_Faults a0 a1 a2).1).getD k_0 (default : Fault)).kind == 5) then (bif (((certify_Arrive a0 a2 ((((certify_Faults a0 a1 a2).1).getD k_0 (default : Fault)).index) ((((certify_Faults a0 a1 a2).1).getD k_0 (default : Fault)).hour)).2 != 0) || ((certify_Arrive a0 a2 ((((certify_Faults a0 a1 a2).1).getD k_0 (default : Fault)).index) ((((certify_Faults a0 a1 a2).1).getD k_0 (default : Fault)).hour)).1 != (((certify_Faults a0 a1 a2).1).getD k_0 (default : Fault)).limit)) then .inl () else .inr ()) else .inr ())) else .inl ())))))))
def law28_CertifyFaults_l0_p (a0 : District) (a1 : List Claim) (a2 : List Order) : Nat → Unit → Prop := fun k_0 s_0 => (((decide ((k_0 : Int) > 0)) = true → ((0 ≤ (IntKind.i64.wrap ((k_0 : Int) - 1)) ∧ (IntKind.i64.wrap ((k_0 : Int) - 1)) < (((certify_Faults a0 a1 a2).1).length : Int)) ∧ (((decide ((((certify_Faults a0 a1 a2).1).getD k_0 (default : Fault)).kind < (((certify_Faults a0 a1 a2).1).getD (Int.toNat (IntKind.i64.wrap ((k_0 : Int) - 1))) (default : Fault)).kind)) || (((((certify_Faults a0 a1 a2).1).getD k_0 (default : Fault)).kind == (((certify_Faults a0 a1 a2).1).getD (Int.toNat (IntKind.i64.wrap ((k_0 : Int) - 1))) (default : Fault)).kind) && ((decide ((((certify_Faults a0 a1 a2).1).getD k_0 (default : Fault)).hour < (((certify_Faults a0 a1 a2).1).getD (Int.toNat (IntKind.i64.wrap ((k_0 : Int) - 1))) (default : Fault)).hour)) || (((((certify_Faults a0 a1 a2).1).getD k_0 (default : Fault)).hour == (((certify_Faults a0 a1 a2).1).getD (Int.toNat (IntKind.i64.wrap ((k_0 : Int) - 1))) (default : Fault)).hour) && (decide ((((certify_Faults a0 a1 a2).1).getD k_0 (default : Fault)).index ≤ (((certify_Faults a0 a1 a2).1).getD (Int.toNat (IntKind.i64.wrap ((k_0 : Int) - 1))) (default : Fault)).index)))))) = false → ((((((certify_Faults a0 a1 a2).1).getD k_0 (default : Fault)).kind == 2) = true → ((((((certify_Faults a0 a1 a2).1).getD k_0 (default : Fault)).kind == 2) = true → ((decide ((((certify_Faults a0 a1 a2).1).getD k_0 (default : Fault)).litres ≥ (((certify_Faults a0 a1 a2).1).getD k_0 (default : Fault)).limit)) = false → (((((certify_Faults a0 a1 a2).1).getD k_0 (default : Fault)).kind == 5) = true → (certify_Arrive_p a0 a2 ((((certify_Faults a0 a1 a2).1).getD k_0 (default : Fault)).index) ((((certify_Faults a0 a1 a2).1).getD k_0 (default : Fault)).hour))))) ∧ (((((certify_Faults a0 a1 a2).1).getD k_0 (default : Fault)).kind == 2) = false → ((((((certify_Faults a0 a1 a2).1).getD k_0 (default : Fault)).kind == 1) = true → (((((certify_Faults a0 a1 a2).1).getD k_0 (default : Fault)).kind == 1) = true → ((decide ((((certify_Faults a0 a1 a2).1).getD k_0 (default : Fault)).litres ≤ (((certify_Faults a0 a1 a2).1).getD k_0 (default : Fault)).limit)) = false → (((((certify_Faults a0 a1 a2).1).getD k_0 (default : Fault)).kind == 5) = true → (certify_Arrive_p a0 a2 ((((certify_Faults a0 a1 a2).1).getD k_0 (default : Fault)).index) ((((certify_Faults a0 a1 a2).1).getD k_0 (default : Fault)).hour)))))) ∧ (((((certify_Faults a0 a1 a2).1).getD k_0 (default : Fault)).kind == 1) = false → ((((((certify_Faults a0 a1 a2).1).getD k_0 (default : Fault)).kind == 3) = true → (((((certify_Faults a0 a1 a2).1).getD k_0 (default : Fault)).kind == 3) = true → ((decide ((((certify_Faults a0 a1 a2).1).getD k_0 (default : Fault)).litres ≤ (((certify_Faults a0 a1 a2).1).getD k_0 (default : Fault)).limit)) = false → (((((certify_Faults a0 a1 a2).1).getD k_0 (default : Fault)).kind == 5) = true → (certify_Arrive_p a0 a2 ((((certify_Faults a0 a1 a2).1).getD k_0 (default : Fault)).index) ((((certify_Faults a0 a1 a2).1).getD k_0 (default : Fault)).hour)))))) ∧ (((((certify_Faults a0 a1 a2).1).getD k_0 (default : Fault)).kind == 3) = false → ((((((certify_Faults a0 a1 a2).1).getD k_0 (default : Fault)).kind == 4) = true → (((((certify_Faults a0 a1 a2).1).getD k_0 (default : Fault)).kind == 4) = true → ((decide ((((certify_Faults a0 a1 a2).1).getD k_0 (default : Fault)).litres ≤ (((certify_Faults a0 a1 a2).1).getD k_0 (default : Fault)).limit)) = false → (((((certify_Faults a0 a1 a2).1).getD k_0 (default : Fault)).kind == 5) = true → (certify_Arrive_p a0 a2 ((((certify_Faults a0 a1 a2).1).getD k_0 (default : Fault)).index) ((((certify_Faults a0 a1 a2).1).getD k_0 (default : Fault)).hour)))))) ∧ (((((certify_Faults a0 a1 a2).1).getD k_0 (default : Fault)).kind == 4) = false → (((((certify_Faults a0 a1 a2).1).getD k_0 (default : Fault)).kind == 5) = true → ((decide ((((certify_Faults a0 a1 a2).1).getD k_0 (default : Fault)).litres ≤ (((certify_Faults a0 a1 a2).1).getD k_0 (default : Fault)).limit)) = false → (((((certify_Faults a0 a1 a2).1).getD k_0 (default : Fault)).kind == 5) = true → (certify_Arrive_p a0 a2 ((((certify_Faults a0 a1 a2).1).getD k_0 (default : Fault)).index) ((((certify_Faults a0 a1 a2).1).getD k_0 (default : Fault)).hour)))))))))))))) ∧ (((((certify_Faults a0 a1 a2).1).getD k_0 (default : Fault)).kind == 2) = false → ((((((certify_Faults a0 a1 a2).1).getD k_0 (default : Fault)).kind == 6) = true → ((decide ((((certify_Faults a0 a1 a2).1).getD k_0 (default : Fault)).litres ≥ (((certify_Faults a0 a1 a2).1).getD k_0 (default : Fault)).limit)) = false → (((((certify_Faults a0 a1 a2).1).getD k_0 (default : Fault)).kind == 5) = true → (certify_Arrive_p a0 a2 ((((certify_Faults a0 a1 a2).1).getD k_0 (default : Fault)).index) ((((certify_Faults a0 a1 a2).1).getD k_0 (default : Fault)).hour))))) ∧ (((((certify_Faults a0 a1 a2).1).getD k_0 (default : Fault)).kind == 6) = false → ((((((certify_Faults a0 a1 a2).1).getD k_0 (default : Fault)).kind == 1) = true → (((((certify_Faults a0 a1 a2).1).getD k_0 (default : Fault)).kind == 1) = true → ((decide ((((certify_Faults a0 a1 a2).1).getD k_0 (default : Fault)).litres ≤ (((certify_Faults a0 a1 a2).1).getD k_0 (default : Fault)).limit)) = false → (((((certify_Faults a0 a1 a2).1).getD k_0 (default : Fault)).kind == 5) = true → (certify_Arrive_p a0 a2 ((((certify_Faults a0 a1 a2).1).getD k_0 (default : Fault)).index) ((((certify_Faults a0 a1 a2).1).getD k_0 (default : Fault)).hour)))))) ∧ (((((certify_Faults a0 a1 a2).1).getD k_0 (default : Fault)).kind == 1) = false → ((((((certify_Faults a0 a1 a2).1).getD k_0 (default : Fault)).kind == 3) = true → (((((certify_Faults a0 a1 a2).1).getD k_0 (default : Fault)).kind == 3) = true → ((decide ((((certify_Faults a0 a1 a2).1).getD k_0 (default : Fault)).litres ≤ (((certify_Faults a0 a1 a2).1).getD k_0 (default : Fault)).limit)) = false → (((((certify_Faults a0 a1 a2).1).getD k_0 (default : Fault)).kind == 5) = true → (certify_Arrive_p a0 a2 ((((certify_Faults a0 a1 a2).1).getD k_0 (default : Fault)).index) ((((certify_Faults a0 a1 a2).1).getD k_0 (default : Fault)).hour)))))) ∧ (((((certify_Faults a0 a1 a2).1).getD k_0 (default : Fault)).kind == 3) = false → ((((((certify_Faults a0 a1 a2).1).getD k_0 (default : Fault)).kind == 4) = true → (((((certify_Faults a0 a1 a2).1).getD k_0 (default : Fault)).kind == 4) = true → ((decide ((((certify_Faults a0 a1 a2).1).getD k_0 (default : Fault)).litres ≤ (((certify_Faults a0 a1 a2).1).getD k_0 (default : Fault)).limit)) = false → (((((certify_Faults a0 a1 a2).1).getD k_0 (default : Fault)).kind == 5) = true → (certify_Arrive_p a0 a2 ((((certify_Faults a0 a1 a2).1).getD k_0 (default : Fault)).index) ((((certify_Faults a0 a1 a2).1).getD k_0 (default : Fault)).hour)))))) ∧ (((((certify_Faults a0 a1 a2).1).getD k_0 (default : Fault)).kind == 4) = false → (((((certify_Faults a0 a1 a2).1).getD k_0 (default : Fault)).kind == 5) = true → ((decide ((((certify_Faults a0 a1 a2).1).getD k_0 (default : Fault)).litres ≤ (((certify_Faults a0 a1 a2).1).getD k_0 (default : Fault)).limit)) = false → (((((certify_Faults a0 a1 a2).1).getD k_0 (default : Fault)).kind == 5) = true → (certify_Arrive_p a0 a2 ((((certify_Faults a0 a1 a2).1).getD k_0 (default : Fault)).index) ((((certify_Faults a0 a1 a2).1).getD k_0 (default : Fault)).hour)))))))))))))))))) ∧ ((decide ((k_0 : Int) > 0)) = false → ((((((certify_Faults a0 a1 a2).1).getD k_0 (default : Fault)).kind == 2) = true → ((((((certify_Faults a0 a1 a2).1).getD k_0 (default : Fault)).kind == 2) = true → ((decide ((((certify_Faults a0 a1 a2).1).getD k_0 (default : Fault)).litres ≥ (((certify_Faults a0 a1 a2).1).getD k_0 (default : Fault)).limit)) = false → (((((certify_Faults a0 a1 a2).1).getD k_0 (default : Fault)).kind == 5) = true → (certify_Arrive_p a0 a2 ((((certify_Faults a0 a1 a2).1).getD k_0 (default : Fault)).index) ((((certify_Faults a0 a1 a2).1).getD k_0 (default : Fault)).hour))))) ∧ (((((certify_Faults a0 a1 a2).1).getD k_0 (default : Fault)).kind == 2) = false → ((((((certify_Faults a0 a1 a2).1).getD k_0 (default : Fault)).kind == 1) = true → (((((certify_Faults a0 a1 a2).1).getD k_0 (default : Fault)).kind == 1) = true → ((decide ((((certify_Faults a0 a1 a2).1).getD k_0 (default : Fault)).litres ≤ (((certify_Faults a0 a1 a2).1).getD k_0 (default : Fault)).limit)) = false → (((((certify_Faults a0 a1 a2).1).getD k_0 (default : Fault)).kind == 5) = true → (certify_Arrive_p a0 a2 ((((certify_Faults a0 a1 a2).1).getD k_0 (default : Fault)).index) ((((certify_Faults a0 a1 a2).1).getD k_0 (default : Fault)).hour)))))) ∧ (((((certify_Faults a0 a1 a2).1).getD k_0 (default : Fault)).kind == 1) = false → ((((((certify_Faults a0 a1 a2).1).getD k_0 (default : Fault)).kind == 3) = true → (((((certify_Faults a0 a1 a2).1).getD k_0 (default : Fault)).kind == 3) = true → ((decide ((((certify_Faults a0 a1 a2).1).getD k_0 (default : Fault)).litres ≤ (((certify_Faults a0 a1 a2).1).getD k_0 (default : Fault)).limit)) = false → (((((certify_Faults a0 a1 a2).1).getD k_0 (default : Fault)).kind == 5) = true → (certify_Arrive_p a0 a2 ((((certify_Faults a0 a1 a2).1).getD k_0 (default : Fault)).index) ((((certify_Faults a0 a1 a2).1).getD k_0 (default : Fault)).hour)))))) ∧ (((((certify_Faults a0 a1 a2).1).getD k_0 (default : Fault)).kind == 3) = false → ((((((certify_Faults a0 a1 a2).1).getD k_0 (default : Fault)).kind == 4) = true → (((((certify_Faults a0 a1 a2).1).getD k_0 (default : Fault)).kind == 4) = true → ((decide ((((certify_Faults a0 a1 a2).1).getD k_0 (default : Fault)).litres ≤ (((certify_Faults a0 a1 a2).1).getD k_0 (default : Fault)).limit)) = false → (((((certify_Faults a0 a1 a2).1).getD k_0 (default : Fault)).kind == 5) = true → (certify_Arrive_p a0 a2 ((((certify_Faults a0 a1 a2).1).getD k_0 (default : Fault)).index) ((((certify_Faults a0 a1 a2).1).getD k_0 (default : Fault)).hour)))))) ∧ (((((certify_Faults a0 a1 a2).1).getD k_0 (default : Fault)).kind == 4) = false → (((((certify_Faults a0 a1 a2).1).getD k_0 (default : Fault)).kind == 5) = true → ((decide ((((certify_Faults a0 a1 a2).1).getD k_0 (default : Fault)).litres ≤ (((certify_Faults a0 a1 a2).1).getD k_0 (default : Fault)).limit)) = false → (((((certify_Faults a0 a1 a2).1).getD k_0 (default : Fault)).kind == 5) = true → (certify_Arrive_p a0 a2 ((((certify_Faults a0 a1 a2).1).getD k_0 (default : Fault)).index) ((((certify_Faults a0 a1 a2).1).getD k_0 (default : Fault)).hour)))))))))))))) ∧ (((((certify_Faults a0 a1 a2).1).getD k_0 (default : Fault)).kind == 2) = false → ((((((certify_Faults a0 a1 a2).1).getD k_0 (default : Fault)).kind == 6) = true → ((decide ((((certify_Faults a0 a1 a2).1).getD k_0 (default : Fault)).litres ≥ (((certify_Faults a0 a1 a2).1).getD k_0 (default : Fault)).limit)) = false → (((((certify_Faults a0 a1 a2).1).getD k_0 (default : Fault)).kind == 5) = true → (certify_Arrive_p a0 a2 ((((certify_Faults a0 a1 a2).1).getD k_0 (default : Fault)).index) ((((certify_Faults a0 a1 a2).1).getD k_0 (default : Fault)).hour))))) ∧ (((((certify_Faults a0 a1 a2).1).getD k_0 (default : Fault)).kind == 6) = false → ((((((certify_Faults a0 a1 a2).1).getD k_0 (default : Fault)).kind == 1) = true → (((((certify_Faults a0 a1 a2).1).getD k_0 (default : Fault)).kind == 1) = true → ((decide ((((certify_Faults a0 a1 a2).1).getD k_0 (default : Fault)).litres ≤ (((certify_Faults a0 a1 a2).1).getD k_0 (default : Fault)).limit)) = false → (((((certify_Faults a0 a1 a2).1).getD k_0 (default : Fault)).kind == 5) = true → (certify_Arrive_p a0 a2 ((((certify_Faults a0 a1 a2).1).getD k_0 (default : Fault)).index) ((((certify_Faults a0 a1 a2).1).getD k_0 (default : Fault)).hour)))))) ∧ (((((certify_Faults a0 a1 a2).1).getD k_0 (default : Fault)).kind == 1) = false → ((((((certify_Faults a0 a1 a2).1).getD k_0 (default : Fault)).kind == 3) = true → (((((certify_Faults a0 a1 a2).1).getD k_0 (default : Fault)).kind == 3) = true → ((decide ((((certify_Faults a0 a1 a2).1).getD k_0 (default : Fault)).litres ≤ (((certify_Faults a0 a1 a2).1).getD k_0 (default : Fault)).limit)) = false → (((((certify_Faults a0 a1 a2).1).getD k_0 (default : Fault)).kind == 5) = true → (certify_Arrive_p a0 a2 ((((certify_Faults a0 a1 a2).1).getD k_0 (default : Fault)).index) ((((certify_Faults a0 a1 a2).1).getD k_0 (default : Fault)).hour)))))) ∧ (((((certify_Faults a0 a1 a2).1).getD k_0 (default : Fault)).kind == 3) = false → ((((((certify_Faults a0 a1 a2).1).getD k_0 (default : Fault)).kind == 4) = true → (((((certify_Faults a0 a1 a2).1).getD k_0 (default : Fault)).kind == 4) = true → ((decide ((((certify_Faults a0 a1 a2).1).getD k_0 (default : Fault)).litres ≤ (((certify_Faults a0 a1 a2).1).getD k_0 (default : Fault)).limit)) = false → (((((certify_Faults a0 a1 a2).1).getD k_0 (default : Fault)).kind == 5) = true → (certify_Arrive_p a0 a2 ((((certify_Faults a0 a1 a2).1).getD k_0 (default : Fault)).index) ((((certify_Faults a0 a1 a2).1).getD k_0 (default : Fault)).hour)))))) ∧ (((((certify_Faults a0 a1 a2).1).getD k_0 (default : Fault)).kind == 4) = false → (((((certify_Faults a0 a1 a2).1).getD k_0 (default : Fault)).kind == 5) = true → ((decide ((((certify_Faults a0 a1 a2).1).getD k_0 (default : Fault)).litres ≤ (((certify_Faults a0 a1 a2).1).getD k_0 (default : Fault)).limit)) = false → (((((certify_Faults a0 a1 a2).1).getD k_0 (default : Fault)).kind == 5) = true → (certify_Arrive_p a0 a2 ((((certify_Faults a0 a1 a2).1).getD k_0 (default : Fault)).index) ((((certify_Faults a0 a1 a2).1).getD k_0 (default : Fault)).hour)))))))))))))))))
def law28_CertifyFaults (a0 : District) (a1 : List Claim) (a2 : List Order) : Bool := (bif (!law28_sane) then false else (bif (!(ref28_Few a0 a1 a2)) then true else (bif (((certify_Faults a0 a1 a2).2 != (certify_Accepts a0 a1 a2).2) || (((certify_Faults a0 a1 a2).2 != 0) && ((certify_Accepts a0 a1 a2).1 || (decide ((((certify_Faults a0 a1 a2).1).length : Int) > 0))))) then false else (bif ((certify_Faults a0 a1 a2).2 != 0) then true else (match runI (law28_CertifyFaults_l0 a0 a1 a2) (((certify_Faults a0 a1 a2).1).length) 0 () with | .inl x_0_0 => false | .inr s_0 => ((certify_Accepts a0 a1 a2).1 == ((((certify_Faults a0 a1 a2).1).length : Int) == 0)))))))
def law28_CertifyFaults_p (a0 : District) (a1 : List Claim) (a2 : List Order) : Prop := ((law28_sane_p) ∧ ((!law28_sane) = false → ((!(ref28_Few a0 a1 a2)) = false → ((certify_Faults_p a0 a1 a2) ∧ ((certify_Accepts_p a0 a1 a2) ∧ ((((certify_Faults a0 a1 a2).2 != (certify_Accepts a0 a1 a2).2) || (((certify_Faults a0 a1 a2).2 != 0) && ((certify_Accepts a0 a1 a2).1 || (decide ((((certify_Faults a0 a1 a2).1).length : Int) > 0))))) = false → (((certify_Faults a0 a1 a2).2 != 0) = false → (((certify_Faults a0 a1 a2).1).length ≤ maxL → okI (law28_CertifyFaults_l0 a0 a1 a2) (law28_CertifyFaults_l0_p a0 a1 a2) (((certify_Faults a0 a1 a2).1).length) 0 ()))))))))
def C_law28_CertifyFaults : List SV → Option Con := (pD .district fun a0 => (pR .claim fun a1 => (pR .order fun a2 => pE (.det (law28_CertifyFaults_p a0 a1 a2) (.v (.bool (law28_CertifyFaults a0 a1 a2)))))))
set_option maxHeartbeats 4000000 in
theorem ok_law28_CertifyFaults : FnOk Try.prog 5 C_law28_CertifyFaults := by
  have hG : ConsOk Try.prog (mkG [(7, C_law28_sane), (8, fun l => C_ref28_Few (nrmA [.st .district, .sl .claim, .sl .order] l)), (9, fun l => C_certify_Arrive (nrmA [.st .district, .sl .order, .o, .o] l)), (11, fun l => C_certify_Accepts (nrmA [.st .district, .sl .claim, .sl .order] l)), (12, fun l => C_certify_Faults (nrmA [.st .district, .sl .claim, .sl .order] l))] []) := mkG_ok (by
    intro x hx
    simp only [List.mem_cons, List.not_mem_nil, or_false] at hx
    rcases hx with rfl | rfl | rfl | rfl | rfl
    · exact ok_law28_sane
    · exact ok_ref28_Few.norm [.st .district, .sl .claim, .sl .order]
    · exact ok_certify_Arrive.norm [.st .district, .sl .order, .o, .o]
    · exact ok_certify_Accepts.norm [.st .district, .sl .claim, .sl .order]
    · exact ok_certify_Faults.norm [.st .district, .sl .claim, .sl .order]) (by simp)
  refine fn_okN [.o] mixed ts_ok hG (fn := Try.f5) (c := bodyOf Try.f5) (by kernel_rfl) (by kernel_rfl) (by kernel_rfl) (by kernel_rfl) fun l con h hp => ?_
  unfold C_law28_CertifyFaults at h
  obtain ⟨a0, l0, rfl, h0⟩ := pD_inv h
  obtain ⟨a1, l1, rfl, h1⟩ := pR_inv h0
  obtain ⟨a2, l2, rfl, h2⟩ := pR_inv h1
  obtain ⟨rfl, rfl⟩ := pE_inv h2
  clear h h0 h1 h2
  dsimp only [conPre] at hp
  unfold law28_CertifyFaults_p at hp
  refine ⟨Nat.le_of_ble_eq_true rfl, (fun id st => bif Nat.beq id 0 then some (LC (ρ := Unit) (σ := Unit) (lk 2 st.t = .rs .order a2 ∧ lk 3 st.t = .ptr 0 0 ∧ lk 7 st.t = .os 1 ∧ lk 9 st.t = .v (.bool ((certify_Accepts a0 a1 a2).1)) ∧ lk 54 st.t = .os 1 ∧ lk 55 st.t = .v (.int .i64 (((certify_Faults a0 a1 a2).1).length : Int)) ∧ lk 56 st.t = .v (.int .i64 0) ∧ st.h = [.cells [.v (.string a0.name), .v (.int .i64 a0.hours), .v (.int .i64 a0.tank.cap), .v (.int .i64 a0.tank.start), .rs .reach a0.reaches, .rs .farm a0.farms, .rs .crop a0.crops, .rs .right a0.rights, .rs .duty a0.duties, .rs .well a0.wells], .row .fault ((certify_Faults a0 a1 a2).1)] ∧ ((certify_Faults a0 a1 a2).1).length ≤ maxL ∧ okI (law28_CertifyFaults_l0 a0 a1 a2) (law28_CertifyFaults_l0_p a0 a1 a2) (((certify_Faults a0 a1 a2).1).length) 0 ()) (runI (law28_CertifyFaults_l0 a0 a1 a2) (((certify_Faults a0 a1 a2).1).length) 0 ()) (fun _ => .ret) (fun x_0_0 => ⟨[(6, .v (.bool false))], [.dead, .dead]⟩) (fun s_0 => ⟨[(7, .os 1), (9, .v (.bool ((certify_Accepts a0 a1 a2).1)))], [.dead, .row .fault ((certify_Faults a0 a1 a2).1)]⟩)) else none), ?_, ?_⟩
  · unfold bodyOf Try.f5
    simp only [loopsOk, true_and, and_true]
    · refine count_okP mixed ts_ok hG (by kernel_rfl) fun st lc hC hp => ?_
      simp only [go_sem, Nat.reduceBEq, Option.some.injEq] at hC
      subst hC
      obtain ⟨t, h⟩ := st
      dsimp only [LC] at hp
      obtain ⟨e0_0, e0_1, e0_2, e0_3, e0_4, e0_5, e0_6, rfl, hb0, hok0⟩ := hp
      refine ⟨_, _, _, (law28_CertifyFaults_l0 a0 a1 a2), (law28_CertifyFaults_l0_p a0 a1 a2), ((certify_Faults a0 a1 a2).1).length, (), _, _, _, (fun k_0 s_0 => ⟨[(2, .rs .order a2), (3, .ptr 0 0), (7, .os 1), (9, .v (.bool ((certify_Accepts a0 a1 a2).1))), (54, .os 1), (55, .v (.int .i64 (((certify_Faults a0 a1 a2).1).length : Int))), (56, .v (.int .i64 (k_0 : Int)))], [.cells [.v (.string a0.name), .v (.int .i64 a0.hours), .v (.int .i64 a0.tank.cap), .v (.int .i64 a0.tank.start), .rs .reach a0.reaches, .rs .farm a0.farms, .rs .crop a0.crops, .rs .right a0.rights, .rs .duty a0.duties, .rs .well a0.wells], .row .fault ((certify_Faults a0 a1 a2).1)]⟩), [0, 1], rfl, hok0, Nat.le_refl _, ?_, fun k_0 s_0 hk0 hp0 => ?_⟩
      · simp only [go_sem, true_imp_iff, false_imp_iff, Bool.false_eq_true, Int.toNat_natCast, Int.toNat_zero, Nat.reduceBEq, Nat.reduceLeDiff, Nat.reduceAdd, Nat.reduceSub, Nat.reduceMul, Int.reduceLE, Int.reduceLT, Int.reduceToNat, Int.reduceNeg, true_and, and_true, and_self, implies_true, forall_const, reduceCtorEq, e0_0, e0_1, e0_2, e0_3, e0_4, e0_5, e0_6]
        all_goals (first | done | decide | (repeat' (first | refine And.intro ?_ ?_ | rfl | decide)))
      refine ⟨(fun id st => none), ?_, ?_⟩
      · simp only [loopsOk, and_self, true_and, and_true]
      · by_cases hlt0 : k_0 < (((certify_Faults a0 a1 a2).1).length)
        · have hw0 := wrapS hlt0 hb0
          have hq0 := hp0 hlt0
          unfold law28_CertifyFaults_l0_p at hq0
          try simp only [hw0, Int.toNat_natCast] at hq0
          have hc0 : decide ((k_0 : Int) < (((certify_Faults a0 a1 a2).1).length : Int)) = true := by simp only [decide_eq_true_eq]; omega
          simp only [go_sem, true_imp_iff, false_imp_iff, Bool.false_eq_true, Int.toNat_natCast, Int.toNat_zero, Nat.reduceBEq, Nat.reduceLeDiff, Nat.reduceAdd, Nat.reduceSub, Nat.reduceMul, Int.reduceLE, Int.reduceLT, Int.reduceToNat, Int.reduceNeg, true_and, and_true, and_self, implies_true, forall_const, reduceCtorEq, C_law28_sane, C_ref28_Few, C_certify_Arrive, C_certify_Accepts, C_certify_Faults, law28_CertifyFaults_l0, hc0, hw0]
          all_goals exact cl
        · have hc0 : decide ((k_0 : Int) < (((certify_Faults a0 a1 a2).1).length : Int)) = false := by simp only [decide_eq_false_iff_not]; omega
          simp only [go_sem, true_imp_iff, false_imp_iff, Bool.false_eq_true, Int.toNat_natCast, Int.toNat_zero, Nat.reduceBEq, Nat.reduceLeDiff, Nat.reduceAdd, Nat.reduceSub, Nat.reduceMul, Int.reduceLE, Int.reduceLT, Int.reduceToNat, Int.reduceNeg, true_and, and_true, and_self, implies_true, forall_const, reduceCtorEq, C_law28_sane, C_ref28_Few, C_certify_Arrive, C_certify_Accepts, C_certify_Faults, hc0]
          all_goals exact cl2
  · unfold bodyOf Try.f5
    try unfold law28_CertifyFaults
    simp only [go_sem, true_imp_iff, false_imp_iff, Bool.false_eq_true, Int.toNat_natCast, Int.toNat_zero, Nat.reduceBEq, Nat.reduceLeDiff, Nat.reduceAdd, Nat.reduceSub, Nat.reduceMul, Int.reduceLE, Int.reduceLT, Int.reduceToNat, Int.reduceNeg, true_and, and_true, and_self, implies_true, forall_const, reduceCtorEq, C_law28_sane, C_ref28_Few, C_certify_Arrive, C_certify_Accepts, C_certify_Faults]
    all_goals exact cl
end Go.Sx
end
section
namespace Go.Sx
open Go.Proofs
theorem runI_none {step : Nat → Unit → Unit ⊕ Unit} : ∀ {n i : Nat}, (∀ j, i ≤ j → j < i + n → step j () = .inr ()) → runI step n i () = .inr ()
  | 0, _, _ => rfl
  | n + 1, i, h => by
    simp only [runI]
    rw [h i (by omega) (by omega)]
    exact runI_none fun j h1 h2 => h j (by omega) (by omega)
theorem law_p (d : District) (c : List Claim) (l : List Order) : law28_CertifyFaults_p d c l := by
  refine ⟨sane_p, fun _ _ => ⟨faults_pt d c l, accepts_pt d c l, fun _ _ hm => okI_all _ _ _ fun j s h1 h2 => ?_⟩⟩
  unfold maxL at hm
  unfold law28_CertifyFaults_l0_p
  have hw : decide ((j : Int) > 0) = true → 0 ≤ IntKind.i64.wrap ((j : Int) - 1) ∧ IntKind.i64.wrap ((j : Int) - 1) < ((certify_Faults d c l).1.length : Int) := fun h => by
    simp only [decide_eq_true_eq] at h
    rw [wrap_pred (by omega) (by omega)]; omega
  simp only [arr_T, implies_true, and_true]
  exact hw
theorem faults_small (d : District) (c : List Claim) (l : List Order) : (certify_Faults d c l).1.length ≤ 18000000 := by
  unfold certify_Faults
  cases h1 : (claims_Check d c != 0) with
  | true => simp
  | false =>
    simp only [cond_false]
    cases h2 : ((certify_read d l).2 != 0) with
    | true => simp
    | false =>
      simp only [cond_false]
      split
      · rename_i x _; exact x.elim
      · rename_i s0 hs
        exact runI_inv (fun k s => s.length ≤ k * 3000000) _ _ _ (by simp) (fun j s _ hj hs s' e => by
          have := stage_len (read_table h2) c j s s' e
          omega) s0 hs
theorem step_t {d : District} {c : List Claim} {l : List Order} {j : Nat} (hp : (certify_Faults d c l).1.Pairwise flt) (hg : ∀ x ∈ (certify_Faults d c l).1, good d l x) (hj : j < 0 + (certify_Faults d c l).1.length) : law28_CertifyFaults_l0 d c l j () = .inr () := by
  unfold law28_CertifyFaults_l0
  have hs := faults_small d c l
  generalize (certify_Faults d c l).1 = L at hp hg hj hs ⊢
  have hlast : ∀ h : 0 < j, flt (L.getD (j - 1) default) (L.getD j default) := fun h => by
    have := (List.pairwise_iff_getElem.1 hp) (j - 1) j (by omega) (by omega) (by omega)
    rw [List.getD_eq_getElem?_getD, List.getD_eq_getElem?_getD, List.getElem?_eq_getElem (by omega), List.getElem?_eq_getElem (by omega)]
    exact this
  have hx : good d l (L.getD j default) := by
    have : L.getD j default = L[j]'(by omega) := by
      rw [List.getD_eq_getElem?_getD, List.getElem?_eq_getElem (by omega)]; rfl
    rw [this]
    exact hg _ (List.getElem_mem _)
  generalize L.getD j default = x at hx hlast ⊢
  have hw : 0 < j → (IntKind.i64.wrap ((j : Int) - 1)).toNat = j - 1 := fun h => by
    rw [wrap_pred (by omega) h]; omega
  unfold good at hx
  cases hd : decide ((j : Int) > 0) with
  | true =>
    have h0 : 0 < j := by simp only [decide_eq_true_eq] at hd; omega
    have hf := hlast h0
    rw [hw h0]
    generalize L.getD (j - 1) default = y at hf ⊢
    have hc : ((decide (x.kind < y.kind)) || ((x.kind == y.kind) && ((decide (x.hour < y.hour)) || ((x.hour == y.hour) && (decide (x.index ≤ y.index)))))) = false := by
      unfold flt at hf
      simp only [Bool.or_eq_false_iff, Bool.and_eq_false_iff, decide_eq_false_iff_not, beq_eq_false_iff_ne]
      omega
    simp only [cond_true]
    rw [hc]
    simp only [cond_false]
    rcases hx with ⟨k | k, lt⟩ | ⟨k | k | k | k, gt, hA⟩
    · have := Int.not_le.2 lt; simp [k, this]
    · have := Int.not_le.2 lt; simp [k, this]
    · have := Int.not_le.2 gt; simp [k, this]
    · have := Int.not_le.2 gt; simp [k, this]
    · have := Int.not_le.2 gt; simp [k, this]
    · have := Int.not_le.2 gt; simp [k, this, hA k]
  | false =>
    simp only [cond_false]
    rcases hx with ⟨k | k, lt⟩ | ⟨k | k | k | k, gt, hA⟩
    · have := Int.not_le.2 lt; simp [k, this]
    · have := Int.not_le.2 lt; simp [k, this]
    · have := Int.not_le.2 gt; simp [k, this]
    · have := Int.not_le.2 gt; simp [k, this]
    · have := Int.not_le.2 gt; simp [k, this]
    · have := Int.not_le.2 gt; simp [k, this, hA k]
theorem law_t (d : District) (c : List Claim) (l : List Order) : law28_CertifyFaults d c l = true := by
  unfold law28_CertifyFaults
  rw [sane_t]
  simp only [Bool.not_true, cond_false]
  cases hf : (!(ref28_Few d c l)) with
  | true => rfl
  | false =>
    simp only [cond_false]
    have hA2 : (certify_Accepts d c l).2 = (certify_Faults d c l).2 := rfl
    have hA1 : (certify_Accepts d c l).1 = (((certify_Faults d c l).2 == 0) && ((((certify_Faults d c l).1).length : Int) == 0)) := rfl
    cases he : ((certify_Faults d c l).2 != 0) with
    | true =>
      have hn := faults_none he
      have h0 : ((certify_Faults d c l).2 == 0) = false := by
        cases hx : ((certify_Faults d c l).2 == 0) with
        | false => rfl
        | true => simp at hx he; exact absurd hx he
      rw [hA2, hA1, hn, h0]
      simp
    | false =>
      have h0 : ((certify_Faults d c l).2 == 0) = true := by simpa using he
      obtain ⟨hp, hg⟩ := faults_law he
      rw [hA2, hA1, h0]
      simp only [bne_self_eq_false, Bool.false_and, Bool.or_self, cond_false, Bool.true_and]
      rw [runI_none (n := (certify_Faults d c l).1.length) fun j _ hj => ?_]
      · simp
      · exact step_t hp hg hj
end Go.Sx
end
section
namespace Go.Sx
open Go.RowKit Go.Deep
section
variable {F : Nat → Prop} {own : Own} {w : World}
def RC (F : Nat → Prop) (own : Own) (w : World) (ks : List Kd) (cs : List Value) : Prop :=
  ∃ l : List SV, fits ks l = true ∧ l.length = cs.length ∧ ∀ (j : Nat) (s : SV) (v : Value), l[j]? = some s → cs[j]? = some v → Rel F own w s v
theorem fits_app : ∀ {a b : List Kd} {l m : List SV}, fits a l = true → fits b m = true → fits (a ++ b) (l ++ m) = true
  | [], b, l, m, h1, h2 => by rw [fits_nil h1]; exact h2
  | k :: a, b, l, m, h1, h2 => by
    obtain ⟨x, r, rfl, e1, e2⟩ := fits_cons h1
    simp only [List.cons_append, fits, e1, fits_app e2 h2, Bool.and_self]
theorem RC.nil : RC F own w [] [] := ⟨[], rfl, rfl, fun j s v h => by cases h⟩
theorem RC.app {a b : List Kd} {c d : List Value} (h1 : RC F own w a c) (h2 : RC F own w b d) : RC F own w (a ++ b) (c ++ d) := by
  obtain ⟨l, f1, n1, r1⟩ := h1
  obtain ⟨m, f2, n2, r2⟩ := h2
  refine ⟨l ++ m, fits_app f1 f2, by simp [n1, n2], fun j s v hs hv => ?_⟩
  by_cases hj : j < l.length
  · rw [List.getElem?_append_left hj] at hs
    rw [List.getElem?_append_left (by omega)] at hv
    exact r1 j s v hs hv
  · rw [List.getElem?_append_right (by omega)] at hs
    rw [List.getElem?_append_right (by omega), ← n1] at hv
    exact r2 _ s v hs hv
theorem RC.one {k : Kd} {s : SV} {v : Value} (h1 : fit k s = true) (h2 : Rel F own w s v) : RC F own w [k] [v] :=
  ⟨[s], by simp [fits, h1], rfl, fun j s' v' hs hv => by
    cases j with
    | zero => simp only [List.getElem?_cons_zero, Option.some.injEq] at hs hv; subst hs; subst hv; exact h2
    | succ j => simp at hs⟩
end
def eqKd : Kd → Kd → Bool
  | .s, .s => true
  | .b, .b => true
  | .n a, .n b => decide (a = b)
  | .r a, .r b => decide (a = b)
  | .m a c, .m b d => decide (a = b) && decide (c = d)
  | _, _ => false
theorem eqKd_ok : ∀ {a b : Kd}, eqKd a b = true → a = b := by
  intro a b h
  cases a <;> cases b <;> simp_all [eqKd]
def eqKs : List Kd → List Kd → Bool
  | [], [] => true
  | a :: l, b :: m => eqKd a b && eqKs l m
  | _, _ => false
theorem eqKs_ok : ∀ {a b : List Kd}, eqKs a b = true → a = b
  | [], [], _ => rfl
  | a :: l, b :: m, h => by
    simp only [eqKs, Bool.and_eq_true] at h
    rw [eqKd_ok h.1, eqKs_ok h.2]
def kindsF (P : Program) (g : TypeId → Option (List Kd)) : List Field → Nat → Nat → Option (List Kd)
  | [], off, tot => bif Nat.beq off tot then some [] else none
  | f :: r, off, tot => match g f.type with
    | some a => bif Nat.beq f.offset off && Nat.beq a.length (P.cellsOf f.type) then (kindsF P g r (off + a.length) tot).map (a ++ ·) else none
    | none => none
def kindsA (a : List Kd) : Nat → List Kd
  | 0 => []
  | n + 1 => a ++ kindsA a n
def kindsT (P : Program) : Nat → TypeId → Option (List Kd)
  | 0, _ => none
  | n + 1, t => match P.underlying t with
    | some .bool => some [.b]
    | some (.int k) => some [.n k]
    | some .string => some [.s]
    | some (.slice e) => match tagT P e, kindsT P n e with
      | some k, some ks => bif eqKs ks (kindsOf k) && Nat.beq (P.cellsOf e) (sizeOfTag k) && Nat.ble 1 (sizeOfTag k) then some [.r k] else none
      | _, _ => none
    | some (.struct fs) => kindsF P (kindsT P n) fs.toList 0 (P.cellsOf t)
    | some (.array m e) => match kindsT P n e with
      | some a => bif Nat.beq a.length (P.cellsOf e) && Nat.beq (P.cellsOf t) (m * a.length) then some (kindsA a m) else none
      | none => none
    | _ => none
section
variable {H : Type} {enc : TypeId × Value → H} {P : Program} {F : Nat → Prop} {own : Own} {w : World} {base : Nat} {spare : Nat → Bool} {held : Bool} {S : DataW H → Prop}
theorem kF_read {g : TypeId → Option (List Kd)} (hg : ∀ t ks, g t = some ks → ∀ (fuel : Nat) (cs : List Value) (x : DataW H × List MemPlace), DataW.trod enc P w base spare held fuel t cs = some x → S x.1 → RC F own w ks cs)
    (fuel : Nat) (cs : List Value) : ∀ (fs : List Field) (off : Nat) (ks : List Kd), kindsF P g fs off cs.length = some ks → (∀ f ∈ fs, ∃ x, DataW.trod enc P w base spare held fuel f.type ((cs.drop f.offset).take (P.cellsOf f.type)) = some x ∧ S x.1) → RC F own w ks (cs.drop off)
  | [], off, ks, h, _ => by
    unfold kindsF at h
    cases hb : Nat.beq off cs.length with
    | false => rw [hb] at h; cases h
    | true =>
      rw [hb] at h
      have : off = cs.length := Nat.eq_of_beq_eq_true hb
      subst this
      cases h
      rw [List.drop_length]
      exact RC.nil
  | f :: r, off, ks, h, hx => by
    unfold kindsF at h
    cases ha : g f.type with
    | none => rw [ha] at h; cases h
    | some a =>
      rw [ha] at h
      dsimp only at h
      cases hb : Nat.beq f.offset off && Nat.beq a.length (P.cellsOf f.type) with
      | false => rw [hb] at h; cases h
      | true =>
        rw [hb] at h
        simp only [cond_true, Option.map_eq_some_iff] at h
        obtain ⟨ks2, h2, rfl⟩ := h
        rw [Bool.and_eq_true] at hb
        have e1 : f.offset = off := Nat.eq_of_beq_eq_true hb.1
        have e2 : a.length = P.cellsOf f.type := Nat.eq_of_beq_eq_true hb.2
        obtain ⟨x, hx1, hs1⟩ := hx f (by simp)
        have h3 := hg _ _ ha _ _ _ hx1 hs1
        have h4 := kF_read hg fuel cs r (off + a.length) ks2 h2 fun f hf => hx f (by simp [hf])
        have := h3.app h4
        rw [e1, ← e2] at this
        rwa [← List.drop_drop, List.take_append_drop] at this
theorem kA_read {e : TypeId} {a : List Kd} (ha : ∀ (fuel : Nat) (cs : List Value) (x : DataW H × List MemPlace), DataW.trod enc P w base spare held fuel e cs = some x → S x.1 → RC F own w a cs)
    (fuel : Nat) : ∀ (m : Nat) (cs : List Value), cs.length = m * a.length → (∀ i, i < m → ∃ x, DataW.trod enc P w base spare held fuel e ((cs.drop (i * a.length)).take a.length) = some x ∧ S x.1) → RC F own w (kindsA a m) cs
  | 0, cs, h, _ => by
    have : cs = [] := by simpa using h
    subst this
    exact RC.nil
  | m + 1, cs, h, hx => by
    obtain ⟨x, hx1, hs1⟩ := hx 0 (by omega)
    rw [Nat.zero_mul, List.drop_zero] at hx1
    have h3 := ha _ _ _ hx1 hs1
    have h4 := kA_read ha fuel m (cs.drop a.length) (by rw [List.length_drop, h, Nat.succ_mul]; omega) fun i hi => by
      obtain ⟨x, hx2, hs2⟩ := hx (i + 1) (by omega)
      refine ⟨x, ?_, hs2⟩
      rw [List.drop_drop]
      rwa [Nat.succ_mul, Nat.add_comm] at hx2
    have := h3.app h4
    rwa [List.take_append_drop] at this
structure Small (S : DataW H → Prop) : Prop where
  agg : ∀ l, S (.agg l) → ∀ d ∈ l, S d
  slice : ∀ l m, S (.slice l m) → l.length ≤ maxL ∧ ∀ d ∈ l, S d
theorem kinds_read (hS : Small S) (hown : ∀ b, ¬ ownB F own b) : ∀ (n : Nat) (t : TypeId) (ks : List Kd), kindsT P n t = some ks → ∀ (fuel : Nat) (cs : List Value) (x : DataW H × List MemPlace), DataW.trod enc P w base spare held fuel t cs = some x → S x.1 → RC F own w ks cs
  | 0, _, _, h, _, _, _, _, _ => by cases h
  | n + 1, t, ks, h, fuel, cs, x, hx, hs => by
    unfold kindsT at h
    split at h
    · rename_i ht
      cases h
      obtain ⟨b, rfl, rfl⟩ := DataW.trod_bool ht hx
      exact RC.one (s := .v (.bool b)) rfl (.v _)
    · rename_i k ht
      cases h
      obtain ⟨m, rfl, rfl, _⟩ := DataW.trod_int ht hx
      exact RC.one (s := .v (.int k m)) (by simp [fit]) (.v _)
    · rename_i ht
      cases h
      obtain ⟨b, rfl, rfl, _⟩ := DataW.trod_string ht hx
      exact RC.one (s := .v (.string b)) rfl (.v _)
    · rename_i e ht
      split at h
      · rename_i k ks2 hk hks
        cases hb : eqKs ks2 (kindsOf k) && Nat.beq (P.cellsOf e) (sizeOfTag k) && Nat.ble 1 (sizeOfTag k) with
        | false => rw [hb] at h; cases h
        | true =>
          rw [hb] at h
          cases h
          simp only [Bool.and_eq_true] at hb
          have e1 := eqKs_ok hb.1.1
          have e2 : P.cellsOf e = sizeOfTag k := Nat.eq_of_beq_eq_true hb.1.2
          have e3 : 1 ≤ sizeOfTag k := Nat.le_of_ble_eq_true hb.2
          subst e1
          rcases open_slice ht hx with ⟨rfl, rfl⟩ | ⟨a, len, cap, m, f2, D, Pl, rfl, hb1, hl, hm, hmm, rfl, hel⟩
          · exact RC.one (s := .rs k []) (by simp [fit]) .rs0
          · have hlm : len ≤ m := by subst hmm; split <;> omega
            obtain ⟨hs1, hs2⟩ := hS.slice _ _ hs
            simp only [List.length_map, List.length_range] at hs1
            have helt : ∀ i, i < len → ∃ cs', cs'.length = sizeOfTag k ∧ (∀ j v, cs'[j]? = some v → w.cell? ((a.add (i * sizeOfTag k)).add j) = some v) ∧ RC F own w (kindsOf k) cs' := fun i hi => by
              obtain ⟨cs', h1, h2⟩ := hel i (by omega)
              have h3 := kinds_read hS hown n e (kindsOf k) hks f2 cs' _ h2 (hs2 _ (List.mem_map_of_mem (List.mem_range.2 hi)))
              unfold World.cells? at h1
              split at h1
              · refine ⟨cs', by rw [mapM_some_length h1, List.length_range, e2], fun j v hj => ?_, h3⟩
                have hlt : j < P.cellsOf e := by
                  have := (List.getElem?_eq_some_iff.1 hj).1
                  rwa [mapM_some_length h1, List.length_range] at this
                have := mapM_some_get h1 j j (by simp [hlt])
                rw [e2] at this
                rw [this, hj]
              · cases h1
            by_cases h0 : len = 0
            · subst h0
              exact RC.one (s := .rs k []) (by simp [fit]) .rs0
            · have hsp : a.spot = none := by
                obtain ⟨cs', h1, h2, _⟩ := helt 0 (by omega)
                have := h2 0 (cs'[0]'(by omega)) (by rw [List.getElem?_eq_getElem])
                rw [Nat.zero_mul] at this
                simp only [Addr.add, if_true] at this
                unfold World.cell? at this
                split at this
                · cases hsp : a.spot with
                  | none => rfl
                  | some q => rw [hsp] at this; simp at this
                · cases this
              obtain ⟨ab, ao, asp⟩ := a
              dsimp only at hsp
              subst hsp
              haveI : Inhabited k.T := ⟨dflt k⟩
              obtain ⟨X, hX⟩ := choose_lt (p := fun i (x : k.T) => ∀ (j : Nat) (s : SV), (cellsOf k x)[j]? = some s → ∃ v, w.cell? ⟨ab, ao + i * sizeOfTag k + j, none⟩ = some v ∧ Rel F own w s v) (n := len) fun i hi => by
                obtain ⟨cs', h1, h2, l, h3, h4, h5⟩ := helt i hi
                refine ⟨mkE k l, fun j s hj => ?_⟩
                rw [elemO_cells (k := k) (l := l) (x := mkE k l) (by unfold elemO; rw [h3]; rfl)] at hj
                have hlt : j < cs'.length := by
                  have := (List.getElem?_eq_some_iff.1 hj).1
                  omega
                refine ⟨cs'[j], ?_, h5 j s _ hj (List.getElem?_eq_getElem hlt)⟩
                have := h2 j cs'[j] (List.getElem?_eq_getElem hlt)
                have hadd : ∀ p q, ((⟨ab, ao, none⟩ : Addr).add p).add q = ⟨ab, ao + p + q, none⟩ := fun p q => by
                  unfold Addr.add
                  by_cases hp : p = 0 <;> by_cases hq : q = 0 <;> simp [hp, hq]
                rwa [hadd] at this
              have hL : ((List.range len).map X).length = len := by simp
              refine RC.one (s := .rs k ((List.range len).map X)) (by simp [fit]) ?_
              have hget : ∀ (i : Nat) (x : k.T), ((List.range len).map X)[i]? = some x → i < len ∧ x = X i := fun i x hi => by
                obtain ⟨h1, h2⟩ := List.getElem?_eq_some_iff.1 hi
                rw [hL] at h1
                simp only [List.getElem_map, List.getElem_range] at h2
                subst h2
                exact ⟨h1, rfl⟩
              have := Rel.rs (F := F) (own := own) (w := w) (k := k) (l := (List.range len).map X) (b := ab) (o := ao) (cap := cap) (fun i j => (w.cell? ⟨ab, ao + i * sizeOfTag k + j, none⟩).getD undef) (by rw [hL]; exact hl) (by rw [hL]; exact hs1)
                (fun i x hi j s hj => by
                  obtain ⟨h1, rfl⟩ := hget i x hi
                  obtain ⟨v, h2, _⟩ := hX i h1 j s hj
                  exact ⟨hown _, by rw [h2]; rfl⟩)
                (fun i x hi j s hj => by
                  obtain ⟨h1, rfl⟩ := hget i x hi
                  obtain ⟨v, h2, h3⟩ := hX i h1 j s hj
                  rw [h2]; exact h3)
              rwa [hL] at this
      · cases h
    · rename_i fs ht
      obtain ⟨xs, m, rfl, rfl, hl, hlen, hf⟩ := DataW.trod_struct ht hx
      rw [← hl] at h
      have := kF_read (kinds_read hS hown n) m cs fs.toList 0 ks h fun f hfm => by
        obtain ⟨i, hi, rfl⟩ := List.getElem_of_mem hfm
        have hi' : i < fs.size := by simpa using hi
        have h1 := hf i fs[i] (by simp [hi'])
        rw [List.getElem?_eq_getElem (by omega)] at h1
        refine ⟨_, by simpa using h1, hS.agg _ hs _ (List.mem_map_of_mem (List.getElem_mem _))⟩
      simpa using this
    · rename_i m e ht
      split at h
      · rename_i a ha
        cases hb : Nat.beq a.length (P.cellsOf e) && Nat.beq (P.cellsOf t) (m * a.length) with
        | false => rw [hb] at h; cases h
        | true =>
          rw [hb] at h
          cases h
          rw [Bool.and_eq_true] at hb
          have e1 : a.length = P.cellsOf e := Nat.eq_of_beq_eq_true hb.1
          have e2 : P.cellsOf t = m * a.length := Nat.eq_of_beq_eq_true hb.2
          obtain ⟨xs, f2, rfl, rfl, hl, hlen, hf⟩ := DataW.trod_array ht hx
          refine kA_read (kinds_read hS hown n e a ha) f2 m cs (by rw [hl, e2]) fun i hi => ?_
          have h1 := hf i hi
          rw [List.getElem?_eq_getElem (by omega), ← e1] at h1
          exact ⟨_, h1, hS.agg _ hs _ (List.mem_map_of_mem (List.getElem_mem _))⟩
      · cases h
    · cases h
end
end Go.Sx
end
section
namespace Go.Sx
open Go.Proofs
theorem k_district : kindsT Try.prog 6 31 = some (kindsOf .district) := by kernel_rfl
theorem k_claims : kindsT Try.prog 6 39 = some [.r .claim] := by kernel_rfl
theorem k_orders : kindsT Try.prog 6 32 = some [.r .order] := by kernel_rfl
section
variable {F : Nat → Prop} {own : Own} {w : World}
theorem agg_rel {k : Tag} {cs : Array Value} (h : RC F own w (kindsOf k) cs.toList) : ∃ x : k.T, Rel F own w (.agg (cellsOf k x)) (.agg cs) := by
  obtain ⟨l, h3, h4, h5⟩ := h
  refine ⟨mkE k l, ?_⟩
  rw [elemO_cells (k := k) (l := l) (x := mkE k l) (by unfold elemO; rw [h3]; rfl)]
  refine .agg (by simpa using h4.symm) fun j s hj => ?_
  have hlt : j < cs.size := by
    have := (List.getElem?_eq_some_iff.1 hj).1
    simpa [h4] using this
  exact h5 j s _ hj (by simp [Array.getD, hlt])
theorem sl_rel {k : Tag} {v : Value} (h : RC F own w [.r k] [v]) : ∃ l : List k.T, Rel F own w (.rs k l) v := by
  obtain ⟨l, h3, h4, h5⟩ := h
  obtain ⟨x, r, rfl, h6, h7⟩ := fits_cons h3
  have h8 := h5 0 x v rfl rfl
  cases x with
  | rs k' l' =>
    have : k = k' := by
      simp only [fit] at h6
      exact tagN_inj h6
    subst this
    exact ⟨l', h8⟩
  | _ => simp [fit] at h6
end
end Go.Sx
end
section
namespace Go.Sx
open Go.Proofs Go.RowKit
theorem con_eq (d : District) (c : List Claim) (l : List Order) : C_law28_CertifyFaults [.agg (cellsOf .district d), .rs .claim c, .rs .order l] = some (.det (law28_CertifyFaults_p d c l) (.v (.bool (law28_CertifyFaults d c l)))) := by
  unfold C_law28_CertifyFaults
  simp only [go_sem, Nat.reduceBEq]
theorem call_true {cs : Array Value} {v1 v2 : Value} {W : World} (h0 : RC (fun _ => False) own0 W (kindsOf .district) cs.toList) (h1 : RC (fun _ => False) own0 W [.r .claim] [v1]) (h2 : RC (fun _ => False) own0 W [.r .order] [v2]) :
    Calls Try.prog 5 #[.agg cs, v1, v2] W (fun e W' => e = .returned (.bool true) ∧ Below W.heap.size W W') := by
  obtain ⟨d, r0⟩ := agg_rel h0
  obtain ⟨c, r1⟩ := sl_rel h1
  obtain ⟨l, r2⟩ := sl_rel h2
  refine (ok_law28_CertifyFaults.calls _ _ (con_eq d c l) (law_p d c l) (fun _ => False) W _ (fun b h => h.elim) ⟨rfl, fun j s hj => ?_⟩).mono fun e W' he => ?_
  · match j, hj with
    | 0, hj => cases hj; exact r0
    | 1, hj => cases hj; exact r1
    | 2, hj => cases hj; exact r2
  · rcases he with ⟨s, u, own', hs, rfl, hh, hb⟩ | ⟨x, hx, _⟩
    · simp only [conPost] at hs
      subst hs
      rw [law_t] at hh
      have := hh.val
      simp only [HandV] at this
      rw [rel_v this]
      exact ⟨rfl, hb⟩
    · exact hx.elim
end Go.Sx
end
section
namespace Go.Sx
open Go.RowKit Go.WideShapes Go.ChangeShapes
section
variable {H : Type} {enc : TypeId × Value → H} {P : Program}
def okTs (P : Program) : List TypeId → Bool
  | [] => true
  | t :: r => P.readableRec t && Nat.blt t P.types.size && okTs P r
theorem all_stays (hl : laidOutB P = true) {W W' : World} (hg : Below W.heap.size W W') : ∀ {ts : List TypeId} {vs : List Value} {ds : List (DataW H)} {ps : List MemPlace}, okTs P ts = true →
    DataW.TrodAll enc P W 0 (fun _ => true) true ts vs ds ps → (∀ x ∈ ps, x.block < W.heap.size) → DataW.TrodAll enc P W' 0 (fun b => decide (b < W.heap.size)) true ts vs ds ps
  | [], vs, ds, ps, _, h, _ => by
    obtain ⟨rfl, rfl, rfl⟩ := trodAll_nil h
    exact trodAll_mk0
  | t :: ts, vs, ds, ps, hk, h, hlt => by
    unfold okTs at hk
    rw [Bool.and_eq_true, Bool.and_eq_true] at hk
    obtain ⟨v, vs', d, ds', p, q, rfl, rfl, rfl, h1, h2⟩ := trodAll_cons h
    refine trodAll_cons_mk (WideElems.Trod_stays hl hk.1.1 (by simpa [Nat.blt_eq] using hk.1.2) h1 (fun x hx => hg.same (hlt x (List.mem_append_left _ hx))) (fun x hx => by simpa using hlt x (List.mem_append_left _ hx))) ?_
    exact all_stays hl hg hk.2 h2 fun x hx => hlt x (List.mem_append_right _ hx)
theorem law_post (hl : laidOutB P = true) {f : Func} {s : ChangeSpec} {W W' : World} {args : Array Value} {ds gs : List (DataW H)} {before : List MemPlace} {t : TypeId}
    (hk : okTs P f.params.toList = true) (hW : DataW.Whole enc P f.params.toList s.vars false W args.toList ds gs before)
    (hr : f.resultTypes = #[t]) (ht : P.underlying t = some .bool) (hv : s.vars = []) (h1 : (s.fn H (ds ++ gs)).results = [.lit (.bool true)]) (h2 : (s.fn H (ds ++ gs)).args = ds) (h3 : (s.fn H (ds ++ gs)).vars = [])
    (hg : Below W.heap.size W W') : s.post enc P f false true false false W args (.bool true) W' := by
  have hlt := hW.lt
  have hW0 := hW
  obtain ⟨p, q, hA, hV, rfl, _, _⟩ := hW
  rw [hv] at hV
  obtain ⟨rfl, rfl⟩ := trodVars_none hV
  refine ⟨ds, [], p ++ [], [], p, [], hW0, ?_, ?_, ?_, ?_, fun h => by cases h⟩
  · rw [h1, hr]
    exact trodAll_cons_mk (shut_bool ht _) trodAll_mk0
  · rw [h2]
    exact all_stays hl hg hk hA fun x hx => hlt x (by simpa using hx)
  · rw [h3, hv]
    rfl
  · exact World.keptBut_mono (fun x hx => ⟨hx, .inr (.inl (by simpa using hx))⟩) (hg.frame (· ∈ p ++ []))
end
end Go.Sx
end
section
namespace Go.Proofs.Ytnhhdmkikgdfkaa.bulks
theorem one_le {H : Type} (d : DataW H) : 1 ≤ Rows.uptoBulk d := by
  cases d with
  | lit l => cases l <;> simp [Rows.uptoBulk]
  | nil => simp [Rows.uptoBulk]
  | ptr d => simp [Rows.uptoBulk]
  | slice elems spare => simp [Rows.uptoBulk]
  | agg parts => simp [Rows.uptoBulk]
  | iface t d => simp [Rows.uptoBulk]
  | map entries => simp [Rows.uptoBulk]
  | held h => simp [Rows.uptoBulk]
theorem part_le {H : Type} {d : DataW H} {l : List (DataW H)} (h : d ∈ l) : Rows.uptoBulk d ≤ Rows.uptoBulkAll l := by
  induction l with
  | nil => cases h
  | cons x r ih =>
    simp only [Rows.uptoBulkAll]
    cases List.mem_cons.1 h with
    | inl e => subst e; omega
    | inr e => have := ih e; omega
theorem append {H : Type} (l r : List (DataW H)) : Rows.uptoBulkAll (l ++ r) = Rows.uptoBulkAll l + Rows.uptoBulkAll r := by
  induction l with
  | nil => simp [Rows.uptoBulkAll]
  | cons x l ih => simp only [List.cons_append, Rows.uptoBulkAll, ih]; omega
theorem length_le {H : Type} (l : List (DataW H)) : l.length ≤ Rows.uptoBulkAll l := by
  induction l with
  | nil => simp [Rows.uptoBulkAll]
  | cons x r ih => have := one_le x; simp only [Rows.uptoBulkAll, List.length_cons]; omega
theorem slice_le {H : Type} (elems spare : List (DataW H)) : elems.length + spare.length + 1 ≤ Rows.uptoBulk (.slice elems spare) := by
  have h1 := length_le elems
  have h2 := length_le spare
  simp only [Rows.uptoBulk]
  omega
theorem slice_elems {H : Type} (elems spare : List (DataW H)) : Rows.uptoBulkAll elems + 1 ≤ Rows.uptoBulk (.slice elems spare) := by
  simp only [Rows.uptoBulk]
  omega
theorem string_eq {H : Type} (bytes : List UInt8) : Rows.uptoBulk (DataW.lit (H := H) (.string bytes)) = bytes.length + 1 := by
  simp [Rows.uptoBulk]
theorem bound {H : Type} {l : List (DataW H)} (hk : Rows.uptoSmall H l = true) : Rows.uptoBulkAll l ≤ 1048576 := by
  simpa [Rows.uptoSmall] using hk
theorem room {n b : Nat} (hn : n ≤ 2097152) (hb : b ≤ 4096) : (n + n / 4 + 192) * b ≤ 281474976710656 := by
  have h : (n + n / 4 + 192) * b ≤ 2621632 * 4096 := Nat.mul_le_mul (by omega) hb
  omega
end Go.Proofs.Ytnhhdmkikgdfkaa.bulks
end
section
namespace Go.Proofs.Ytnhhdmkikgdfkaa.certifyFaults
open Go.ChangeShapes Go.WideShapes Go.ChangeAt Go.RowKit Go.Sx
set_option linter.unusedVariables false
theorem own : ownKnob Try.prog.godebug = none := by kernel_rfl
set_option maxRecDepth 100000 in
theorem small (H : Type) : Small (fun d : DataW H => Rows.uptoBulk d ≤ 1048576) where
  agg l h d hd := by
    have h1 := bulks.part_le hd
    simp only [Rows.uptoBulk] at h
    omega
  slice l m h := by
    have h1 := bulks.slice_le l m
    have h2 := bulks.slice_elems l m
    refine ⟨by unfold maxL; omega, fun d hd => ?_⟩
    have := bulks.part_le hd
    omega
theorem laid : laidOutB Try.prog = true := by kernel_rfl
set_option maxRecDepth 100000 in
theorem contract (H : Type) (enc : TypeId × Value → H) (W : World) (base : Nat) (args : Array Value) (ds gs : List (DataW H)) (before : List MemPlace)
    (hval : ∀ (j : Nat) t v, Try.f5.params[j]? = some t → args[j]? = some v → Value.okWide Try.prog W .any base t v)
    (hW : DataW.Whole enc Try.prog Try.f5.params.toList Rows.certifyFaultsSpec.vars false W args.toList ds gs before) (hk : Rows.uptoSmall H (ds ++ gs) = true) :
    Calls Try.prog 5 args W fun e W' => ∃ v, e = .returned v ∧ Rows.certifyFaultsSpec.post enc Try.prog Try.f5 false true false false W args v W' := by
  have hW' := hW
  have hlt := hW.lt
  obtain ⟨p, q, hA0, hV, rfl, hfz, hnd⟩ := hW
  have hA : DataW.TrodAll enc Try.prog W 0 (fun _ => true) true Try.f5.params.toList args.toList ds p := hA0
  rw [Try.params5] at hA hval
  obtain ⟨v0, vs0, d0, ds0, p0, q0, hargs, rfl, rfl, h0, r0⟩ := trodAll_cons hA
  obtain ⟨v1, vs1, d1, ds1, p1, q1, rfl, rfl, rfl, h1, r1⟩ := trodAll_cons r0
  obtain ⟨v2, vs2, d2, ds2, p2, q2, rfl, rfl, rfl, h2, r2⟩ := trodAll_cons r1
  obtain ⟨rfl, rfl, rfl⟩ := trodAll_nil r2
  obtain rfl : args = #[v0, v1, v2] := by cases args; simp_all
  obtain ⟨rfl, rfl⟩ := trodVars_none hV
  have hb := bulks.bound hk
  simp only [Rows.uptoBulkAll, List.append_nil, List.cons_append, List.nil_append] at hb
  have ho : ∀ b, ¬ ownB (fun _ => False) own0 b := fun b h => by
    rcases h with h | ⟨_, _, h, _⟩
    · exact h
    · cases h
  have s0 : ∃ cs, v0 = .agg cs := by
    have := hval 0 31 v0 rfl rfl
    simp only [Value.okWide, Try.underlying31] at this
    exact ⟨_, this.choose_spec.1⟩
  obtain ⟨cs, rfl⟩ := s0
  obtain ⟨a1, l1, c1, rfl⟩ := okWide_slice Try.underlying39 (hval 1 39 v1 rfl rfl)
  obtain ⟨a2, l2, c2, rfl⟩ := okWide_slice Try.underlying32 (hval 2 32 v2 rfl rfl)
  have R0 : RC (fun _ => False) own0 W (kindsOf .district) cs.toList := by
    obtain ⟨f, hf⟩ := h0
    exact kinds_read (small H) ho _ _ _ k_district f _ _ hf (by show Rows.uptoBulk d0 ≤ _; omega)
  have R1 : RC (fun _ => False) own0 W [.r .claim] [.slice a1 l1 c1] := by
    obtain ⟨f, hf⟩ := h1
    exact kinds_read (small H) ho _ _ _ k_claims f _ _ hf (by show Rows.uptoBulk d1 ≤ _; omega)
  have R2 : RC (fun _ => False) own0 W [.r .order] [.slice a2 l2 c2] := by
    obtain ⟨f, hf⟩ := h2
    exact kinds_read (small H) ho _ _ _ k_orders f _ _ hf (by show Rows.uptoBulk d2 ≤ _; omega)
  refine (call_true R0 R1 R2).mono fun e W' ⟨he, hg⟩ => ?_
  subst he
  exact ⟨_, rfl, law_post laid (by kernel_rfl) hW' (by kernel_rfl) Try.underlying4 rfl rfl rfl rfl hg⟩
def zeroV : Kd → Value
  | .n k => .int k 0
  | .b => .bool false
  | .s => .string (ByteArray.mk #[])
  | .r _ => .slice none 0 0
  | .m _ _ => .map none
def wit : Value := .agg ((kindsOf .district).map zeroV).toArray
set_option maxRecDepth 100000 in
theorem lifted (os : Os) (started : os.Started) (H : Type) (enc : TypeId × Value → H) (F : Stop.Interp) :
    ReturnsInHanded {} Try.checked os 5 .any ((Rows.OpenSpec.upto Rows.certifyFaultsSpec).pre6 enc Try.prog Try.f5 Rows.certifyFaultsUptoRow.domain false) (((Rows.OpenSpec.upto Rows.certifyFaultsSpec).at F).post enc Try.prog Try.f5 false true false false) := by
  refine returnsInHanded_of_cond (C := Try.checked) (s := Rows.OpenSpec.upto Rows.certifyFaultsSpec) (k := Rows.uptoSmall) rfl own started (by kernel_rfl) Try.func5
    (OpenSpec.witness (enc := enc) (C := Try.checked) (s := Rows.OpenSpec.upto Rows.certifyFaultsSpec) (k := Rows.uptoSmall) rfl false ⟨#[], #[wit, .slice none 0 0, .slice none 0 0], []⟩ 8 (by kernel_rfl) (by kernel_rfl) (by kernel_rfl)
      (x := (DataW.whole enc Try.prog (World.plainHolding Try.prog os ⟨#[], #[wit, .slice none 0 0, .slice none 0 0], []⟩).memory Try.f5.params.toList Rows.certifyFaultsSpec.vars false [wit, .slice none 0 0, .slice none 0 0] 8).getD ([], [], [])) (by kernel_rfl) rfl (by kernel_rfl)) ?_
  intro W base args ds gs before hval hW _ hk _
  exact contract H enc W base args ds gs before hval hW hk
theorem over : Rows.certifyFaultsUptoRow.holds Try.pinned (Rows.OpenSpec.upto Rows.certifyFaultsSpec) :=
  OpenClaim.holds_of_cond 5 Try.f5 rfl rfl rfl rfl rfl rfl rfl ⟨rfl, rfl, rfl, rfl, rfl⟩ rfl rfl rfl rfl rfl (by kernel_rfl) Try.func5 (by kernel_rfl)
    (of_decide_eq_true (by kernel_rfl)) (by unfold Func.isWrapper; first | (rw [if_pos (by decide +kernel)]; kernel_rfl) | (rw [if_neg (by decide +kernel)]; exact ⟨rfl, rfl⟩))
    (fun os started H enc _ F => lifted os started H enc F)
theorem proved : Rows.CertifyFaultsUptoSaid :=
  over
end Go.Proofs.Ytnhhdmkikgdfkaa.certifyFaults
end
