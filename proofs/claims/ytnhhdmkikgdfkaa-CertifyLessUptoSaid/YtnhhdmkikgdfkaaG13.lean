/- Part of the proof that the law CertifyLess returns true and leaves its arguments as they were, for all arguments of bulk at most 1048576 (the Upto form). -/
import Derived.Test.YtnhhdmkikgdfkaaG12
import Derived.Test.YtnhhdmkikgdfkaaG07
import Derived.Test.YtnhhdmkikgdfkaaG06
set_option linter.all false
section
namespace Go.Sx
open Go.Proofs
theorem claims_pt (d : District) (c : List Claim) : claims_Check_p d c := fun _ h1 _ _ => okI_all _ _ _ fun j s h2 h3 => by
  unfold maxL at h1
  unfold claims_Check_l0_p
  refine ⟨fun h => ?_, fun h => ?_, fun _ h => ?_⟩
  · simp only [Bool.not_eq_false', Bool.and_eq_true, decide_eq_true_eq] at h
    omega
  · simp only [Bool.or_eq_false_iff, Bool.not_eq_false', Bool.and_eq_true, decide_eq_true_eq] at h
    omega
  · simp only [decide_eq_true_eq] at h
    rw [wrap_pred (by omega) (by omega)]; omega
theorem runI_inl {ρ : Type} {step : Nat → Unit → ρ ⊕ Unit} : ∀ {n i : Nat} {s : Unit} {y : ρ}, runI step n i s = .inl y → ∃ j, i ≤ j ∧ j < i + n ∧ step j () = .inl y
  | n + 1, i, s, y, h => by
    simp only [runI] at h
    cases hs : step i s with
    | inl r => rw [hs] at h; cases h; exact ⟨i, by omega, by omega, hs⟩
    | inr s' =>
      rw [hs] at h
      obtain ⟨j, h1, h2, h3⟩ := runI_inl h
      exact ⟨j, by omega, by omega, h3⟩
theorem tank_run (t : CertifyTable) (s : List Fault) : ∃ T : List Fault, certify_table_tank t s = s ++ T ∧ (T = [] ∨ ∃ x, T = [x] ∧ x.kind = 4 ∧ x.litres > x.limit) := by
  unfold certify_table_tank
  split
  · rename_i y hy
    obtain ⟨j, _, _, h⟩ := runI_inl hy
    unfold certify_table_tank_l0 certify_Faults_1 at h
    rw [Bool.cond_eq_ite] at h
    split at h
    · rename_i hd
      simp only [decide_eq_true_eq] at hd
      cases h
      exact ⟨_, rfl, .inr ⟨_, rfl, rfl, hd⟩⟩
    · cases h
  · exact ⟨[], by simp, .inl rfl⟩
theorem flat_lenB {α : Type} (f : α → List Fault) (B : Nat) (h : ∀ x, (f x).length ≤ B) : ∀ l : List α, (l.flatMap f).length ≤ l.length * B
  | [] => by simp
  | x :: l => by
    have := flat_lenB f B h l
    have := h x
    simp only [List.flatMap_cons, List.length_append, List.length_cons, Nat.succ_mul]
    omega
theorem unmet_run (c : List Claim) (t : CertifyTable) : ∃ m, ∀ s, certify_table_unmet_1 c t s = s ++ (List.range' 0 t.d.hours.toNat).flatMap fun h => (List.range' 0 t.d.farms.length).flatMap (uF t m h) := by
  unfold certify_table_unmet_1
  cases hs : runI (certify_table_unmet_1_l0 c) c.length 0 [] with
  | inl x => exact x.elim
  | inr m =>
    refine ⟨m, fun s => ?_⟩
    dsimp only
    rw [runI_app (unmet1_step t m)]
theorem stage_p {d : District} {l : List Order} (h : Table1 d l (certify_read d l).1) (c : List Claim) (j : Nat) (s : List Fault) (hs : s.length ≤ 100000000) : certify_Faults_l0_p d c l j s :=
  ⟨fun _ => gates_p h 1 hs, fun _ => ⟨fun _ => gates_p h 2 hs, fun _ => ⟨fun _ => banks_p h hs, fun _ => ⟨fun _ => tank_p h hs, fun _ => ⟨fun _ => water_p h hs, fun _ => unmet_p h c hs⟩⟩⟩⟩⟩
theorem stage_len {d : District} {l : List Order} (h : Table1 d l (certify_read d l).1) (c : List Claim) (j : Nat) (s s' : List Fault) (hs : certify_Faults_l0 d c l j s = .inr s') : s'.length ≤ s.length + 3000000 := by
  have hr := h.ords.right
  have hc := cells_small hr h.td
  have hl := h.ords.len
  unfold certify_Faults_l0 at hs
  generalize (certify_read d l).1 = t at h hc hs
  have g : ∀ k, (certify_table_gates_1 t k s).length ≤ s.length + 3000000 := fun k => by
    have := flat_len _ (gF_len t k) (List.range' 0 t.l.length)
    rw [List.length_range', h.tl] at this
    rw [gates_run, List.length_append, h.tl]; omega
  simp only [Bool.cond_eq_ite] at hs
  repeat' split at hs
  all_goals (simp only [Sum.inr.injEq] at hs; subst hs)
  · exact g 1
  · exact g 2
  · have := flat_len _ (bF_len t) (certify_cells t)
    rw [banks_run, List.length_append]; omega
  · obtain ⟨T, e, hT⟩ := tank_run t s
    rw [e, List.length_append]
    rcases hT with rfl | ⟨x, rfl, _⟩ <;> simp
  · have := flat_len _ (wF_len t) (certify_cells t)
    rw [water_run, List.length_append]; omega
  · obtain ⟨m, hm⟩ := unmet_run c t
    have h1 := flat_lenB (fun h => (List.range' 0 t.d.farms.length).flatMap (uF t m h)) 600 (fun x => by
      have := flat_len _ (uF_len t m x) (List.range' 0 t.d.farms.length)
      have := hr.farms
      rw [List.length_range'] at *
      rw [h.td] at *
      omega) (List.range' 0 t.d.hours.toNat)
    have h2 := hr.hours
    rw [List.length_range', h.td] at h1
    rw [hm, List.length_append, h.td]
    have : d.hours.toNat * 600 ≤ 4096 * 600 := Nat.mul_le_mul_right _ (by omega)
    omega
theorem faults_pt (d : District) (c : List Claim) (l : List Order) : certify_Faults_p d c l := by
  refine ⟨claims_pt d c, fun _ => ⟨read_p d l, fun h2 => ?_⟩⟩
  have h := read_table h2
  exact okI_inv (fun k s => s.length ≤ k * 3000000) _ _ _ (by simp) fun j s _ hj hs => ⟨stage_p h c j s (by omega), fun s' e => by
    have := stage_len h c j s s' e
    omega⟩
theorem accepts_pt (d : District) (c : List Claim) (l : List Order) : certify_Accepts_p d c l := faults_pt d c l
theorem arrive_pt (d : District) (l : List Order) (r h : Int) : certify_Arrive_p d l r h := fun _ => ⟨read_p d l, fun h2 h3 => by
  have ht := read_table h2
  simp only [Bool.or_eq_false_iff, decide_eq_false_iff_not] at h3
  unfold certify_table_arrives_p
  rw [ht.td]
  omega⟩
end Go.Sx
end
section
namespace Go.Sx
open Go.Proofs
set_option maxRecDepth 100000
theorem sane_t : law28_sane = true := by kernel_rfl
theorem acc_T (d : District) (c : List Claim) (l : List Order) : certify_Accepts_p d c l = True := eq_true (accepts_pt d c l)
theorem fau_T (d : District) (c : List Claim) (l : List Order) : certify_Faults_p d c l = True := eq_true (faults_pt d c l)
theorem arr_T (d : District) (l : List Order) (r h : Int) : certify_Arrive_p d l r h = True := eq_true (arrive_pt d l r h)
theorem sane_p : law28_sane_p := by
  unfold law28_sane_p
  simp [acc_T, fau_T, arr_T, maxB, law28_district]
end Go.Sx
end
section
namespace Go.Sx
open Go.Proofs
theorem faults_eq {d : District} {c : List Claim} {l : List Order} (h : ((certify_Faults d c l).2 != 0) = false) :
    ((certify_read d l).2 != 0) = false ∧ (expand_Check d != 0) = false ∧ (certify_Faults d c l).1 = certify_table_unmet_1 c (certify_read d l).1 (certify_table_water (certify_read d l).1 (certify_table_tank (certify_read d l).1 (certify_table_banks (certify_read d l).1 (certify_table_gates_1 (certify_read d l).1 2 (certify_table_gates_1 (certify_read d l).1 1 []))))) := by
  have h : (certify_Faults d c l).2 = 0 := by simpa using h
  unfold certify_Faults at h ⊢
  cases h1 : (claims_Check d c != 0) with
  | true => rw [h1] at h; simp at h h1; exact absurd h h1
  | false =>
    rw [h1] at h
    simp only [cond_false] at h ⊢
    cases h2 : ((certify_read d l).2 != 0) with
    | true => rw [h2] at h; simp at h h2; exact absurd h h2
    | false =>
      refine ⟨rfl, ?_, ?_⟩
      · have h1 : claims_Check d c = 0 := by simpa using h1
        unfold claims_Check at h1
        cases h3 : (expand_Check d != 0) with
        | true => rw [h3] at h1; simp at h1 h3; exact absurd h1 h3
        | false => rfl
      · simp only [cond_false]
        rfl
end Go.Sx
end
section
namespace Go.Sx
open Go.Proofs
def oval (a : Order) : Int := bif a.outlet then 1 else 0
def olt (a b : Order) : Prop := a.hour < b.hour ∨ a.hour = b.hour ∧ (oval a < oval b ∨ oval a = oval b ∧ a.index < b.index)
theorem compare_neg (x y : Int) : cmp_Compare_int x y = if x < y then -1 else if x > y then 1 else 0 := by
  unfold cmp_Compare_int cmp_isNaN_int
  simp [Bool.cond_eq_ite]
theorem order_lt {a b : Order} (h : routing_by_1 a b < 0) : olt a b := by
  unfold routing_by_1 at h
  unfold olt
  have k0 : ∀ x, ordKey 0 x = x.hour := fun _ => rfl
  have k1 : ∀ x, ordKey 1 x = oval x := fun _ => rfl
  have k2 : ∀ x, ordKey 2 x = x.index := fun _ => rfl
  simp only [runI, ordStep, Nat.zero_add, Nat.reduceAdd, k0, k1, k2, compare_neg] at h
  generalize oval a = p at h ⊢
  generalize oval b = q at h ⊢
  rcases Int.lt_trichotomy a.hour b.hour with e | e | e
  · exact .inl e
  · refine .inr ⟨e, ?_⟩
    rcases Int.lt_trichotomy p q with e1 | e1 | e1
    · exact .inl e1
    · refine .inr ⟨e1, ?_⟩
      rcases Int.lt_trichotomy a.index b.index with e2 | e2 | e2
      · exact e2
      · simp [e, e1, e2] at h
      · have h1 : ¬ a.index < b.index := by omega
        simp [e, e1, e2, h1] at h
    · have h1 : ¬ p < q := by omega
      simp [e, e1, h1] at h
  · have h1 : ¬ a.hour < b.hour := by omega
    simp [e, h1] at h
theorem olt_trans {a b c : Order} (h1 : olt a b) (h2 : olt b c) : olt a c := by
  unfold olt at *; omega
theorem Orders1.lt {d : District} {l : List Order} (h : Orders1 d l) : ∀ (k j : Nat), j < k → k < l.length → olt (l.getD j default) (l.getD k default)
  | k + 1, j, h1, h2 => by
    have h3 := order_lt (h.asc k (by omega))
    by_cases e : j = k
    · subst e; exact h3
    · exact olt_trans (h.lt k j (by omega) (by omega)) h3
end Go.Sx
end
section
namespace Go.Sx
open Go.Proofs
set_option maxRecDepth 100000
set_option linter.unusedSimpArgs false
end Go.Sx
end
section
namespace Go.Sx
open Go.Proofs
theorem runI_none {step : Nat → Unit → Unit ⊕ Unit} : ∀ {n i : Nat}, (∀ j, i ≤ j → j < i + n → step j () = .inr ()) → runI step n i () = .inr ()
  | 0, _, _ => rfl
  | n + 1, i, h => by
    simp only [runI]
    rw [h i (by omega) (by omega)]
    exact runI_none fun j h1 h2 => h j (by omega) (by omega)
end Go.Sx
end
section
namespace Go.Sx
open Go.Proofs
theorem unit_iff {step : Nat → Unit → Unit ⊕ Unit} {n : Nat} : runI step n 0 () = .inr () ↔ ∀ j, j < n → step j () = .inr () :=
  ⟨fun h j hj => runI_unit h j (by omega) (by omega), fun h => runI_none fun j _ h2 => h j (by omega)⟩
theorem rising_mk3 {a b c : Int} (h1 : a ≤ b) (h2 : b ≤ c) : expand_rising [a, b, c] = true := by
  have e : runI (expand_rising_l0 [a, b, c]) 2 0 () = .inr () := unit_iff.2 fun j hj => by
    rcases (by omega : j = 0 ∨ j = 1) with rfl | rfl
    · simp [expand_rising_l0, IntKind.wrap, IntKind.bits, IntKind.signed, Bool.cond_eq_ite]; omega
    · simp [expand_rising_l0, IntKind.wrap, IntKind.bits, IntKind.signed, Bool.cond_eq_ite]; omega
  unfold expand_rising
  simp only [List.length_cons, List.length_nil, Nat.zero_add, Nat.reduceAdd, Nat.reduceSub, e]
theorem rising_mk4 {a b c d : Int} (h1 : a ≤ b) (h2 : b ≤ c) (h3 : c ≤ d) : expand_rising [a, b, c, d] = true := by
  have e : runI (expand_rising_l0 [a, b, c, d]) 3 0 () = .inr () := unit_iff.2 fun j hj => by
    rcases (by omega : j = 0 ∨ j = 1 ∨ j = 2) with rfl | rfl | rfl
    · simp [expand_rising_l0, IntKind.wrap, IntKind.bits, IntKind.signed, Bool.cond_eq_ite]; omega
    · simp [expand_rising_l0, IntKind.wrap, IntKind.bits, IntKind.signed, Bool.cond_eq_ite]; omega
    · simp [expand_rising_l0, IntKind.wrap, IntKind.bits, IntKind.signed, Bool.cond_eq_ite]; omega
  unfold expand_rising
  simp only [List.length_cons, List.length_nil, Nat.zero_add, Nat.reduceAdd, Nat.reduceSub, e]
structure Wider (d x : District) : Prop where
  hours : x.hours = d.hours
  farms : x.farms = d.farms
  crops : x.crops = d.crops
  rights : x.rights = d.rights
  duties : x.duties = d.duties
  len : x.reaches.length = d.reaches.length
  up : ∀ k, (x.reaches.getD k default).up = (d.reaches.getD k default).up
  delay : ∀ k, (x.reaches.getD k default).delay = (d.reaches.getD k default).delay
  siphon : ∀ k, (x.reaches.getD k default).siphon = (d.reaches.getD k default).siphon
  evap : ∀ k, (x.reaches.getD k default).evap = (d.reaches.getD k default).evap
  seep : ∀ k, (x.reaches.getD k default).seep = (d.reaches.getD k default).seep
  cap0 : ∀ k, (d.reaches.getD k default).cap ≤ (x.reaches.getD k default).cap
  cap1 : ∀ k, k < d.reaches.length → (x.reaches.getD k default).cap ≤ 1073741824
  bank0 : ∀ k, (d.reaches.getD k default).bank ≤ (x.reaches.getD k default).bank
  bank1 : ∀ k, k < d.reaches.length → (x.reaches.getD k default).bank ≤ 1099511627776
  start : d.tank.start ≤ x.tank.start
  start2 : x.tank.start ≤ x.tank.cap
  tcap : x.tank.cap ≤ 1099511627776
theorem reach_wider {i : Int} {a b : Reach} (h : expand_reach i a = true) (e1 : b.up = a.up) (e2 : b.delay = a.delay) (e3 : b.siphon = a.siphon) (e4 : b.evap = a.evap) (e5 : b.seep = a.seep) (h1 : a.cap ≤ b.cap) (h2 : b.cap ≤ 1073741824) (h3 : a.bank ≤ b.bank) (h4 : b.bank ≤ 1099511627776) : expand_reach i b = true := by
  unfold expand_reach at h ⊢
  rw [e1, e2, e3, e4, e5]
  cases hd : decide (i > 0) <;> rw [hd] at h <;> simp only [cond_true, cond_false, Bool.and_eq_true] at h ⊢
  all_goals
    have r1 := rising4 h.1.1.1.2
    have r2 := rising4 h.1.1.2
    exact ⟨⟨⟨⟨h.1.1.1.1, rising_mk4 (by omega) (by omega) (by omega)⟩, rising_mk4 (by omega) (by omega) (by omega)⟩, h.1.2⟩, h.2⟩
theorem check_split (d : District) : expand_Check d = 0 ↔ (d.reaches.length ≤ 64 ∧ d.farms.length ≤ 600 ∧ d.crops.length ≤ 32 ∧ d.rights.length ≤ 256 ∧ d.duties.length ≤ 256) ∧ (1 ≤ d.hours ∧ d.hours ≤ 4096) ∧ (0 ≤ d.tank.start ∧ d.tank.start ≤ d.tank.cap ∧ d.tank.cap ≤ 1099511627776) ∧ 0 < d.reaches.length ∧
    (∀ k, k < d.reaches.length → expand_examine_l0 d 191 k () = .inr ()) ∧ (∀ k, k < d.crops.length → expand_examine_l1 d 191 k () = .inr ()) ∧ (∀ k, k < d.farms.length → expand_examine_l2 d 191 k () = .inr ()) ∧ (∀ k, k < d.rights.length → expand_examine_l3 d 191 k () = .inr ()) ∧ (∀ k, k < d.duties.length → expand_examine_l4 d 191 k () = .inr ()) := by
  have hx : expand_examine_ok d 191 = true ↔ (1 ≤ d.hours ∧ d.hours ≤ 4096) ∧ (0 ≤ d.tank.start ∧ d.tank.start ≤ d.tank.cap ∧ d.tank.cap ≤ 1099511627776) ∧ 0 < d.reaches.length ∧
    (∀ k, k < d.reaches.length → expand_examine_l0 d 191 k () = .inr ()) ∧ (∀ k, k < d.crops.length → expand_examine_l1 d 191 k () = .inr ()) ∧ (∀ k, k < d.farms.length → expand_examine_l2 d 191 k () = .inr ()) ∧ (∀ k, k < d.rights.length → expand_examine_l3 d 191 k () = .inr ()) ∧ (∀ k, k < d.duties.length → expand_examine_l4 d 191 k () = .inr ()) := by
    unfold expand_examine_ok
    simp only [demand_t]
    cases h3 : (expand_rising [1, d.hours, 4096] && expand_rising [0, d.tank.start, d.tank.cap, 1099511627776] && decide ((d.reaches.length : Int) > 0)) with
    | false =>
      simp only [cond_false, Bool.false_eq_true, false_iff]
      rintro ⟨⟨a1, a2⟩, ⟨a3, a4, a5⟩, a6, _⟩
      rw [rising_mk3 a1 a2, rising_mk4 a3 a4 a5, decide_eq_true (by omega : (d.reaches.length : Int) > 0)] at h3
      cases h3
    | true =>
      simp only [Bool.and_eq_true, decide_eq_true_eq] at h3
      have b1 := rising3 h3.1.1
      have b2 := rising4 h3.1.2
      have b3 := h3.2
      simp only [cond_true]
      rw [← unit_iff, ← unit_iff, ← unit_iff, ← unit_iff, ← unit_iff]
      repeat' split
      all_goals (rename_i e; first | simp_all; done | skip)
      all_goals simp_all
      all_goals omega
  unfold expand_Check
  simp only [demand_t]
  rw [← hx]
  cases h1 : (((((decide ((d.reaches.length : Int) ≤ 64)) && (decide ((d.farms.length : Int) ≤ 600))) && (decide ((d.crops.length : Int) ≤ 32))) && (decide ((d.rights.length : Int) ≤ 256))) && (decide ((d.duties.length : Int) ≤ 256))) with
  | false =>
    simp only [cond_false]
    simp only [Bool.and_eq_false_iff, decide_eq_false_iff_not] at h1
    omega
  | true =>
    simp only [Bool.and_eq_true, decide_eq_true_eq] at h1
    cases expand_examine_ok d 191 <;> simp <;> omega
theorem check_wider {d x : District} (w : Wider d x) (h : expand_Check d = 0) : expand_Check x = 0 := by
  rw [check_split] at h ⊢
  obtain ⟨h1, h2, h3, h4, h5, h6, h7, h8, h9⟩ := h
  have e1 : expand_examine_l1 x = expand_examine_l1 d := by unfold expand_examine_l1; rw [w.crops]
  have e2 : expand_examine_l2 x = expand_examine_l2 d := by unfold expand_examine_l2; rw [w.crops, w.farms, w.len]
  have e3 : expand_right x = expand_right d := by unfold expand_right; rw [w.hours, w.farms, w.len]
  have e4 : expand_examine_l3 x = expand_examine_l3 d := by unfold expand_examine_l3; rw [w.rights, e3]
  have e5 : expand_examine_l4 x = expand_examine_l4 d := by unfold expand_examine_l4; rw [w.duties, w.farms, w.len, w.hours]
  rw [e1, e2, e4, e5, w.hours, w.farms, w.crops, w.rights, w.duties, w.len]
  refine ⟨h1, h2, ⟨?_, w.start2, w.tcap⟩, h4, fun k hk => ?_, h6, h7, h8, h9⟩
  · have := w.start; omega
  · have := h5 k hk
    unfold expand_examine_l0 at this ⊢
    simp only [demand_t] at this ⊢
    have hr : expand_reach (k : Int) (d.reaches.getD k default) = true := by
      cases hh : expand_reach (k : Int) (d.reaches.getD k default) with
      | true => rfl
      | false => rw [hh] at this; simp at this
    rw [reach_wider hr (w.up k) (w.delay k) (w.siphon k) (w.evap k) (w.seep k) (w.cap0 k) (w.cap1 k hk) (w.bank0 k) (w.bank1 k hk)]
    rfl
end Go.Sx
end
section
namespace Go.Sx
open Go.Proofs
theorem runI_unitG {ρ : Type} {n i : Nat} {step : Nat → Unit → ρ ⊕ Unit} {s : Unit} (h : runI step n i s = .inr s) : ∀ j, i ≤ j → j < i + n → step j () = .inr () := by
  induction n generalizing i with
  | zero => intro j h1 h2; omega
  | succ n ih =>
    simp only [runI] at h
    cases hs : step i s with
    | inl r => rw [hs] at h; cases h
    | inr s' =>
      rw [hs] at h
      intro j h1 h2
      by_cases e : j = i
      · subst e; cases s; exact hs
      · exact ih h j (by omega) (by omega)
theorem claims_split (d : District) (c : List Claim) : claims_Check d c = 0 ↔ expand_Check d = 0 ∧ c.length ≤ 4096 ∧ ∀ k, k < c.length → claims_Check_l0 d c k () = .inr () := by
  unfold claims_Check
  cases h1 : (expand_Check d != 0) with
  | true => simp at h1; simp [h1]
  | false =>
    simp at h1
    simp only [cond_false, h1, true_and]
    cases h2 : decide ((c.length : Int) > 4096) with
    | true => simp at h2; simp; omega
    | false =>
      simp at h2
      rw [← unit_iff]
      cases h3 : runI (claims_Check_l0 d c) c.length 0 () with
      | inl y => simp
      | inr y => simp; omega
theorem routing_split (d : District) (l : List Order) : routing_Check d l = 0 ↔ expand_Check d = 0 ∧ l.length ≤ 4096 ∧ ∀ k, k < l.length → routing_Check_l0 d l k () = .inr () := by
  unfold routing_Check
  cases h1 : (expand_Check d != 0) with
  | true => simp at h1; simp [h1]
  | false =>
    simp at h1
    simp only [cond_false, h1, true_and]
    cases h2 : decide ((l.length : Int) > 4096) with
    | true => simp at h2; simp; omega
    | false =>
      simp at h2
      rw [← unit_iff]
      cases h3 : runI (routing_Check_l0 d l) l.length 0 () with
      | inl y => simp
      | inr y => simp; omega
theorem claims_wider {d x : District} (w : Wider d x) {c : List Claim} (h : claims_Check d c = 0) : claims_Check x c = 0 := by
  rw [claims_split] at h ⊢
  have e : claims_Check_l0 x c = claims_Check_l0 d c := by unfold claims_Check_l0; rw [w.rights, w.farms, w.hours]
  rw [e]
  exact ⟨check_wider w h.1, h.2⟩
theorem routing_wider {d x : District} (w : Wider d x) {l : List Order} (h : routing_Check d l = 0) : routing_Check x l = 0 := by
  rw [routing_split] at h ⊢
  have e : routing_Check_l0 x l = routing_Check_l0 d l := by unfold routing_Check_l0; rw [w.farms, w.hours, w.len]
  rw [e]
  exact ⟨check_wider w h.1, h.2⟩
theorem read_wider {d x : District} (w : Wider d x) {l : List Order} (h : (certify_read d l).2 = 0) : certify_read x l = ({ (certify_read d l).1 with d := x }, 0) := by
  unfold certify_read at h ⊢
  rw [w.hours, w.len]
  cases h1 : (decide (IntKind.i64.wrap ((d.reaches.length : Int) * d.hours) > 1024) || decide ((l.length : Int) > 4096)) with
  | true => rw [h1] at h; simp at h
  | false =>
    rw [h1] at h
    simp only [cond_false] at h ⊢
    cases h2 : (routing_Check d l != 0) with
    | true => rw [h2] at h; simp at h
    | false =>
      rw [h2] at h
      have h3 : routing_Check d l = 0 := by simpa using h2
      simp only [cond_false, routing_wider w h3, bne_self_eq_false] at h ⊢
      have e0 : certify_read_l0 x = certify_read_l0 d := by unfold certify_read_l0; rw [w.hours]
      have e1 : certify_read_l1 x l = certify_read_l1 d l := by unfold certify_read_l1; simp only [w.farms, w.up]
      have e3 : certify_read_l3 x = certify_read_l3 d := by unfold certify_read_l3; rfl
      have e2 : certify_read_l2 x = certify_read_l2 d := by unfold certify_read_l2; rw [w.hours, e3]
      rw [e0, e1, e2]
      split
      · rename_i y _; exact y.elim
      · split
        · rename_i y _; exact y.elim
        · split
          · rename_i y _; exact y.elim
          · rfl
def claimedM (c : List Claim) : List (CertifyPlace × Int) := match runI (certify_table_unmet_1_l0 c) c.length 0 [] with | .inl x => x.elim | .inr m => m
theorem unmet_runM (c : List Claim) (t : CertifyTable) (s : List Fault) : certify_table_unmet_1 c t s = s ++ (List.range' 0 t.d.hours.toNat).flatMap fun h => (List.range' 0 t.d.farms.length).flatMap (uF t (claimedM c) h) := by
  unfold certify_table_unmet_1 claimedM
  cases hs : runI (certify_table_unmet_1_l0 c) c.length 0 [] with
  | inl x => exact x.elim
  | inr m =>
    dsimp only
    rw [runI_app (unmet1_step t m)]
structure Quiet (t : CertifyTable) (c : List Claim) : Prop where
  gate : ∀ k, k < t.l.length → gF t 1 k = []
  siph : ∀ k, k < t.l.length → gF t 2 k = []
  bank : ∀ z ∈ certify_cells t, bF t z = []
  tank : ∀ j, j < t.d.hours.toNat → ¬ ((t.sums.getD 0 (default : List Int)).getD (IntKind.i64.wrap ((j : Int) + 1)).toNat 0 > t.d.tank.start)
  water : ∀ z ∈ certify_cells t, wF t z = []
  unmet : ∀ h, h < t.d.hours.toNat → ∀ f, f < t.d.farms.length → uF t (claimedM c) h f = []
theorem tank_empty (t : CertifyTable) (s : List Fault) : (certify_table_tank t s = s) ↔ ∀ j, j < t.d.hours.toNat → ¬ ((t.sums.getD 0 (default : List Int)).getD (IntKind.i64.wrap ((j : Int) + 1)).toNat 0 > t.d.tank.start) := by
  unfold certify_table_tank
  cases hs : runI (certify_table_tank_l0 t s) t.d.hours.toNat 0 () with
  | inl y =>
    obtain ⟨j, _, hj, hy⟩ := runI_inl hs
    simp only [certify_table_tank_l0, Bool.cond_eq_ite, decide_eq_true_eq] at hy
    split at hy
    · rename_i hd
      refine ⟨fun e => ?_, fun h => absurd hd (h j (by rw [Nat.zero_add] at hj; exact hj))⟩
      cases hy
      unfold certify_Faults_1 at e
      have := congrArg List.length e
      simp at this
    · cases hy
  | inr y =>
    refine ⟨fun _ j hj => ?_, fun _ => rfl⟩
    have hs2 : runI (certify_table_tank_l0 t s) t.d.hours.toNat 0 () = .inr () := hs
    have := runI_unitG hs2 j (by omega) (by omega)
    simp only [certify_table_tank_l0, Bool.cond_eq_ite, decide_eq_true_eq] at this
    split at this
    · cases this
    · assumption
theorem faults_quiet {d : District} {c : List Claim} {l : List Order} (h : ((certify_Faults d c l).2 != 0) = false) : (certify_Faults d c l).1 = [] ↔ Quiet (certify_read d l).1 c := by
  obtain ⟨_, _, e⟩ := faults_eq h
  rw [e]
  generalize (certify_read d l).1 = t
  obtain ⟨T, hT, hT'⟩ := tank_run t (certify_table_banks t (certify_table_gates_1 t 2 (certify_table_gates_1 t 1 [])))
  have hq := tank_empty t (certify_table_banks t (certify_table_gates_1 t 2 (certify_table_gates_1 t 1 [])))
  rw [unmet_runM, water_run]
  rw [hT] at hq ⊢
  rw [banks_run, gates_run, gates_run, List.nil_append] at *
  rw [List.append_right_eq_self] at hq
  simp only [List.append_eq_nil_iff, hq, List.flatMap_eq_nil_iff, List.mem_range'_1]
  constructor
  · rintro ⟨⟨⟨⟨⟨g1, g2⟩, g3⟩, g4⟩, g5⟩, g6⟩
    exact ⟨fun k hk => g1 k (by omega), fun k hk => g2 k (by omega), g3, g4, g5, fun a ha b hb => g6 a (by omega) b (by omega)⟩
  · intro q
    exact ⟨⟨⟨⟨⟨fun k hk => q.gate k (by omega), fun k hk => q.siph k (by omega)⟩, q.bank⟩, q.tank⟩, q.water⟩, fun a ha b hb => q.unmet a (by omega) b (by omega)⟩
theorem accepts_iff (d : District) (c : List Claim) (l : List Order) : certify_Accepts d c l = (true, 0) ↔ claims_Check d c = 0 ∧ (certify_read d l).2 = 0 ∧ Quiet (certify_read d l).1 c := by
  unfold certify_Accepts
  have hf : (certify_Faults d c l).2 = 0 ↔ claims_Check d c = 0 ∧ (certify_read d l).2 = 0 := by
    unfold certify_Faults
    cases h1 : (claims_Check d c != 0) with
    | true => simp at h1; simp [h1]
    | false =>
      simp at h1
      simp only [cond_false, h1, true_and]
      cases h2 : ((certify_read d l).2 != 0) with
      | true => simp at h2; simp [h2]
      | false =>
        simp at h2
        simp only [cond_false, h2, iff_true]
        split
        · rename_i y _; exact y.elim
        · rfl
  by_cases h : (certify_Faults d c l).2 = 0
  · rw [← faults_quiet (by simp [h])]
    have := hf.1 h
    simp [h, this.1, this.2]
  · simp only [h, Prod.mk.injEq, and_false, false_iff]
    intro ⟨h1, h2, _⟩
    exact h (hf.2 ⟨h1, h2⟩)
theorem gF1_nil {t : CertifyTable} {k : Nat} : gF t 1 k = [] ↔ ((t.l.getD k default).outlet = true ∨ (t.l.getD k default).litres ≤ (t.d.reaches.getD (t.l.getD k default).index.toNat default).cap) := by
  unfold gF
  generalize t.l.getD k default = a
  generalize t.d.reaches.getD a.index.toNat default = b
  cases a.outlet <;> cases hd : decide (a.litres > b.cap) <;> simp at hd ⊢ <;> omega
theorem gF2_nil {t : CertifyTable} {k : Nat} : gF t 2 k = [] ↔ ((t.l.getD k default).outlet = true ∨ (t.d.reaches.getD (t.l.getD k default).index.toNat default).siphon ≤ (t.l.getD k default).litres) := by
  unfold gF
  generalize t.l.getD k default = a
  generalize t.d.reaches.getD a.index.toNat default = b
  cases a.outlet <;> cases hd : decide (a.litres < b.siphon) <;> simp at hd ⊢ <;> omega
theorem quiet_wider {d x : District} (w : Wider d x) {t : CertifyTable} (ht : t.d = d) (hx : ∀ k, k < t.l.length → 0 ≤ (t.l.getD k default).index ) {c : List Claim} (q : Quiet t c) : Quiet { t with d := x } c := by
  have hc : certify_cells { t with d := x } = certify_cells t := by unfold certify_cells; rw [ht]; dsimp only; rw [w.hours, w.len]
  have hw : ∀ z, waterW { t with d := x } z = waterW t z := fun z => by unfold waterW; rw [ht]; dsimp only; rw [w.delay]
  refine ⟨fun k hk => ?_, fun k hk => ?_, fun z hz => ?_, fun j hj => ?_, fun z hz => ?_, fun a ha b hb => ?_⟩
  · have := gF1_nil.1 (q.gate k hk)
    refine gF1_nil.2 (this.imp id fun h => ?_)
    dsimp only
    rw [ht] at h
    have hm := w.cap0 (t.l.getD k default).index.toNat
    omega
  · have := gF2_nil.1 (q.siph k hk)
    refine gF2_nil.2 (this.imp id fun h => ?_)
    dsimp only
    rw [ht] at h
    rw [w.siphon]
    exact h
  · rw [hc] at hz
    have := q.bank z hz
    unfold bF at this ⊢
    rw [hw]
    rw [ht] at this
    dsimp only at this ⊢
    have hm := w.bank0 z.2.toNat
    simp only [Bool.cond_eq_ite, decide_eq_true_eq] at this ⊢
    split at this
    · cases this
    · rw [if_neg (by omega)]
  · have hj' : j < t.d.hours.toNat := by rw [ht]; dsimp only at hj; rw [w.hours] at hj; exact hj
    have := q.tank j hj'
    rw [ht] at this
    have := w.start
    dsimp only
    omega
  · rw [hc] at hz
    have := q.water z hz
    unfold wF at this ⊢
    have ha : ∀ r h, certify_table_arrives { t with d := x } r h = certify_table_arrives t r h := fun r h => by
      unfold certify_table_arrives losses_Worst losses_valid losses_lost
      dsimp only
      rw [ht, w.delay, w.evap, w.seep]
    rw [ha]
    exact this
  · dsimp only at ha hb
    rw [w.hours, ← ht] at ha
    rw [w.farms, ← ht] at hb
    exact q.unmet a ha b hb
theorem accepts_wider {d x : District} (w : Wider d x) {c : List Claim} {l : List Order} (h : certify_Accepts d c l = (true, 0)) : certify_Accepts x c l = (true, 0) := by
  rw [accepts_iff] at h ⊢
  have hr := read_wider w h.2.1
  have ht := read_table (d := d) (l := l) (by simp [h.2.1])
  rw [hr]
  refine ⟨claims_wider w h.1, rfl, quiet_wider w ht.td (fun k hk => ?_) h.2.2⟩
  rw [ht.tl] at hk ⊢
  exact (ht.ords.one k hk).index0
end Go.Sx
end
section
namespace Go.Sx
open Go.Proofs
def clt (a b : Claim) : Prop := a.hour < b.hour ∨ a.hour = b.hour ∧ (a.rank < b.rank ∨ a.rank = b.rank ∧ (a.right < b.right ∨ a.right = b.right ∧ a.farm < b.farm))
theorem getD_el {α : Type} (l : List α) (d : α) {n : Nat} (h : n < l.length) : l.getD n d = l[n] := by
  rw [List.getD_eq_getElem?_getD, List.getElem?_eq_getElem h]; rfl
theorem clt_trans {a b c : Claim} (h1 : clt a b) (h2 : clt b c) : clt a c := by
  unfold clt at *; omega
theorem first4 (a b c d : Int) : claims_first [a, b, c, d] = if a ≠ 0 then a else if b ≠ 0 then b else if c ≠ 0 then c else d := by
  unfold claims_first
  simp only [List.length_cons, List.length_nil, Nat.zero_add, Nat.reduceAdd, runI, claims_first_l0, List.getD_cons_zero, List.getD_cons_succ]
  by_cases h1 : a = 0 <;> by_cases h2 : b = 0 <;> by_cases h3 : c = 0 <;> by_cases h4 : d = 0 <;> simp [h1, h2, h3, h4, Bool.cond_eq_ite]
theorem claims_lt (a b : Claim) : claims_order a b < 0 ↔ clt a b := by
  unfold claims_order clt
  rw [first4]
  simp only [compare_neg]
  repeat' split
  all_goals (first | omega | skip)
def okC (d : District) (a : Claim) : Bool := (((((((((decide (a.right ≥ 0)) && (decide (a.right < (d.rights.length : Int)))) && (decide (a.farm ≥ 0))) && (decide (a.farm < (d.farms.length : Int)))) && (decide (a.hour ≥ 0))) && (decide (a.hour < d.hours))) && (decide (a.litres ≥ 1))) && (decide (a.litres ≤ 1073741824)))) && ((d.rights.getD a.right.toNat default).kind == 1) && ((d.rights.getD a.right.toNat default).rank == a.rank)
theorem claims_step {d : District} {c : List Claim} {k : Nat} (hk : k < 4096) : claims_Check_l0 d c k () = .inr () ↔ okC d (c.getD k default) = true ∧ (0 < k → clt (c.getD (k - 1) default) (c.getD k default)) := by
  have hw : k > 0 → (IntKind.i64.wrap ((k : Int) - 1)).toNat = k - 1 := fun h => by rw [wrap_pred (by omega) h]; simp
  have hb : ∀ X : Bool, ((bif X then Sum.inl () else Sum.inr ()) : Unit ⊕ Unit) = .inr () ↔ X = false := fun X => by cases X <;> simp
  unfold claims_Check_l0 okC
  rw [hb]
  generalize hq : ((((((((decide ((c.getD k default).right ≥ 0)) && (decide ((c.getD k default).right < (d.rights.length : Int)))) && (decide ((c.getD k default).farm ≥ 0))) && (decide ((c.getD k default).farm < (d.farms.length : Int)))) && (decide ((c.getD k default).hour ≥ 0))) && (decide ((c.getD k default).hour < d.hours))) && (decide ((c.getD k default).litres ≥ 1))) && (decide ((c.getD k default).litres ≤ 1073741824))) = q
  clear hq
  by_cases h0 : 0 < k
  · rw [hw h0, ← claims_lt]
    have hp : decide ((k : Int) > 0) = true := by simp; omega
    rw [hp]
    simp only [Bool.or_eq_false_iff, Bool.and_eq_true, Bool.not_eq_false', Bool.true_and, bne_eq_false_iff_eq, beq_iff_eq, decide_eq_false_iff_not, h0, true_imp_iff]
    generalize claims_order (c.getD (k - 1) default) (c.getD k default) = z
    constructor
    · rintro ⟨⟨⟨h1, h2⟩, h3⟩, h4⟩; exact ⟨⟨⟨h1, h2⟩, h3⟩, by omega⟩
    · rintro ⟨⟨⟨h1, h2⟩, h3⟩, h4⟩; exact ⟨⟨⟨h1, h2⟩, h3⟩, by omega⟩
  · have hp : decide ((k : Int) > 0) = false := by simp; omega
    rw [hp]
    simp only [Bool.or_eq_false_iff, Bool.and_eq_true, Bool.not_eq_false', Bool.false_and, bne_eq_false_iff_eq, beq_iff_eq, h0, false_imp_iff, and_true]
theorem claims_iff (d : District) (c : List Claim) : claims_Check d c = 0 ↔ expand_Check d = 0 ∧ c.length ≤ 4096 ∧ (∀ a ∈ c, okC d a = true) ∧ c.Pairwise clt := by
  rw [claims_split]
  refine and_congr_right fun _ => and_congr_right fun hl => ?_
  constructor
  · intro h
    have hs := fun k hk => (claims_step (by omega)).1 (h k hk)
    refine ⟨fun a ha => ?_, ?_⟩
    · obtain ⟨k, hk, rfl⟩ := List.getElem_of_mem ha
      have := (hs k hk).1
      rwa [getD_el _ _ hk] at this
    · have key : ∀ (k j : Nat), j < k → k < c.length → clt (c.getD j default) (c.getD k default) := by
        intro k
        induction k with
        | zero => intro j h1; omega
        | succ k ih =>
          intro j h1 h2
          have h3 := (hs (k + 1) h2).2 (by omega)
          rw [Nat.add_sub_cancel] at h3
          by_cases e : j = k
          · subst e; exact h3
          · exact clt_trans (ih j (by omega) (by omega)) h3
      rw [List.pairwise_iff_getElem]
      intro i j hi hj hij
      have := key j i hij hj
      rwa [getD_el _ _ hi, getD_el _ _ hj] at this
  · rintro ⟨h1, h2⟩ k hk
    refine (claims_step (by omega)).2 ⟨?_, fun h0 => ?_⟩
    · rw [getD_el _ _ hk]; exact h1 _ (List.getElem_mem _)
    · rw [getD_el _ _ hk, getD_el _ _ (by omega : k - 1 < c.length)]
      exact List.pairwise_iff_getElem.1 h2 _ _ _ _ (by omega)
theorem mget_mupd {κ υ : Type} [DecidableEq κ] (l : List (κ × υ)) (x z : κ) (y : υ) : mget (mupd l x y) z = if z = x then some y else mget l z := by
  induction l with
  | nil => simp [mupd, mget]
  | cons a r ih =>
    obtain ⟨a, b⟩ := a
    unfold mupd
    by_cases h : x = a
    · subst h
      simp only [if_pos]
      unfold mget
      by_cases hz : z = x <;> simp [hz]
    · rw [if_neg h]
      unfold mget
      by_cases hz : z = a
      · subst hz
        rw [if_pos rfl, if_neg (fun e => h e.symm), if_pos rfl]
      · rw [if_neg hz, ih, if_neg hz]
theorem mgetT_mupdT {k : Tag} (l : List (k.T × Int)) (x z : k.T) (y : Int) : mgetT k .int (mupdT k .int l x y) z = if z = x then y else mgetT k .int l z := by
  unfold mgetT mupdT
  rw [mget_mupd]
  by_cases h : z = x <;> simp [h]
def placeC (a : Claim) : CertifyPlace := { hour := a.hour, index := a.farm, outlet := true }
def claimed (p : CertifyPlace) : List Claim → Int
  | [] => 0
  | a :: r => (if p = placeC a then a.litres else 0) + claimed p r
theorem claimed_app (p : CertifyPlace) (a b : List Claim) : claimed p (a ++ b) = claimed p a + claimed p b := by
  induction a with
  | nil => simp [claimed]
  | cons x r ih => simp only [List.cons_append, claimed, ih]; omega
theorem claimed_bound (p : CertifyPlace) (c : List Claim) (h : ∀ a ∈ c, 1 ≤ a.litres ∧ a.litres ≤ 1073741824) : 0 ≤ claimed p c ∧ claimed p c ≤ c.length * 1073741824 := by
  induction c with
  | nil => simp [claimed]
  | cons x r ih =>
    have h1 := ih fun a ha => h a (List.mem_cons_of_mem _ ha)
    have h2 := h x List.mem_cons_self
    simp only [claimed, List.length_cons]
    split <;> omega
theorem claimedM_get {c : List Claim} (hl : c.length ≤ 4096) (h : ∀ a ∈ c, 1 ≤ a.litres ∧ a.litres ≤ 1073741824) (p : CertifyPlace) : mgetT .certifyPlace .int (claimedM c) p = claimed p c := by
  unfold claimedM
  cases hs : runI (certify_table_unmet_1_l0 c) c.length 0 [] with
  | inl x => exact x.elim
  | inr m =>
    have := runI_inv (fun j s => ∀ p, mgetT .certifyPlace .int s p = claimed p (c.take j)) _ _ _ (fun p => by simp [claimed, mgetT, mget, dflt]) (fun j s _ hj hg s' hs' p => by
      have hj : j < c.length := by omega
      unfold certify_table_unmet_1_l0 at hs'
      simp only [Sum.inr.injEq] at hs'
      subst hs'
      rw [getD_el _ _ hj]
      have e : ∀ q, claimed q (c.take (j + 1)) = claimed q (c.take j) + (if q = placeC c[j] then c[j].litres else 0) := fun q => by
        rw [List.take_succ_eq_append_getElem hj, claimed_app]
        simp [claimed]
      have hb := claimed_bound (placeC c[j]) (c.take j) fun a ha => h a (List.mem_of_mem_take ha)
      have hb2 := h c[j] (List.getElem_mem _)
      have hb3 : (c.take j).length ≤ 4096 := by rw [List.length_take]; omega
      rw [mgetT_mupdT, e p]
      have hg2 := hg (placeC c[j])
      unfold placeC at hg2 hb ⊢
      rw [hg2]
      split
      · rename_i e; rw [e, wrapI (by omega) (by omega)]
      · rw [hg]; exact (Int.add_zero _).symm) m hs
    have := this p
    rw [Nat.zero_add, List.take_length] at this
    exact this
theorem okC_litres {d : District} {a : Claim} (h : okC d a = true) : 1 ≤ a.litres ∧ a.litres ≤ 1073741824 := by
  unfold okC at h
  simp only [Bool.and_eq_true, decide_eq_true_eq] at h
  omega
theorem uF_nil {t : CertifyTable} {m : List (CertifyPlace × Int)} {h f : Nat} : uF t m h f = [] ↔ ¬ (mgetT .certifyPlace .int t.litres { hour := (h : Int), index := (f : Int), outlet := true } < mgetT .certifyPlace .int m { hour := (h : Int), index := (f : Int), outlet := true }) := by
  unfold uF
  rw [Bool.cond_eq_ite]
  split <;> simp_all
theorem accepts_fewer {d : District} {c c' : List Claim} {l : List Order} (h : certify_Accepts d c l = (true, 0)) (hl : c'.length ≤ c.length) (ho : ∀ a ∈ c', okC d a = true) (hs : c'.Pairwise clt) (hm : ∀ p, claimed p c' ≤ claimed p c) : certify_Accepts d c' l = (true, 0) := by
  rw [accepts_iff] at h ⊢
  have h1 := (claims_iff d c).1 h.1
  refine ⟨(claims_iff d c').2 ⟨h1.1, by omega, ho, hs⟩, h.2.1, ?_⟩
  obtain ⟨q1, q2, q3, q4, q5, q6⟩ := h.2.2
  refine ⟨q1, q2, q3, q4, q5, fun a ha b hb => ?_⟩
  have := uF_nil.1 (q6 a ha b hb)
  refine uF_nil.2 ?_
  rw [claimedM_get (by omega) fun a ha => okC_litres (h1.2.2.1 a ha)] at this
  rw [claimedM_get (by omega) fun a ha => okC_litres (ho a ha)]
  have h3 := hm { hour := (a : Int), index := (b : Int), outlet := true }
  exact fun h4 => this (Int.lt_of_lt_of_le h4 h3)
end Go.Sx
end
section
namespace Go.Sx
universe u
section
variable {α : Type u}
def pV (k : Int → List SV → Option α) : List SV → Option α
  | .v (.int .u8 n) :: r => k n r
  | _ => none
@[go_sem] theorem pV_cons {k : Int → List SV → Option α} {n : Int} {r : List SV} : pV k (.v (.int .u8 n) :: r) = k n r := (rfl)
theorem pV_inv {k : Int → List SV → Option α} {l : List SV} {c : α} (h : pV k l = some c) : ∃ n r, l = .v (.int .u8 n) :: r ∧ k n r = some c := by
  unfold pV at h
  split at h
  · exact ⟨_, _, rfl, h⟩
  · cases h
end
end Go.Sx
end
section
namespace Go.Sx
open Go.Proofs
set_option maxRecDepth 100000
set_option linter.unusedSimpArgs false
def law28_CertifyLess (a0 : District) (a1 : List Claim) (a2 : List Order) (a3 : Int) (a4 : Int) : Bool := (bif (!law28_sane) then false else (bif (!(ref28_Few a0 a1 a2)) then true else (bif (((certify_Accepts a0 a1 a2).2 != 0) || (!(certify_Accepts a0 a1 a2).1)) then true else (bif (((certify_Accepts ({ name := a0.name, hours := a0.hours, tank := ({ cap := (if (IntKind.i64.wrap (a0.tank.cap + (IntKind.i64.wrap a4))) < 1099511627776 then (IntKind.i64.wrap (a0.tank.cap + (IntKind.i64.wrap a4))) else 1099511627776), start := (if (IntKind.i64.wrap (a0.tank.start + (IntKind.i64.wrap a4))) < (if (IntKind.i64.wrap (a0.tank.cap + (IntKind.i64.wrap a4))) < 1099511627776 then (IntKind.i64.wrap (a0.tank.cap + (IntKind.i64.wrap a4))) else 1099511627776) then (IntKind.i64.wrap (a0.tank.start + (IntKind.i64.wrap a4))) else (if (IntKind.i64.wrap (a0.tank.cap + (IntKind.i64.wrap a4))) < 1099511627776 then (IntKind.i64.wrap (a0.tank.cap + (IntKind.i64.wrap a4))) else 1099511627776)) } : Tank), reaches := (((([]) ++ a0.reaches).set (Int.toNat (Int.tmod (IntKind.i64.wrap a3) ((([]) ++ a0.reaches).length : Int))) ({ name := ((([]) ++ a0.reaches).getD (Int.toNat (Int.tmod (IntKind.i64.wrap a3) ((([]) ++ a0.reaches).length : Int))) (default : Reach)).name, up := ((([]) ++ a0.reaches).getD (Int.toNat (Int.tmod (IntKind.i64.wrap a3) ((([]) ++ a0.reaches).length : Int))) (default : Reach)).up, delay := ((([]) ++ a0.reaches).getD (Int.toNat (Int.tmod (IntKind.i64.wrap a3) ((([]) ++ a0.reaches).length : Int))) (default : Reach)).delay, cap := (if (IntKind.i64.wrap (((([]) ++ a0.reaches).getD (Int.toNat (Int.tmod (IntKind.i64.wrap a3) ((([]) ++ a0.reaches).length : Int))) (default : Reach)).cap + (IntKind.i64.wrap a4))) < 1073741824 then (IntKind.i64.wrap (((([]) ++ a0.reaches).getD (Int.toNat (Int.tmod (IntKind.i64.wrap a3) ((([]) ++ a0.reaches).length : Int))) (default : Reach)).cap + (IntKind.i64.wrap a4))) else 1073741824), bank := ((([]) ++ a0.reaches).getD (Int.toNat (Int.tmod (IntKind.i64.wrap a3) ((([]) ++ a0.reaches).length : Int))) (default : Reach)).bank, siphon := ((([]) ++ a0.reaches).getD (Int.toNat (Int.tmod (IntKind.i64.wrap a3) ((([]) ++ a0.reaches).length : Int))) (default : Reach)).siphon, evap := ((([]) ++ a0.reaches).getD (Int.toNat (Int.tmod (IntKind.i64.wrap a3) ((([]) ++ a0.reaches).length : Int))) (default : Reach)).evap, seep := ((([]) ++ a0.reaches).getD (Int.toNat (Int.tmod (IntKind.i64.wrap a3) ((([]) ++ a0.reaches).length : Int))) (default : Reach)).seep } : Reach)).set (Int.toNat (Int.tmod (IntKind.i64.wrap a3) ((([]) ++ a0.reaches).length : Int))) ({ name := (((([]) ++ a0.reaches).set (Int.toNat (Int.tmod (IntKind.i64.wrap a3) ((([]) ++ a0.reaches).length : Int))) ({ name := ((([]) ++ a0.reaches).getD (Int.toNat (Int.tmod (IntKind.i64.wrap a3) ((([]) ++ a0.reaches).length : Int))) (default : Reach)).name, up := ((([]) ++ a0.reaches).getD (Int.toNat (Int.tmod (IntKind.i64.wrap a3) ((([]) ++ a0.reaches).length : Int))) (default : Reach)).up, delay := ((([]) ++ a0.reaches).getD (Int.toNat (Int.tmod (IntKind.i64.wrap a3) ((([]) ++ a0.reaches).length : Int))) (default : Reach)).delay, cap := (if (IntKind.i64.wrap (((([]) ++ a0.reaches).getD (Int.toNat (Int.tmod (IntKind.i64.wrap a3) ((([]) ++ a0.reaches).length : Int))) (default : Reach)).cap + (IntKind.i64.wrap a4))) < 1073741824 then (IntKind.i64.wrap (((([]) ++ a0.reaches).getD (Int.toNat (Int.tmod (IntKind.i64.wrap a3) ((([]) ++ a0.reaches).length : Int))) (default : Reach)).cap + (IntKind.i64.wrap a4))) else 1073741824), bank := ((([]) ++ a0.reaches).getD (Int.toNat (Int.tmod (IntKind.i64.wrap a3) ((([]) ++ a0.reaches).length : Int))) (default : Reach)).bank, siphon := ((([]) ++ a0.reaches).getD (Int.toNat (Int.tmod (IntKind.i64.wrap a3) ((([]) ++ a0.reaches).length : Int))) (default : Reach)).siphon, evap := ((([]) ++ a0.reaches).getD (Int.toNat (Int.tmod (IntKind.i64.wrap a3) ((([]) ++ a0.reaches).length : Int))) (default : Reach)).evap, seep := ((([]) ++ a0.reaches).getD (Int.toNat (Int.tmod (IntKind.i64.wrap a3) ((([]) ++ a0.reaches).length : Int))) (default : Reach)).seep } : Reach)).getD (Int.toNat (Int.tmod (IntKind.i64.wrap a3) ((([]) ++ a0.reaches).length : Int))) (default : Reach)).name, up := (((([]) ++ a0.reaches).set (Int.toNat (Int.tmod (IntKind.i64.wrap a3) ((([]) ++ a0.reaches).length : Int))) ({ name := ((([]) ++ a0.reaches).getD (Int.toNat (Int.tmod (IntKind.i64.wrap a3) ((([]) ++ a0.reaches).length : Int))) (default : Reach)).name, up := ((([]) ++ a0.reaches).getD (Int.toNat (Int.tmod (IntKind.i64.wrap a3) ((([]) ++ a0.reaches).length : Int))) (default : Reach)).up, delay := ((([]) ++ a0.reaches).getD (Int.toNat (Int.tmod (IntKind.i64.wrap a3) ((([]) ++ a0.reaches).length : Int))) (default : Reach)).delay, cap := (if (IntKind.i64.wrap (((([]) ++ a0.reaches).getD (Int.toNat (Int.tmod (IntKind.i64.wrap a3) ((([]) ++ a0.reaches).length : Int))) (default : Reach)).cap + (IntKind.i64.wrap a4))) < 1073741824 then (IntKind.i64.wrap (((([]) ++ a0.reaches).getD (Int.toNat (Int.tmod (IntKind.i64.wrap a3) ((([]) ++ a0.reaches).length : Int))) (default : Reach)).cap + (IntKind.i64.wrap a4))) else 1073741824), bank := ((([]) ++ a0.reaches).getD (Int.toNat (Int.tmod (IntKind.i64.wrap a3) ((([]) ++ a0.reaches).length : Int))) (default : Reach)).bank, siphon := ((([]) ++ a0.reaches).getD (Int.toNat (Int.tmod (IntKind.i64.wrap a3) ((([]) ++ a0.reaches).length : Int))) (default : Reach)).siphon, evap := ((([]) ++ a0.reaches).getD (Int.toNat (Int.tmod (IntKind.i64.wrap a3) ((([]) ++ a0.reaches).length : Int))) (default : Reach)).evap, seep := ((([]) ++ a0.reaches).getD (Int.toNat (Int.tmod (IntKind.i64.wrap a3) ((([]) ++ a0.reaches).length : Int))) (default : Reach)).seep } : Reach)).getD (Int.toNat (Int.tmod (IntKind.i64.wrap a3) ((([]) ++ a0.reaches).length : Int))) (default : Reach)).up, delay := (((([]) ++ a0.reaches).set (Int.toNat (Int.tmod (IntKind.i64.wrap a3) ((([]) ++ a0.reaches).length : Int))) ({ name := ((([]) ++ a0.reaches).getD (Int.toNat (Int.tmod (IntKind.i64.wrap a3) ((([]) ++ a0.reaches).length : Int))) (default : Reach)).name, up := ((([]) ++ a0.reaches).getD (Int.toNat (Int.tmod (IntKind.i64.wrap a3) ((([]) ++ a0.reaches).length : Int))) (default : Reach)).up, delay := ((([]) ++ a0.reaches).getD (Int.toNat (Int.tmod (IntKind.i64.wrap a3) ((([]) ++ a0.reaches).length : Int))) (default : Reach)).delay, cap := (if (IntKind.i64.wrap (((([]) ++ a0.reaches).getD (Int.toNat (Int.tmod (IntKind.i64.wrap a3) ((([]) ++ a0.reaches).length : Int))) (default : Reach)).cap + (IntKind.i64.wrap a4))) < 1073741824 then (IntKind.i64.wrap (((([]) ++ a0.reaches).getD (Int.toNat (Int.tmod (IntKind.i64.wrap a3) ((([]) ++ a0.reaches).length : Int))) (default : Reach)).cap + (IntKind.i64.wrap a4))) else 1073741824), bank := ((([]) ++ a0.reaches).getD (Int.toNat (Int.tmod (IntKind.i64.wrap a3) ((([]) ++ a0.reaches).length : Int))) (default : Reach)).bank, siphon := ((([]) ++ a0.reaches).getD (Int.toNat (Int.tmod (IntKind.i64.wrap a3) ((([]) ++ a0.reaches).length : Int))) (default : Reach)).siphon, evap := ((([]) ++ a0.reaches).getD (Int.toNat (Int.tmod (IntKind.i64.wrap a3) ((([]) ++ a0.reaches).length : Int))) (default : Reach)).evap, seep := ((([]) ++ a0.reaches).getD (Int.toNat (Int.tmod (IntKind.i64.wrap a3) ((([]) ++ a0.reaches).length : Int))) (default : Reach)).seep } : Reach)).getD (Int.toNat (Int.tmod (IntKind.i64.wrap a3) ((([]) ++ a0.reaches).length : Int))) (default : Reach)).delay, cap := (((([]) ++ a0.reaches).set (Int.toNat (Int.tmod (IntKind.i64.wrap a3) ((([]) ++ a0.reaches).length : Int))) ({ name := ((([]) ++ a0.reaches).getD (Int.toNat (Int.tmod (IntKind.i64.wrap a3) ((([]) ++ a0.reaches).length : Int))) (default : Reach)).name, up := ((([]) ++ a0.reaches).getD (Int.toNat (Int.tmod (IntKind.i64.wrap a3) ((([]) ++ a0.reaches).length : Int))) (default : Reach)).up, delay := ((([]) ++ a0.reaches).getD (Int.toNat (Int.tmod (IntKind.i64.wrap a3) ((([]) ++ a0.reaches).length : Int))) (default : Reach)).delay, cap := (if (IntKind.i64.wrap (((([]) ++ a0.reaches).getD (Int.toNat (Int.tmod (IntKind.i64.wrap a3) ((([]) ++ a0.reaches).length : Int))) (default : Reach)).cap + (IntKind.i64.wrap a4))) < 1073741824 then (IntKind.i64.wrap (((([]) ++ a0.reaches).getD (Int.toNat (Int.tmod (IntKind.i64.wrap a3) ((([]) ++ a0.reaches).length : Int))) (default : Reach)).cap + (IntKind.i64.wrap a4))) else 1073741824), bank := ((([]) ++ a0.reaches).getD (Int.toNat (Int.tmod (IntKind.i64.wrap a3) ((([]) ++ a0.reaches).length : Int))) (default : Reach)).bank, siphon := ((([]) ++ a0.reaches).getD (Int.toNat (Int.tmod (IntKind.i64.wrap a3) ((([]) ++ a0.reaches).length : Int))) (default : Reach)).siphon, evap := ((([]) ++ a0.reaches).getD (Int.toNat (Int.tmod (IntKind.i64.wrap a3) ((([]) ++ a0.reaches).length : Int))) (default : Reach)).evap, seep := ((([]) ++ a0.reaches).getD (Int.toNat (Int.tmod (IntKind.i64.wrap a3) ((([]) ++ a0.reaches).length : Int))) (default : Reach)).seep } : Reach)).getD (Int.toNat (Int.tmod (IntKind.i64.wrap a3) ((([]) ++ a0.reaches).length : Int))) (default : Reach)).cap, bank := (if (IntKind.i64.wrap (((([]) ++ a0.reaches).getD (Int.toNat (Int.tmod (IntKind.i64.wrap a3) ((([]) ++ a0.reaches).length : Int))) (default : Reach)).bank + (IntKind.i64.wrap a4))) < 1099511627776 then (IntKind.i64.wrap (((([]) ++ a0.reaches).getD (Int.toNat (Int.tmod (IntKind.i64.wrap a3) ((([]) ++ a0.reaches).length : Int))) (default : Reach)).bank + (IntKind.i64.wrap a4))) else 1099511627776), siphon := (((([]) ++ a0.reaches).set (Int.toNat (Int.tmod (IntKind.i64.wrap a3) ((([]) ++ a0.reaches).length : Int))) ({ name := ((([]) ++ a0.reaches).getD (Int.toNat (Int.tmod (IntKind.i64.wrap a3) ((([]) ++ a0.reaches).length : Int))) (default : Reach)).name, up := ((([]) ++ a0.reaches).getD (Int.toNat (Int.tmod (IntKind.i64.wrap a3) ((([]) ++ a0.reaches).length : Int))) (default : Reach)).up, delay := ((([]) ++ a0.reaches).getD (Int.toNat (Int.tmod (IntKind.i64.wrap a3) ((([]) ++ a0.reaches).length : Int))) (default : Reach)).delay, cap := (if (IntKind.i64.wrap (((([]) ++ a0.reaches).getD (Int.toNat (Int.tmod (IntKind.i64.wrap a3) ((([]) ++ a0.reaches).length : Int))) (default : Reach)).cap + (IntKind.i64.wrap a4))) < 1073741824 then (IntKind.i64.wrap (((([]) ++ a0.reaches).getD (Int.toNat (Int.tmod (IntKind.i64.wrap a3) ((([]) ++ a0.reaches).length : Int))) (default : Reach)).cap + (IntKind.i64.wrap a4))) else 1073741824), bank := ((([]) ++ a0.reaches).getD (Int.toNat (Int.tmod (IntKind.i64.wrap a3) ((([]) ++ a0.reaches).length : Int))) (default : Reach)).bank, siphon := ((([]) ++ a0.reaches).getD (Int.toNat (Int.tmod (IntKind.i64.wrap a3) ((([]) ++ a0.reaches).length : Int))) (default : Reach)).siphon, evap := ((([]) ++ a0.reaches).getD (Int.toNat (Int.tmod (IntKind.i64.wrap a3) ((([]) ++ a0.reaches).length : Int))) (default : Reach)).evap, seep := ((([]) ++ a0.reaches).getD (Int.toNat (Int.tmod (IntKind.i64.wrap a3) ((([]) ++ a0.reaches).length : Int))) (default : Reach)).seep } : Reach)).getD (Int.toNat (Int.tmod (IntKind.i64.wrap a3) ((([]) ++ a0.reaches).length : Int))) (default : Reach)).siphon, evap := (((([]) ++ a0.reaches).set (Int.toNat (Int.tmod (IntKind.i64.wrap a3) ((([]) ++ a0.reaches).length : Int))) ({ name := ((([]) ++ a0.reaches).getD (Int.toNat (Int.tmod (IntKind.i64.wrap a3) ((([]) ++ a0.reaches).length : Int))) (default : Reach)).name, up := ((([]) ++ a0.reaches).getD (Int.toNat (Int.tmod (IntKind.i64.wrap a3) ((([]) ++ a0.reaches).length : Int))) (default : Reach)).up, delay := ((([]) ++ a0.reaches).getD (Int.toNat (Int.tmod (IntKind.i64.wrap a3) ((([]) ++ a0.reaches).length : Int))) (default : Reach)).delay, cap := (if (IntKind.i64.wrap (((([]) ++ a0.reaches).getD (Int.toNat (Int.tmod (IntKind.i64.wrap a3) ((([]) ++ a0.reaches).length : Int))) (default : Reach)).cap + (IntKind.i64.wrap a4))) < 1073741824 then (IntKind.i64.wrap (((([]) ++ a0.reaches).getD (Int.toNat (Int.tmod (IntKind.i64.wrap a3) ((([]) ++ a0.reaches).length : Int))) (default : Reach)).cap + (IntKind.i64.wrap a4))) else 1073741824), bank := ((([]) ++ a0.reaches).getD (Int.toNat (Int.tmod (IntKind.i64.wrap a3) ((([]) ++ a0.reaches).length : Int))) (default : Reach)).bank, siphon := ((([]) ++ a0.reaches).getD (Int.toNat (Int.tmod (IntKind.i64.wrap a3) ((([]) ++ a0.reaches).length : Int))) (default : Reach)).siphon, evap := ((([]) ++ a0.reaches).getD (Int.toNat (Int.tmod (IntKind.i64.wrap a3) ((([]) ++ a0.reaches).length : Int))) (default : Reach)).evap, seep := ((([]) ++ a0.reaches).getD (Int.toNat (Int.tmod (IntKind.i64.wrap a3) ((([]) ++ a0.reaches).length : Int))) (default : Reach)).seep } : Reach)).getD (Int.toNat (Int.tmod (IntKind.i64.wrap a3) ((([]) ++ a0.reaches).length : Int))) (default : Reach)).evap, seep := (((([]) ++ a0.reaches).set (Int.toNat (Int.tmod (IntKind.i64.wrap a3) ((([]) ++ a0.reaches).length : Int))) ({ name := ((([]) ++ a0.reaches).getD (Int.toNat (Int.tmod (IntKind.i64.wrap a3) ((([]) ++ a0.reaches).length : Int))) (default : Reach)).name, up := ((([]) ++ a0.reaches).getD (Int.toNat (Int.tmod (IntKind.i64.wrap a3) ((([]) ++ a0.reaches).length : Int))) (default : Reach)).up, delay := ((([]) ++ a0.reaches).getD (Int.toNat (Int.tmod (IntKind.i64.wrap a3) ((([]) ++ a0.reaches).length : Int))) (default : Reach)).delay, cap := (if (IntKind.i64.wrap (((([]) ++ a0.reaches).getD (Int.toNat (Int.tmod (IntKind.i64.wrap a3) ((([]) ++ a0.reaches).length : Int))) (default : Reach)).cap + (IntKind.i64.wrap a4))) < 1073741824 then (IntKind.i64.wrap (((([]) ++ a0.reaches).getD (Int.toNat (Int.tmod (IntKind.i64.wrap a3) ((([]) ++ a0.reaches).length : Int))) (default : Reach)).cap + (IntKind.i64.wrap a4))) else 1073741824), bank := ((([]) ++ a0.reaches).getD (Int.toNat (Int.tmod (IntKind.i64.wrap a3) ((([]) ++ a0.reaches).length : Int))) (default : Reach)).bank, siphon := ((([]) ++ a0.reaches).getD (Int.toNat (Int.tmod (IntKind.i64.wrap a3) ((([]) ++ a0.reaches).length : Int))) (default : Reach)).siphon, evap := ((([]) ++ a0.reaches).getD (Int.toNat (Int.tmod (IntKind.i64.wrap a3) ((([]) ++ a0.reaches).length : Int))) (default : Reach)).evap, seep := ((([]) ++ a0.reaches).getD (Int.toNat (Int.tmod (IntKind.i64.wrap a3) ((([]) ++ a0.reaches).length : Int))) (default : Reach)).seep } : Reach)).getD (Int.toNat (Int.tmod (IntKind.i64.wrap a3) ((([]) ++ a0.reaches).length : Int))) (default : Reach)).seep } : Reach)), farms := a0.farms, crops := a0.crops, rights := a0.rights, duties := a0.duties, wells := a0.wells } : District) a1 a2).2 != 0) || (!(certify_Accepts ({ name := a0.name, hours := a0.hours, tank := ({ cap := (if (IntKind.i64.wrap (a0.tank.cap + (IntKind.i64.wrap a4))) < 1099511627776 then (IntKind.i64.wrap (a0.tank.cap + (IntKind.i64.wrap a4))) else 1099511627776), start := (if (IntKind.i64.wrap (a0.tank.start + (IntKind.i64.wrap a4))) < (if (IntKind.i64.wrap (a0.tank.cap + (IntKind.i64.wrap a4))) < 1099511627776 then (IntKind.i64.wrap (a0.tank.cap + (IntKind.i64.wrap a4))) else 1099511627776) then (IntKind.i64.wrap (a0.tank.start + (IntKind.i64.wrap a4))) else (if (IntKind.i64.wrap (a0.tank.cap + (IntKind.i64.wrap a4))) < 1099511627776 then (IntKind.i64.wrap (a0.tank.cap + (IntKind.i64.wrap a4))) else 1099511627776)) } : Tank), reaches := (((([]) ++ a0.reaches).set (Int.toNat (Int.tmod (IntKind.i64.wrap a3) ((([]) ++ a0.reaches).length : Int))) ({ name := ((([]) ++ a0.reaches).getD (Int.toNat (Int.tmod (IntKind.i64.wrap a3) ((([]) ++ a0.reaches).length : Int))) (default : Reach)).name, up := ((([]) ++ a0.reaches).getD (Int.toNat (Int.tmod (IntKind.i64.wrap a3) ((([]) ++ a0.reaches).length : Int))) (default : Reach)).up, delay := ((([]) ++ a0.reaches).getD (Int.toNat (Int.tmod (IntKind.i64.wrap a3) ((([]) ++ a0.reaches).length : Int))) (default : Reach)).delay, cap := (if (IntKind.i64.wrap (((([]) ++ a0.reaches).getD (Int.toNat (Int.tmod (IntKind.i64.wrap a3) ((([]) ++ a0.reaches).length : Int))) (default : Reach)).cap + (IntKind.i64.wrap a4))) < 1073741824 then (IntKind.i64.wrap (((([]) ++ a0.reaches).getD (Int.toNat (Int.tmod (IntKind.i64.wrap a3) ((([]) ++ a0.reaches).length : Int))) (default : Reach)).cap + (IntKind.i64.wrap a4))) else 1073741824), bank := ((([]) ++ a0.reaches).getD (Int.toNat (Int.tmod (IntKind.i64.wrap a3) ((([]) ++ a0.reaches).length : Int))) (default : Reach)).bank, siphon := ((([]) ++ a0.reaches).getD (Int.toNat (Int.tmod (IntKind.i64.wrap a3) ((([]) ++ a0.reaches).length : Int))) (default : Reach)).siphon, evap := ((([]) ++ a0.reaches).getD (Int.toNat (Int.tmod (IntKind.i64.wrap a3) ((([]) ++ a0.reaches).length : Int))) (default : Reach)).evap, seep := ((([]) ++ a0.reaches).getD (Int.toNat (Int.tmod (IntKind.i64.wrap a3) ((([]) ++ a0.reaches).length : Int))) (default : Reach)).seep } : Reach)).set (Int.toNat (Int.tmod (IntKind.i64.wrap a3) ((([]) ++ a0.reaches).length : Int))) ({ name := (((([]) ++ a0.reaches).set (Int.toNat (Int.tmod (IntKind.i64.wrap a3) ((([]) ++ a0.reaches).length : Int))) ({ name := ((([]) ++ a0.reaches).getD (Int.toNat (Int.tmod (IntKind.i64.wrap a3) ((([]) ++ a0.reaches).length : Int))) (default : Reach)).name, up := ((([]) ++ a0.reaches).getD (Int.toNat (Int.tmod (IntKind.i64.wrap a3) ((([]) ++ a0.reaches).length : Int))) (default : Reach)).up, delay := ((([]) ++ a0.reaches).getD (Int.toNat (Int.tmod (IntKind.i64.wrap a3) ((([]) ++ a0.reaches).length : Int))) (default : Reach)).delay, cap := (if (IntKind.i64.wrap (((([]) ++ a0.reaches).getD (Int.toNat (Int.tmod (IntKind.i64.wrap a3) ((([]) ++ a0.reaches).length : Int))) (default : Reach)).cap + (IntKind.i64.wrap a4))) < 1073741824 then (IntKind.i64.wrap (((([]) ++ a0.reaches).getD (Int.toNat (Int.tmod (IntKind.i64.wrap a3) ((([]) ++ a0.reaches).length : Int))) (default : Reach)).cap + (IntKind.i64.wrap a4))) else 1073741824), bank := ((([]) ++ a0.reaches).getD (Int.toNat (Int.tmod (IntKind.i64.wrap a3) ((([]) ++ a0.reaches).length : Int))) (default : Reach)).bank, siphon := ((([]) ++ a0.reaches).getD (Int.toNat (Int.tmod (IntKind.i64.wrap a3) ((([]) ++ a0.reaches).length : Int))) (default : Reach)).siphon, evap := ((([]) ++ a0.reaches).getD (Int.toNat (Int.tmod (IntKind.i64.wrap a3) ((([]) ++ a0.reaches).length : Int))) (default : Reach)).evap, seep := ((([]) ++ a0.reaches).getD (Int.toNat (Int.tmod (IntKind.i64.wrap a3) ((([]) ++ a0.reaches).length : Int))) (default : Reach)).seep } : Reach)).getD (Int.toNat (Int.tmod (IntKind.i64.wrap a3) ((([]) ++ a0.reaches).length : Int))) (default : Reach)).name, up := (((([]) ++ a0.reaches).set (Int.toNat (Int.tmod (IntKind.i64.wrap a3) ((([]) ++ a0.reaches).length : Int))) ({ name := ((([]) ++ a0.reaches).getD (Int.toNat (Int.tmod (IntKind.i64.wrap a3) ((([]) ++ a0.reaches).length : Int))) (default : Reach)).name, up := ((([]) ++ a0.reaches).getD (Int.toNat (Int.tmod (IntKind.i64.wrap a3) ((([]) ++ a0.reaches).length : Int))) (default : Reach)).up, delay := ((([]) ++ a0.reaches).getD (Int.toNat (Int.tmod (IntKind.i64.wrap a3) ((([]) ++ a0.reaches).length : Int))) (default : Reach)).delay, cap := (if (IntKind.i64.wrap (((([]) ++ a0.reaches).getD (Int.toNat (Int.tmod (IntKind.i64.wrap a3) ((([]) ++ a0.reaches).length : Int))) (default : Reach)).cap + (IntKind.i64.wrap a4))) < 1073741824 then (IntKind.i64.wrap (((([]) ++ a0.reaches).getD (Int.toNat (Int.tmod (IntKind.i64.wrap a3) ((([]) ++ a0.reaches).length : Int))) (default : Reach)).cap + (IntKind.i64.wrap a4))) else 1073741824), bank := ((([]) ++ a0.reaches).getD (Int.toNat (Int.tmod (IntKind.i64.wrap a3) ((([]) ++ a0.reaches).length : Int))) (default : Reach)).bank, siphon := ((([]) ++ a0.reaches).getD (Int.toNat (Int.tmod (IntKind.i64.wrap a3) ((([]) ++ a0.reaches).length : Int))) (default : Reach)).siphon, evap := ((([]) ++ a0.reaches).getD (Int.toNat (Int.tmod (IntKind.i64.wrap a3) ((([]) ++ a0.reaches).length : Int))) (default : Reach)).evap, seep := ((([]) ++ a0.reaches).getD (Int.toNat (Int.tmod (IntKind.i64.wrap a3) ((([]) ++ a0.reaches).length : Int))) (default : Reach)).seep } : Reach)).getD (Int.toNat (Int.tmod (IntKind.i64.wrap a3) ((([]) ++ a0.reaches).length : Int))) (default : Reach)).up, delay := (((([]) ++ a0.reaches).set (Int.toNat (Int.tmod (IntKind.i64.wrap a3) ((([]) ++ a0.reaches).length : Int))) ({ name := ((([]) ++ a0.reaches).getD (Int.toNat (Int.tmod (IntKind.i64.wrap a3) ((([]) ++ a0.reaches).length : Int))) (default : Reach)).name, up := ((([]) ++ a0.reaches).getD (Int.toNat (Int.tmod (IntKind.i64.wrap a3) ((([]) ++ a0.reaches).length : Int))) (default : Reach)).up, delay := ((([]) ++ a0.reaches).getD (Int.toNat (Int.tmod (IntKind.i64.wrap a3) ((([]) ++ a0.reaches).length : Int))) (default : Reach)).delay, cap := (if (IntKind.i64.wrap (((([]) ++ a0.reaches).getD (Int.toNat (Int.tmod (IntKind.i64.wrap a3) ((([]) ++ a0.reaches).length : Int))) (default : Reach)).cap + (IntKind.i64.wrap a4))) < 1073741824 then (IntKind.i64.wrap (((([]) ++ a0.reaches).getD (Int.toNat (Int.tmod (IntKind.i64.wrap a3) ((([]) ++ a0.reaches).length : Int))) (default : Reach)).cap + (IntKind.i64.wrap a4))) else 1073741824), bank := ((([]) ++ a0.reaches).getD (Int.toNat (Int.tmod (IntKind.i64.wrap a3) ((([]) ++ a0.reaches).length : Int))) (default : Reach)).bank, siphon := ((([]) ++ a0.reaches).getD (Int.toNat (Int.tmod (IntKind.i64.wrap a3) ((([]) ++ a0.reaches).length : Int))) (default : Reach)).siphon, evap := ((([]) ++ a0.reaches).getD (Int.toNat (Int.tmod (IntKind.i64.wrap a3) ((([]) ++ a0.reaches).length : Int))) (default : Reach)).evap, seep := ((([]) ++ a0.reaches).getD (Int.toNat (Int.tmod (IntKind.i64.wrap a3) ((([]) ++ a0.reaches).length : Int))) (default : Reach)).seep } : Reach)).getD (Int.toNat (Int.tmod (IntKind.i64.wrap a3) ((([]) ++ a0.reaches).length : Int))) (default : Reach)).delay, cap := (((([]) ++ a0.reaches).set (Int.toNat (Int.tmod (IntKind.i64.wrap a3) ((([]) ++ a0.reaches).length : Int))) ({ name := ((([]) ++ a0.reaches).getD (Int.toNat (Int.tmod (IntKind.i64.wrap a3) ((([]) ++ a0.reaches).length : Int))) (default : Reach)).name, up := ((([]) ++ a0.reaches).getD (Int.toNat (Int.tmod (IntKind.i64.wrap a3) ((([]) ++ a0.reaches).length : Int))) (default : Reach)).up, delay := ((([]) ++ a0.reaches).getD (Int.toNat (Int.tmod (IntKind.i64.wrap a3) ((([]) ++ a0.reaches).length : Int))) (default : Reach)).delay, cap := (if (IntKind.i64.wrap (((([]) ++ a0.reaches).getD (Int.toNat (Int.tmod (IntKind.i64.wrap a3) ((([]) ++ a0.reaches).length : Int))) (default : Reach)).cap + (IntKind.i64.wrap a4))) < 1073741824 then (IntKind.i64.wrap (((([]) ++ a0.reaches).getD (Int.toNat (Int.tmod (IntKind.i64.wrap a3) ((([]) ++ a0.reaches).length : Int))) (default : Reach)).cap + (IntKind.i64.wrap a4))) else 1073741824), bank := ((([]) ++ a0.reaches).getD (Int.toNat (Int.tmod (IntKind.i64.wrap a3) ((([]) ++ a0.reaches).length : Int))) (default : Reach)).bank, siphon := ((([]) ++ a0.reaches).getD (Int.toNat (Int.tmod (IntKind.i64.wrap a3) ((([]) ++ a0.reaches).length : Int))) (default : Reach)).siphon, evap := ((([]) ++ a0.reaches).getD (Int.toNat (Int.tmod (IntKind.i64.wrap a3) ((([]) ++ a0.reaches).length : Int))) (default : Reach)).evap, seep := ((([]) ++ a0.reaches).getD (Int.toNat (Int.tmod (IntKind.i64.wrap a3) ((([]) ++ a0.reaches).length : Int))) (default : Reach)).seep } : Reach)).getD (Int.toNat (Int.tmod (IntKind.i64.wrap a3) ((([]) ++ a0.reaches).length : Int))) (default : Reach)).cap, bank := (if (IntKind.i64.wrap (((([]) ++ a0.reaches).getD (Int.toNat (Int.tmod (IntKind.i64.wrap a3) ((([]) ++ a0.reaches).length : Int))) (default : Reach)).bank + (IntKind.i64.wrap a4))) < 1099511627776 then (IntKind.i64.wrap (((([]) ++ a0.reaches).getD (Int.toNat (Int.tmod (IntKind.i64.wrap a3) ((([]) ++ a0.reaches).length : Int))) (default : Reach)).bank + (IntKind.i64.wrap a4))) else 1099511627776), siphon := (((([]) ++ a0.reaches).set (Int.toNat (Int.tmod (IntKind.i64.wrap a3) ((([]) ++ a0.reaches).length : Int))) ({ name := ((([]) ++ a0.reaches).getD (Int.toNat (Int.tmod (IntKind.i64.wrap a3) ((([]) ++ a0.reaches).length : Int))) (default : Reach)).name, up := ((([]) ++ a0.reaches).getD (Int.toNat (Int.tmod (IntKind.i64.wrap a3) ((([]) ++ a0.reaches).length : Int))) (default : Reach)).up, delay := ((([]) ++ a0.reaches).getD (Int.toNat (Int.tmod (IntKind.i64.wrap a3) ((([]) ++ a0.reaches).length : Int))) (default : Reach)).delay, cap := (if (IntKind.i64.wrap (((([]) ++ a0.reaches).getD (Int.toNat (Int.tmod (IntKind.i64.wrap a3) ((([]) ++ a0.reaches).length : Int))) (default : Reach)).cap + (IntKind.i64.wrap a4))) < 1073741824 then (IntKind.i64.wrap (((([]) ++ a0.reaches).getD (Int.toNat (Int.tmod (IntKind.i64.wrap a3) ((([]) ++ a0.reaches).length : Int))) (default : Reach)).cap + (IntKind.i64.wrap a4))) else 1073741824), bank := ((([]) ++ a0.reaches).getD (Int.toNat (Int.tmod (IntKind.i64.wrap a3) ((([]) ++ a0.reaches).length : Int))) (default : Reach)).bank, siphon := ((([]) ++ a0.reaches).getD (Int.toNat (Int.tmod (IntKind.i64.wrap a3) ((([]) ++ a0.reaches).length : Int))) (default : Reach)).siphon, evap := ((([]) ++ a0.reaches).getD (Int.toNat (Int.tmod (IntKind.i64.wrap a3) ((([]) ++ a0.reaches).length : Int))) (default : Reach)).evap, seep := ((([]) ++ a0.reaches).getD (Int.toNat (Int.tmod (IntKind.i64.wrap a3) ((([]) ++ a0.reaches).length : Int))) (default : Reach)).seep } : Reach)).getD (Int.toNat (Int.tmod (IntKind.i64.wrap a3) ((([]) ++ a0.reaches).length : Int))) (default : Reach)).siphon, evap := (((([]) ++ a0.reaches).set (Int.toNat (Int.tmod (IntKind.i64.wrap a3) ((([]) ++ a0.reaches).length : Int))) ({ name := ((([]) ++ a0.reaches).getD (Int.toNat (Int.tmod (IntKind.i64.wrap a3) ((([]) ++ a0.reaches).length : Int))) (default : Reach)).name, up := ((([]) ++ a0.reaches).getD (Int.toNat (Int.tmod (IntKind.i64.wrap a3) ((([]) ++ a0.reaches).length : Int))) (default : Reach)).up, delay := ((([]) ++ a0.reaches).getD (Int.toNat (Int.tmod (IntKind.i64.wrap a3) ((([]) ++ a0.reaches).length : Int))) (default : Reach)).delay, cap := (if (IntKind.i64.wrap (((([]) ++ a0.reaches).getD (Int.toNat (Int.tmod (IntKind.i64.wrap a3) ((([]) ++ a0.reaches).length : Int))) (default : Reach)).cap + (IntKind.i64.wrap a4))) < 1073741824 then (IntKind.i64.wrap (((([]) ++ a0.reaches).getD (Int.toNat (Int.tmod (IntKind.i64.wrap a3) ((([]) ++ a0.reaches).length : Int))) (default : Reach)).cap + (IntKind.i64.wrap a4))) else 1073741824), bank := ((([]) ++ a0.reaches).getD (Int.toNat (Int.tmod (IntKind.i64.wrap a3) ((([]) ++ a0.reaches).length : Int))) (default : Reach)).bank, siphon := ((([]) ++ a0.reaches).getD (Int.toNat (Int.tmod (IntKind.i64.wrap a3) ((([]) ++ a0.reaches).length : Int))) (default : Reach)).siphon, evap := ((([]) ++ a0.reaches).getD (Int.toNat (Int.tmod (IntKind.i64.wrap a3) ((([]) ++ a0.reaches).length : Int))) (default : Reach)).evap, seep := ((([]) ++ a0.reaches).getD (Int.toNat (Int.tmod (IntKind.i64.wrap a3) ((([]) ++ a0.reaches).length : Int))) (default : Reach)).seep } : Reach)).getD (Int.toNat (Int.tmod (IntKind.i64.wrap a3) ((([]) ++ a0.reaches).length : Int))) (default : Reach)).evap, seep := (((([]) ++ a0.reaches).set (Int.toNat (Int.tmod (IntKind.i64.wrap a3) ((([]) ++ a0.reaches).length : Int))) ({ name := ((([]) ++ a0.reaches).getD (Int.toNat (Int.tmod (IntKind.i64.wrap a3) ((([]) ++ a0.reaches).length : Int))) (default : Reach)).name, up := ((([]) ++ a0.reaches).getD (Int.toNat (Int.tmod (IntKind.i64.wrap a3) ((([]) ++ a0.reaches).length : Int))) (default : Reach)).up, delay := ((([]) ++ a0.reaches).getD (Int.toNat (Int.tmod (IntKind.i64.wrap a3) ((([]) ++ a0.reaches).length : Int))) (default : Reach)).delay, cap := (if (IntKind.i64.wrap (((([]) ++ a0.reaches).getD (Int.toNat (Int.tmod (IntKind.i64.wrap a3) ((([]) ++ a0.reaches).length : Int))) (default : Reach)).cap + (IntKind.i64.wrap a4))) < 1073741824 then (IntKind.i64.wrap (((([]) ++ a0.reaches).getD (Int.toNat (Int.tmod (IntKind.i64.wrap a3) ((([]) ++ a0.reaches).length : Int))) (default : Reach)).cap + (IntKind.i64.wrap a4))) else 1073741824), bank := ((([]) ++ a0.reaches).getD (Int.toNat (Int.tmod (IntKind.i64.wrap a3) ((([]) ++ a0.reaches).length : Int))) (default : Reach)).bank, siphon := ((([]) ++ a0.reaches).getD (Int.toNat (Int.tmod (IntKind.i64.wrap a3) ((([]) ++ a0.reaches).length : Int))) (default : Reach)).siphon, evap := ((([]) ++ a0.reaches).getD (Int.toNat (Int.tmod (IntKind.i64.wrap a3) ((([]) ++ a0.reaches).length : Int))) (default : Reach)).evap, seep := ((([]) ++ a0.reaches).getD (Int.toNat (Int.tmod (IntKind.i64.wrap a3) ((([]) ++ a0.reaches).length : Int))) (default : Reach)).seep } : Reach)).getD (Int.toNat (Int.tmod (IntKind.i64.wrap a3) ((([]) ++ a0.reaches).length : Int))) (default : Reach)).seep } : Reach)), farms := a0.farms, crops := a0.crops, rights := a0.rights, duties := a0.duties, wells := a0.wells } : District) a1 a2).1)) then false else (bif ((a1.length : Int) == 0) then true else (((((certify_Accepts a0 ((([]) ++ ((a1.take (Int.toNat (Int.tmod (IntKind.i64.wrap a3) (a1.length : Int)))).drop 0)) ++ ((a1.take (Int.toNat (a1.length : Int))).drop (Int.toNat (IntKind.i64.wrap ((Int.tmod (IntKind.i64.wrap a3) (a1.length : Int)) + 1))))) a2).2 == 0) && ((certify_Accepts a0 ((([]) ++ a1).set (Int.toNat (Int.tmod (IntKind.i64.wrap a3) (a1.length : Int))) ({ right := ((([]) ++ a1).getD (Int.toNat (Int.tmod (IntKind.i64.wrap a3) (a1.length : Int))) (default : Claim)).right, farm := ((([]) ++ a1).getD (Int.toNat (Int.tmod (IntKind.i64.wrap a3) (a1.length : Int))) (default : Claim)).farm, hour := ((([]) ++ a1).getD (Int.toNat (Int.tmod (IntKind.i64.wrap a3) (a1.length : Int))) (default : Claim)).hour, litres := (IntKind.i64.wrap (1 + (Int.tmod (IntKind.i64.wrap a4) ((a1.getD (Int.toNat (Int.tmod (IntKind.i64.wrap a3) (a1.length : Int))) (default : Claim)).litres)))), rank := ((([]) ++ a1).getD (Int.toNat (Int.tmod (IntKind.i64.wrap a3) (a1.length : Int))) (default : Claim)).rank } : Claim)) a2).2 == 0)) && (certify_Accepts a0 ((([]) ++ ((a1.take (Int.toNat (Int.tmod (IntKind.i64.wrap a3) (a1.length : Int)))).drop 0)) ++ ((a1.take (Int.toNat (a1.length : Int))).drop (Int.toNat (IntKind.i64.wrap ((Int.tmod (IntKind.i64.wrap a3) (a1.length : Int)) + 1))))) a2).1) && (certify_Accepts a0 ((([]) ++ a1).set (Int.toNat (Int.tmod (IntKind.i64.wrap a3) (a1.length : Int))) ({ right := ((([]) ++ a1).getD (Int.toNat (Int.tmod (IntKind.i64.wrap a3) (a1.length : Int))) (default : Claim)).right, farm := ((([]) ++ a1).getD (Int.toNat (Int.tmod (IntKind.i64.wrap a3) (a1.length : Int))) (default : Claim)).farm, hour := ((([]) ++ a1).getD (Int.toNat (Int.tmod (IntKind.i64.wrap a3) (a1.length : Int))) (default : Claim)).hour, litres := (IntKind.i64.wrap (1 + (Int.tmod (IntKind.i64.wrap a4) ((a1.getD (Int.toNat (Int.tmod (IntKind.i64.wrap a3) (a1.length : Int))) (default : Claim)).litres)))), rank := ((([]) ++ a1).getD (Int.toNat (Int.tmod (IntKind.i64.wrap a3) (a1.length : Int))) (default : Claim)).rank } : Claim)) a2).1))))))
def law28_CertifyLess_p (a0 : District) (a1 : List Claim) (a2 : List Order) (a3 : Int) (a4 : Int) : Prop := ((law28_sane_p) ∧ ((!law28_sane) = false → ((!(ref28_Few a0 a1 a2)) = false → ((certify_Accepts_p a0 a1 a2) ∧ ((((certify_Accepts a0 a1 a2).2 != 0) || (!(certify_Accepts a0 a1 a2).1)) = false → (((([]) ++ a0.reaches).length * 104 ≤ maxB) ∧ ((([]) ++ a0.reaches).length ≤ maxL → ((([]) ++ a0.reaches).length ≤ maxL → (((([]) ++ a0.reaches).length : Int) ≠ 0 ∧ ((0 ≤ (Int.tmod (IntKind.i64.wrap a3) ((([]) ++ a0.reaches).length : Int)) ∧ (Int.tmod (IntKind.i64.wrap a3) ((([]) ++ a0.reaches).length : Int)) < ((([]) ++ a0.reaches).length : Int)) ∧ ((certify_Accepts_p ({ name := a0.name, hours := a0.hours, tank := ({ cap := (if (IntKind.i64.wrap (a0.tank.cap + (IntKind.i64.wrap a4))) < 1099511627776 then (IntKind.i64.wrap (a0.tank.cap + (IntKind.i64.wrap a4))) else 1099511627776), start := (if (IntKind.i64.wrap (a0.tank.start + (IntKind.i64.wrap a4))) < (if (IntKind.i64.wrap (a0.tank.cap + (IntKind.i64.wrap a4))) < 1099511627776 then (IntKind.i64.wrap (a0.tank.cap + (IntKind.i64.wrap a4))) else 1099511627776) then (IntKind.i64.wrap (a0.tank.start + (IntKind.i64.wrap a4))) else (if (IntKind.i64.wrap (a0.tank.cap + (IntKind.i64.wrap a4))) < 1099511627776 then (IntKind.i64.wrap (a0.tank.cap + (IntKind.i64.wrap a4))) else 1099511627776)) } : Tank), reaches := (((([]) ++ a0.reaches).set (Int.toNat (Int.tmod (IntKind.i64.wrap a3) ((([]) ++ a0.reaches).length : Int))) ({ name := ((([]) ++ a0.reaches).getD (Int.toNat (Int.tmod (IntKind.i64.wrap a3) ((([]) ++ a0.reaches).length : Int))) (default : Reach)).name, up := ((([]) ++ a0.reaches).getD (Int.toNat (Int.tmod (IntKind.i64.wrap a3) ((([]) ++ a0.reaches).length : Int))) (default : Reach)).up, delay := ((([]) ++ a0.reaches).getD (Int.toNat (Int.tmod (IntKind.i64.wrap a3) ((([]) ++ a0.reaches).length : Int))) (default : Reach)).delay, cap := (if (IntKind.i64.wrap (((([]) ++ a0.reaches).getD (Int.toNat (Int.tmod (IntKind.i64.wrap a3) ((([]) ++ a0.reaches).length : Int))) (default : Reach)).cap + (IntKind.i64.wrap a4))) < 1073741824 then (IntKind.i64.wrap (((([]) ++ a0.reaches).getD (Int.toNat (Int.tmod (IntKind.i64.wrap a3) ((([]) ++ a0.reaches).length : Int))) (default : Reach)).cap + (IntKind.i64.wrap a4))) else 1073741824), bank := ((([]) ++ a0.reaches).getD (Int.toNat (Int.tmod (IntKind.i64.wrap a3) ((([]) ++ a0.reaches).length : Int))) (default : Reach)).bank, siphon := ((([]) ++ a0.reaches).getD (Int.toNat (Int.tmod (IntKind.i64.wrap a3) ((([]) ++ a0.reaches).length : Int))) (default : Reach)).siphon, evap := ((([]) ++ a0.reaches).getD (Int.toNat (Int.tmod (IntKind.i64.wrap a3) ((([]) ++ a0.reaches).length : Int))) (default : Reach)).evap, seep := ((([]) ++ a0.reaches).getD (Int.toNat (Int.tmod (IntKind.i64.wrap a3) ((([]) ++ a0.reaches).length : Int))) (default : Reach)).seep } : Reach)).set (Int.toNat (Int.tmod (IntKind.i64.wrap a3) ((([]) ++ a0.reaches).length : Int))) ({ name := (((([]) ++ a0.reaches).set (Int.toNat (Int.tmod (IntKind.i64.wrap a3) ((([]) ++ a0.reaches).length : Int))) ({ name := ((([]) ++ a0.reaches).getD (Int.toNat (Int.tmod (IntKind.i64.wrap a3) ((([]) ++ a0.reaches).length : Int))) (default : Reach)).name, up := ((([]) ++ a0.reaches).getD (Int.toNat (Int.tmod (IntKind.i64.wrap a3) ((([]) ++ a0.reaches).length : Int))) (default : Reach)).up, delay := ((([]) ++ a0.reaches).getD (Int.toNat (Int.tmod (IntKind.i64.wrap a3) ((([]) ++ a0.reaches).length : Int))) (default : Reach)).delay, cap := (if (IntKind.i64.wrap (((([]) ++ a0.reaches).getD (Int.toNat (Int.tmod (IntKind.i64.wrap a3) ((([]) ++ a0.reaches).length : Int))) (default : Reach)).cap + (IntKind.i64.wrap a4))) < 1073741824 then (IntKind.i64.wrap (((([]) ++ a0.reaches).getD (Int.toNat (Int.tmod (IntKind.i64.wrap a3) ((([]) ++ a0.reaches).length : Int))) (default : Reach)).cap + (IntKind.i64.wrap a4))) else 1073741824), bank := ((([]) ++ a0.reaches).getD (Int.toNat (Int.tmod (IntKind.i64.wrap a3) ((([]) ++ a0.reaches).length : Int))) (default : Reach)).bank, siphon := ((([]) ++ a0.reaches).getD (Int.toNat (Int.tmod (IntKind.i64.wrap a3) ((([]) ++ a0.reaches).length : Int))) (default : Reach)).siphon, evap := ((([]) ++ a0.reaches).getD (Int.toNat (Int.tmod (IntKind.i64.wrap a3) ((([]) ++ a0.reaches).length : Int))) (default : Reach)).evap, seep := ((([]) ++ a0.reaches).getD (Int.toNat (Int.tmod (IntKind.i64.wrap a3) ((([]) ++ a0.reaches).length : Int))) (default : Reach)).seep } : Reach)).getD (Int.toNat (Int.tmod (IntKind.i64.wrap a3) ((([]) ++ a0.reaches).length : Int))) (default : Reach)).name, up := (((([]) ++ a0.reaches).set (Int.toNat (Int.tmod (IntKind.i64.wrap a3) ((([]) ++ a0.reaches).length : Int))) ({ name := ((([]) ++ a0.reaches).getD (Int.toNat (Int.tmod (IntKind.i64.wrap a3) ((([]) ++ a0.reaches).length : Int))) (default : Reach)).name, up := ((([]) ++ a0.reaches).getD (Int.toNat (Int.tmod (IntKind.i64.wrap a3) ((([]) ++ a0.reaches).length : Int))) (default : Reach)).up, delay := ((([]) ++ a0.reaches).getD (Int.toNat (Int.tmod (IntKind.i64.wrap a3) ((([]) ++ a0.reaches).length : Int))) (default : Reach)).delay, cap := (if (IntKind.i64.wrap (((([]) ++ a0.reaches).getD (Int.toNat (Int.tmod (IntKind.i64.wrap a3) ((([]) ++ a0.reaches).length : Int))) (default : Reach)).cap + (IntKind.i64.wrap a4))) < 1073741824 then (IntKind.i64.wrap (((([]) ++ a0.reaches).getD (Int.toNat (Int.tmod (IntKind.i64.wrap a3) ((([]) ++ a0.reaches).length : Int))) (default : Reach)).cap + (IntKind.i64.wrap a4))) else 1073741824), bank := ((([]) ++ a0.reaches).getD (Int.toNat (Int.tmod (IntKind.i64.wrap a3) ((([]) ++ a0.reaches).length : Int))) (default : Reach)).bank, siphon := ((([]) ++ a0.reaches).getD (Int.toNat (Int.tmod (IntKind.i64.wrap a3) ((([]) ++ a0.reaches).length : Int))) (default : Reach)).siphon, evap := ((([]) ++ a0.reaches).getD (Int.toNat (Int.tmod (IntKind.i64.wrap a3) ((([]) ++ a0.reaches).length : Int))) (default : Reach)).evap, seep := ((([]) ++ a0.reaches).getD (Int.toNat (Int.tmod (IntKind.i64.wrap a3) ((([]) ++ a0.reaches).length : Int))) (default : Reach)).seep } : Reach)).getD (Int.toNat (Int.tmod (IntKind.i64.wrap a3) ((([]) ++ a0.reaches).length : Int))) (default : Reach)).up, delay := (((([]) ++ a0.reaches).set (Int.toNat (Int.tmod (IntKind.i64.wrap a3) ((([]) ++ a0.reaches).length : Int))) ({ name := ((([]) ++ a0.reaches).getD (Int.toNat (Int.tmod (IntKind.i64.wrap a3) ((([]) ++ a0.reaches).length : Int))) (default : Reach)).name, up := ((([]) ++ a0.reaches).getD (Int.toNat (Int.tmod (IntKind.i64.wrap a3) ((([]) ++ a0.reaches).length : Int))) (default : Reach)).up, delay := ((([]) ++ a0.reaches).getD (Int.toNat (Int.tmod (IntKind.i64.wrap a3) ((([]) ++ a0.reaches).length : Int))) (default : Reach)).delay, cap := (if (IntKind.i64.wrap (((([]) ++ a0.reaches).getD (Int.toNat (Int.tmod (IntKind.i64.wrap a3) ((([]) ++ a0.reaches).length : Int))) (default : Reach)).cap + (IntKind.i64.wrap a4))) < 1073741824 then (IntKind.i64.wrap (((([]) ++ a0.reaches).getD (Int.toNat (Int.tmod (IntKind.i64.wrap a3) ((([]) ++ a0.reaches).length : Int))) (default : Reach)).cap + (IntKind.i64.wrap a4))) else 1073741824), bank := ((([]) ++ a0.reaches).getD (Int.toNat (Int.tmod (IntKind.i64.wrap a3) ((([]) ++ a0.reaches).length : Int))) (default : Reach)).bank, siphon := ((([]) ++ a0.reaches).getD (Int.toNat (Int.tmod (IntKind.i64.wrap a3) ((([]) ++ a0.reaches).length : Int))) (default : Reach)).siphon, evap := ((([]) ++ a0.reaches).getD (Int.toNat (Int.tmod (IntKind.i64.wrap a3) ((([]) ++ a0.reaches).length : Int))) (default : Reach)).evap, seep := ((([]) ++ a0.reaches).getD (Int.toNat (Int.tmod (IntKind.i64.wrap a3) ((([]) ++ a0.reaches).length : Int))) (default : Reach)).seep } : Reach)).getD (Int.toNat (Int.tmod (IntKind.i64.wrap a3) ((([]) ++ a0.reaches).length : Int))) (default : Reach)).delay, cap := (((([]) ++ a0.reaches).set (Int.toNat (Int.tmod (IntKind.i64.wrap a3) ((([]) ++ a0.reaches).length : Int))) ({ name := ((([]) ++ a0.reaches).getD (Int.toNat (Int.tmod (IntKind.i64.wrap a3) ((([]) ++ a0.reaches).length : Int))) (default : Reach)).name, up := ((([]) ++ a0.reaches).getD (Int.toNat (Int.tmod (IntKind.i64.wrap a3) ((([]) ++ a0.reaches).length : Int))) (default : Reach)).up, delay := ((([]) ++ a0.reaches).getD (Int.toNat (Int.tmod (IntKind.i64.wrap a3) ((([]) ++ a0.reaches).length : Int))) (default : Reach)).delay, cap := (if (IntKind.i64.wrap (((([]) ++ a0.reaches).getD (Int.toNat (Int.tmod (IntKind.i64.wrap a3) ((([]) ++ a0.reaches).length : Int))) (default : Reach)).cap + (IntKind.i64.wrap a4))) < 1073741824 then (IntKind.i64.wrap (((([]) ++ a0.reaches).getD (Int.toNat (Int.tmod (IntKind.i64.wrap a3) ((([]) ++ a0.reaches).length : Int))) (default : Reach)).cap + (IntKind.i64.wrap a4))) else 1073741824), bank := ((([]) ++ a0.reaches).getD (Int.toNat (Int.tmod (IntKind.i64.wrap a3) ((([]) ++ a0.reaches).length : Int))) (default : Reach)).bank, siphon := ((([]) ++ a0.reaches).getD (Int.toNat (Int.tmod (IntKind.i64.wrap a3) ((([]) ++ a0.reaches).length : Int))) (default : Reach)).siphon, evap := ((([]) ++ a0.reaches).getD (Int.toNat (Int.tmod (IntKind.i64.wrap a3) ((([]) ++ a0.reaches).length : Int))) (default : Reach)).evap, seep := ((([]) ++ a0.reaches).getD (Int.toNat (Int.tmod (IntKind.i64.wrap a3) ((([]) ++ a0.reaches).length : Int))) (default : Reach)).seep } : Reach)).getD (Int.toNat (Int.tmod (IntKind.i64.wrap a3) ((([]) ++ a0.reaches).length : Int))) (default : Reach)).cap, bank := (if (IntKind.i64.wrap (((([]) ++ a0.reaches).getD (Int.toNat (Int.tmod (IntKind.i64.wrap a3) ((([]) ++ a0.reaches).length : Int))) (default : Reach)).bank + (IntKind.i64.wrap a4))) < 1099511627776 then (IntKind.i64.wrap (((([]) ++ a0.reaches).getD (Int.toNat (Int.tmod (IntKind.i64.wrap a3) ((([]) ++ a0.reaches).length : Int))) (default : Reach)).bank + (IntKind.i64.wrap a4))) else 1099511627776), siphon := (((([]) ++ a0.reaches).set (Int.toNat (Int.tmod (IntKind.i64.wrap a3) ((([]) ++ a0.reaches).length : Int))) ({ name := ((([]) ++ a0.reaches).getD (Int.toNat (Int.tmod (IntKind.i64.wrap a3) ((([]) ++ a0.reaches).length : Int))) (default : Reach)).name, up := ((([]) ++ a0.reaches).getD (Int.toNat (Int.tmod (IntKind.i64.wrap a3) ((([]) ++ a0.reaches).length : Int))) (default : Reach)).up, delay := ((([]) ++ a0.reaches).getD (Int.toNat (Int.tmod (IntKind.i64.wrap a3) ((([]) ++ a0.reaches).length : Int))) (default : Reach)).delay, cap := (if (IntKind.i64.wrap (((([]) ++ a0.reaches).getD (Int.toNat (Int.tmod (IntKind.i64.wrap a3) ((([]) ++ a0.reaches).length : Int))) (default : Reach)).cap + (IntKind.i64.wrap a4))) < 1073741824 then (IntKind.i64.wrap (((([]) ++ a0.reaches).getD (Int.toNat (Int.tmod (IntKind.i64.wrap a3) ((([]) ++ a0.reaches).length : Int))) (default : Reach)).cap + (IntKind.i64.wrap a4))) else 1073741824), bank := ((([]) ++ a0.reaches).getD (Int.toNat (Int.tmod (IntKind.i64.wrap a3) ((([]) ++ a0.reaches).length : Int))) (default : Reach)).bank, siphon := ((([]) ++ a0.reaches).getD (Int.toNat (Int.tmod (IntKind.i64.wrap a3) ((([]) ++ a0.reaches).length : Int))) (default : Reach)).siphon, evap := ((([]) ++ a0.reaches).getD (Int.toNat (Int.tmod (IntKind.i64.wrap a3) ((([]) ++ a0.reaches).length : Int))) (default : Reach)).evap, seep := ((([]) ++ a0.reaches).getD (Int.toNat (Int.tmod (IntKind.i64.wrap a3) ((([]) ++ a0.reaches).length : Int))) (default : Reach)).seep } : Reach)).getD (Int.toNat (Int.tmod (IntKind.i64.wrap a3) ((([]) ++ a0.reaches).length : Int))) (default : Reach)).siphon, evap := (((([]) ++ a0.reaches).set (Int.toNat (Int.tmod (IntKind.i64.wrap a3) ((([]) ++ a0.reaches).length : Int))) ({ name := ((([]) ++ a0.reaches).getD (Int.toNat (Int.tmod (IntKind.i64.wrap a3) ((([]) ++ a0.reaches).length : Int))) (default : Reach)).name, up := ((([]) ++ a0.reaches).getD (Int.toNat (Int.tmod (IntKind.i64.wrap a3) ((([]) ++ a0.reaches).length : Int))) (default : Reach)).up, delay := ((([]) ++ a0.reaches).getD (Int.toNat (Int.tmod (IntKind.i64.wrap a3) ((([]) ++ a0.reaches).length : Int))) (default : Reach)).delay, cap := (if (IntKind.i64.wrap (((([]) ++ a0.reaches).getD (Int.toNat (Int.tmod (IntKind.i64.wrap a3) ((([]) ++ a0.reaches).length : Int))) (default : Reach)).cap + (IntKind.i64.wrap a4))) < 1073741824 then (IntKind.i64.wrap (((([]) ++ a0.reaches).getD (Int.toNat (Int.tmod (IntKind.i64.wrap a3) ((([]) ++ a0.reaches).length : Int))) (default : Reach)).cap + (IntKind.i64.wrap a4))) else 1073741824), bank := ((([]) ++ a0.reaches).getD (Int.toNat (Int.tmod (IntKind.i64.wrap a3) ((([]) ++ a0.reaches).length : Int))) (default : Reach)).bank, siphon := ((([]) ++ a0.reaches).getD (Int.toNat (Int.tmod (IntKind.i64.wrap a3) ((([]) ++ a0.reaches).length : Int))) (default : Reach)).siphon, evap := ((([]) ++ a0.reaches).getD (Int.toNat (Int.tmod (IntKind.i64.wrap a3) ((([]) ++ a0.reaches).length : Int))) (default : Reach)).evap, seep := ((([]) ++ a0.reaches).getD (Int.toNat (Int.tmod (IntKind.i64.wrap a3) ((([]) ++ a0.reaches).length : Int))) (default : Reach)).seep } : Reach)).getD (Int.toNat (Int.tmod (IntKind.i64.wrap a3) ((([]) ++ a0.reaches).length : Int))) (default : Reach)).evap, seep := (((([]) ++ a0.reaches).set (Int.toNat (Int.tmod (IntKind.i64.wrap a3) ((([]) ++ a0.reaches).length : Int))) ({ name := ((([]) ++ a0.reaches).getD (Int.toNat (Int.tmod (IntKind.i64.wrap a3) ((([]) ++ a0.reaches).length : Int))) (default : Reach)).name, up := ((([]) ++ a0.reaches).getD (Int.toNat (Int.tmod (IntKind.i64.wrap a3) ((([]) ++ a0.reaches).length : Int))) (default : Reach)).up, delay := ((([]) ++ a0.reaches).getD (Int.toNat (Int.tmod (IntKind.i64.wrap a3) ((([]) ++ a0.reaches).length : Int))) (default : Reach)).delay, cap := (if (IntKind.i64.wrap (((([]) ++ a0.reaches).getD (Int.toNat (Int.tmod (IntKind.i64.wrap a3) ((([]) ++ a0.reaches).length : Int))) (default : Reach)).cap + (IntKind.i64.wrap a4))) < 1073741824 then (IntKind.i64.wrap (((([]) ++ a0.reaches).getD (Int.toNat (Int.tmod (IntKind.i64.wrap a3) ((([]) ++ a0.reaches).length : Int))) (default : Reach)).cap + (IntKind.i64.wrap a4))) else 1073741824), bank := ((([]) ++ a0.reaches).getD (Int.toNat (Int.tmod (IntKind.i64.wrap a3) ((([]) ++ a0.reaches).length : Int))) (default : Reach)).bank, siphon := ((([]) ++ a0.reaches).getD (Int.toNat (Int.tmod (IntKind.i64.wrap a3) ((([]) ++ a0.reaches).length : Int))) (default : Reach)).siphon, evap := ((([]) ++ a0.reaches).getD (Int.toNat (Int.tmod (IntKind.i64.wrap a3) ((([]) ++ a0.reaches).length : Int))) (default : Reach)).evap, seep := ((([]) ++ a0.reaches).getD (Int.toNat (Int.tmod (IntKind.i64.wrap a3) ((([]) ++ a0.reaches).length : Int))) (default : Reach)).seep } : Reach)).getD (Int.toNat (Int.tmod (IntKind.i64.wrap a3) ((([]) ++ a0.reaches).length : Int))) (default : Reach)).seep } : Reach)), farms := a0.farms, crops := a0.crops, rights := a0.rights, duties := a0.duties, wells := a0.wells } : District) a1 a2) ∧ ((((certify_Accepts ({ name := a0.name, hours := a0.hours, tank := ({ cap := (if (IntKind.i64.wrap (a0.tank.cap + (IntKind.i64.wrap a4))) < 1099511627776 then (IntKind.i64.wrap (a0.tank.cap + (IntKind.i64.wrap a4))) else 1099511627776), start := (if (IntKind.i64.wrap (a0.tank.start + (IntKind.i64.wrap a4))) < (if (IntKind.i64.wrap (a0.tank.cap + (IntKind.i64.wrap a4))) < 1099511627776 then (IntKind.i64.wrap (a0.tank.cap + (IntKind.i64.wrap a4))) else 1099511627776) then (IntKind.i64.wrap (a0.tank.start + (IntKind.i64.wrap a4))) else (if (IntKind.i64.wrap (a0.tank.cap + (IntKind.i64.wrap a4))) < 1099511627776 then (IntKind.i64.wrap (a0.tank.cap + (IntKind.i64.wrap a4))) else 1099511627776)) } : Tank), reaches := (((([]) ++ a0.reaches).set (Int.toNat (Int.tmod (IntKind.i64.wrap a3) ((([]) ++ a0.reaches).length : Int))) ({ name := ((([]) ++ a0.reaches).getD (Int.toNat (Int.tmod (IntKind.i64.wrap a3) ((([]) ++ a0.reaches).length : Int))) (default : Reach)).name, up := ((([]) ++ a0.reaches).getD (Int.toNat (Int.tmod (IntKind.i64.wrap a3) ((([]) ++ a0.reaches).length : Int))) (default : Reach)).up, delay := ((([]) ++ a0.reaches).getD (Int.toNat (Int.tmod (IntKind.i64.wrap a3) ((([]) ++ a0.reaches).length : Int))) (default : Reach)).delay, cap := (if (IntKind.i64.wrap (((([]) ++ a0.reaches).getD (Int.toNat (Int.tmod (IntKind.i64.wrap a3) ((([]) ++ a0.reaches).length : Int))) (default : Reach)).cap + (IntKind.i64.wrap a4))) < 1073741824 then (IntKind.i64.wrap (((([]) ++ a0.reaches).getD (Int.toNat (Int.tmod (IntKind.i64.wrap a3) ((([]) ++ a0.reaches).length : Int))) (default : Reach)).cap + (IntKind.i64.wrap a4))) else 1073741824), bank := ((([]) ++ a0.reaches).getD (Int.toNat (Int.tmod (IntKind.i64.wrap a3) ((([]) ++ a0.reaches).length : Int))) (default : Reach)).bank, siphon := ((([]) ++ a0.reaches).getD (Int.toNat (Int.tmod (IntKind.i64.wrap a3) ((([]) ++ a0.reaches).length : Int))) (default : Reach)).siphon, evap := ((([]) ++ a0.reaches).getD (Int.toNat (Int.tmod (IntKind.i64.wrap a3) ((([]) ++ a0.reaches).length : Int))) (default : Reach)).evap, seep := ((([]) ++ a0.reaches).getD (Int.toNat (Int.tmod (IntKind.i64.wrap a3) ((([]) ++ a0.reaches).length : Int))) (default : Reach)).seep } : Reach)).set (Int.toNat (Int.tmod (IntKind.i64.wrap a3) ((([]) ++ a0.reaches).length : Int))) ({ name := (((([]) ++ a0.reaches).set (Int.toNat (Int.tmod (IntKind.i64.wrap a3) ((([]) ++ a0.reaches).length : Int))) ({ name := ((([]) ++ a0.reaches).getD (Int.toNat (Int.tmod (IntKind.i64.wrap a3) ((([]) ++ a0.reaches).length : Int))) (default : Reach)).name, up := ((([]) ++ a0.reaches).getD (Int.toNat (Int.tmod (IntKind.i64.wrap a3) ((([]) ++ a0.reaches).length : Int))) (default : Reach)).up, delay := ((([]) ++ a0.reaches).getD (Int.toNat (Int.tmod (IntKind.i64.wrap a3) ((([]) ++ a0.reaches).length : Int))) (default : Reach)).delay, cap := (if (IntKind.i64.wrap (((([]) ++ a0.reaches).getD (Int.toNat (Int.tmod (IntKind.i64.wrap a3) ((([]) ++ a0.reaches).length : Int))) (default : Reach)).cap + (IntKind.i64.wrap a4))) < 1073741824 then (IntKind.i64.wrap (((([]) ++ a0.reaches).getD (Int.toNat (Int.tmod (IntKind.i64.wrap a3) ((([]) ++ a0.reaches).length : Int))) (default : Reach)).cap + (IntKind.i64.wrap a4))) else 1073741824), bank := ((([]) ++ a0.reaches).getD (Int.toNat (Int.tmod (IntKind.i64.wrap a3) ((([]) ++ a0.reaches).length : Int))) (default : Reach)).bank, siphon := ((([]) ++ a0.reaches).getD (Int.toNat (Int.tmod (IntKind.i64.wrap a3) ((([]) ++ a0.reaches).length : Int))) (default : Reach)).siphon, evap := ((([]) ++ a0.reaches).getD (Int.toNat (Int.tmod (IntKind.i64.wrap a3) ((([]) ++ a0.reaches).length : Int))) (default : Reach)).evap, seep := ((([]) ++ a0.reaches).getD (Int.toNat (Int.tmod (IntKind.i64.wrap a3) ((([]) ++ a0.reaches).length : Int))) (default : Reach)).seep } : Reach)).getD (Int.toNat (Int.tmod (IntKind.i64.wrap a3) ((([]) ++ a0.reaches).length : Int))) (default : Reach)).name, up := (((([]) ++ a0.reaches).set (Int.toNat (Int.tmod (IntKind.i64.wrap a3) ((([]) ++ a0.reaches).length : Int))) ({ name := ((([]) ++ a0.reaches).getD (Int.toNat (Int.tmod (IntKind.i64.wrap a3) ((([]) ++ a0.reaches).length : Int))) (default : Reach)).name, up := ((([]) ++ a0.reaches).getD (Int.toNat (Int.tmod (IntKind.i64.wrap a3) ((([]) ++ a0.reaches).length : Int))) (default : Reach)).up, delay := ((([]) ++ a0.reaches).getD (Int.toNat (Int.tmod (IntKind.i64.wrap a3) ((([]) ++ a0.reaches).length : Int))) (default : Reach)).delay, cap := (if (IntKind.i64.wrap (((([]) ++ a0.reaches).getD (Int.toNat (Int.tmod (IntKind.i64.wrap a3) ((([]) ++ a0.reaches).length : Int))) (default : Reach)).cap + (IntKind.i64.wrap a4))) < 1073741824 then (IntKind.i64.wrap (((([]) ++ a0.reaches).getD (Int.toNat (Int.tmod (IntKind.i64.wrap a3) ((([]) ++ a0.reaches).length : Int))) (default : Reach)).cap + (IntKind.i64.wrap a4))) else 1073741824), bank := ((([]) ++ a0.reaches).getD (Int.toNat (Int.tmod (IntKind.i64.wrap a3) ((([]) ++ a0.reaches).length : Int))) (default : Reach)).bank, siphon := ((([]) ++ a0.reaches).getD (Int.toNat (Int.tmod (IntKind.i64.wrap a3) ((([]) ++ a0.reaches).length : Int))) (default : Reach)).siphon, evap := ((([]) ++ a0.reaches).getD (Int.toNat (Int.tmod (IntKind.i64.wrap a3) ((([]) ++ a0.reaches).length : Int))) (default : Reach)).evap, seep := ((([]) ++ a0.reaches).getD (Int.toNat (Int.tmod (IntKind.i64.wrap a3) ((([]) ++ a0.reaches).length : Int))) (default : Reach)).seep } : Reach)).getD (Int.toNat (Int.tmod (IntKind.i64.wrap a3) ((([]) ++ a0.reaches).length : Int))) (default : Reach)).up, delay := (((([]) ++ a0.reaches).set (Int.toNat (Int.tmod (IntKind.i64.wrap a3) ((([]) ++ a0.reaches).length : Int))) ({ name := ((([]) ++ a0.reaches).getD (Int.toNat (Int.tmod (IntKind.i64.wrap a3) ((([]) ++ a0.reaches).length : Int))) (default : Reach)).name, up := ((([]) ++ a0.reaches).getD (Int.toNat (Int.tmod (IntKind.i64.wrap a3) ((([]) ++ a0.reaches).length : Int))) (default : Reach)).up, delay := ((([]) ++ a0.reaches).getD (Int.toNat (Int.tmod (IntKind.i64.wrap a3) ((([]) ++ a0.reaches).length : Int))) (default : Reach)).delay, cap := (if (IntKind.i64.wrap (((([]) ++ a0.reaches).getD (Int.toNat (Int.tmod (IntKind.i64.wrap a3) ((([]) ++ a0.reaches).length : Int))) (default : Reach)).cap + (IntKind.i64.wrap a4))) < 1073741824 then (IntKind.i64.wrap (((([]) ++ a0.reaches).getD (Int.toNat (Int.tmod (IntKind.i64.wrap a3) ((([]) ++ a0.reaches).length : Int))) (default : Reach)).cap + (IntKind.i64.wrap a4))) else 1073741824), bank := ((([]) ++ a0.reaches).getD (Int.toNat (Int.tmod (IntKind.i64.wrap a3) ((([]) ++ a0.reaches).length : Int))) (default : Reach)).bank, siphon := ((([]) ++ a0.reaches).getD (Int.toNat (Int.tmod (IntKind.i64.wrap a3) ((([]) ++ a0.reaches).length : Int))) (default : Reach)).siphon, evap := ((([]) ++ a0.reaches).getD (Int.toNat (Int.tmod (IntKind.i64.wrap a3) ((([]) ++ a0.reaches).length : Int))) (default : Reach)).evap, seep := ((([]) ++ a0.reaches).getD (Int.toNat (Int.tmod (IntKind.i64.wrap a3) ((([]) ++ a0.reaches).length : Int))) (default : Reach)).seep } : Reach)).getD (Int.toNat (Int.tmod (IntKind.i64.wrap a3) ((([]) ++ a0.reaches).length : Int))) (default : Reach)).delay, cap := (((([]) ++ a0.reaches).set (Int.toNat (Int.tmod (IntKind.i64.wrap a3) ((([]) ++ a0.reaches).length : Int))) ({ name := ((([]) ++ a0.reaches).getD (Int.toNat (Int.tmod (IntKind.i64.wrap a3) ((([]) ++ a0.reaches).length : Int))) (default : Reach)).name, up := ((([]) ++ a0.reaches).getD (Int.toNat (Int.tmod (IntKind.i64.wrap a3) ((([]) ++ a0.reaches).length : Int))) (default : Reach)).up, delay := ((([]) ++ a0.reaches).getD (Int.toNat (Int.tmod (IntKind.i64.wrap a3) ((([]) ++ a0.reaches).length : Int))) (default : Reach)).delay, cap := (if (IntKind.i64.wrap (((([]) ++ a0.reaches).getD (Int.toNat (Int.tmod (IntKind.i64.wrap a3) ((([]) ++ a0.reaches).length : Int))) (default : Reach)).cap + (IntKind.i64.wrap a4))) < 1073741824 then (IntKind.i64.wrap (((([]) ++ a0.reaches).getD (Int.toNat (Int.tmod (IntKind.i64.wrap a3) ((([]) ++ a0.reaches).length : Int))) (default : Reach)).cap + (IntKind.i64.wrap a4))) else 1073741824), bank := ((([]) ++ a0.reaches).getD (Int.toNat (Int.tmod (IntKind.i64.wrap a3) ((([]) ++ a0.reaches).length : Int))) (default : Reach)).bank, siphon := ((([]) ++ a0.reaches).getD (Int.toNat (Int.tmod (IntKind.i64.wrap a3) ((([]) ++ a0.reaches).length : Int))) (default : Reach)).siphon, evap := ((([]) ++ a0.reaches).getD (Int.toNat (Int.tmod (IntKind.i64.wrap a3) ((([]) ++ a0.reaches).length : Int))) (default : Reach)).evap, seep := ((([]) ++ a0.reaches).getD (Int.toNat (Int.tmod (IntKind.i64.wrap a3) ((([]) ++ a0.reaches).length : Int))) (default : Reach)).seep } : Reach)).getD (Int.toNat (Int.tmod (IntKind.i64.wrap a3) ((([]) ++ a0.reaches).length : Int))) (default : Reach)).cap, bank := (if (IntKind.i64.wrap (((([]) ++ a0.reaches).getD (Int.toNat (Int.tmod (IntKind.i64.wrap a3) ((([]) ++ a0.reaches).length : Int))) (default : Reach)).bank + (IntKind.i64.wrap a4))) < 1099511627776 then (IntKind.i64.wrap (((([]) ++ a0.reaches).getD (Int.toNat (Int.tmod (IntKind.i64.wrap a3) ((([]) ++ a0.reaches).length : Int))) (default : Reach)).bank + (IntKind.i64.wrap a4))) else 1099511627776), siphon := (((([]) ++ a0.reaches).set (Int.toNat (Int.tmod (IntKind.i64.wrap a3) ((([]) ++ a0.reaches).length : Int))) ({ name := ((([]) ++ a0.reaches).getD (Int.toNat (Int.tmod (IntKind.i64.wrap a3) ((([]) ++ a0.reaches).length : Int))) (default : Reach)).name, up := ((([]) ++ a0.reaches).getD (Int.toNat (Int.tmod (IntKind.i64.wrap a3) ((([]) ++ a0.reaches).length : Int))) (default : Reach)).up, delay := ((([]) ++ a0.reaches).getD (Int.toNat (Int.tmod (IntKind.i64.wrap a3) ((([]) ++ a0.reaches).length : Int))) (default : Reach)).delay, cap := (if (IntKind.i64.wrap (((([]) ++ a0.reaches).getD (Int.toNat (Int.tmod (IntKind.i64.wrap a3) ((([]) ++ a0.reaches).length : Int))) (default : Reach)).cap + (IntKind.i64.wrap a4))) < 1073741824 then (IntKind.i64.wrap (((([]) ++ a0.reaches).getD (Int.toNat (Int.tmod (IntKind.i64.wrap a3) ((([]) ++ a0.reaches).length : Int))) (default : Reach)).cap + (IntKind.i64.wrap a4))) else 1073741824), bank := ((([]) ++ a0.reaches).getD (Int.toNat (Int.tmod (IntKind.i64.wrap a3) ((([]) ++ a0.reaches).length : Int))) (default : Reach)).bank, siphon := ((([]) ++ a0.reaches).getD (Int.toNat (Int.tmod (IntKind.i64.wrap a3) ((([]) ++ a0.reaches).length : Int))) (default : Reach)).siphon, evap := ((([]) ++ a0.reaches).getD (Int.toNat (Int.tmod (IntKind.i64.wrap a3) ((([]) ++ a0.reaches).length : Int))) (default : Reach)).evap, seep := ((([]) ++ a0.reaches).getD (Int.toNat (Int.tmod (IntKind.i64.wrap a3) ((([]) ++ a0.reaches).length : Int))) (default : Reach)).seep } : Reach)).getD (Int.toNat (Int.tmod (IntKind.i64.wrap a3) ((([]) ++ a0.reaches).length : Int))) (default : Reach)).siphon, evap := (((([]) ++ a0.reaches).set (Int.toNat (Int.tmod (IntKind.i64.wrap a3) ((([]) ++ a0.reaches).length : Int))) ({ name := ((([]) ++ a0.reaches).getD (Int.toNat (Int.tmod (IntKind.i64.wrap a3) ((([]) ++ a0.reaches).length : Int))) (default : Reach)).name, up := ((([]) ++ a0.reaches).getD (Int.toNat (Int.tmod (IntKind.i64.wrap a3) ((([]) ++ a0.reaches).length : Int))) (default : Reach)).up, delay := ((([]) ++ a0.reaches).getD (Int.toNat (Int.tmod (IntKind.i64.wrap a3) ((([]) ++ a0.reaches).length : Int))) (default : Reach)).delay, cap := (if (IntKind.i64.wrap (((([]) ++ a0.reaches).getD (Int.toNat (Int.tmod (IntKind.i64.wrap a3) ((([]) ++ a0.reaches).length : Int))) (default : Reach)).cap + (IntKind.i64.wrap a4))) < 1073741824 then (IntKind.i64.wrap (((([]) ++ a0.reaches).getD (Int.toNat (Int.tmod (IntKind.i64.wrap a3) ((([]) ++ a0.reaches).length : Int))) (default : Reach)).cap + (IntKind.i64.wrap a4))) else 1073741824), bank := ((([]) ++ a0.reaches).getD (Int.toNat (Int.tmod (IntKind.i64.wrap a3) ((([]) ++ a0.reaches).length : Int))) (default : Reach)).bank, siphon := ((([]) ++ a0.reaches).getD (Int.toNat (Int.tmod (IntKind.i64.wrap a3) ((([]) ++ a0.reaches).length : Int))) (default : Reach)).siphon, evap := ((([]) ++ a0.reaches).getD (Int.toNat (Int.tmod (IntKind.i64.wrap a3) ((([]) ++ a0.reaches).length : Int))) (default : Reach)).evap, seep := ((([]) ++ a0.reaches).getD (Int.toNat (Int.tmod (IntKind.i64.wrap a3) ((([]) ++ a0.reaches).length : Int))) (default : Reach)).seep } : Reach)).getD (Int.toNat (Int.tmod (IntKind.i64.wrap a3) ((([]) ++ a0.reaches).length : Int))) (default : Reach)).evap, seep := (((([]) ++ a0.reaches).set (Int.toNat (Int.tmod (IntKind.i64.wrap a3) ((([]) ++ a0.reaches).length : Int))) ({ name := ((([]) ++ a0.reaches).getD (Int.toNat (Int.tmod (IntKind.i64.wrap a3) ((([]) ++ a0.reaches).length : Int))) (default : Reach)).name, up := ((([]) ++ a0.reaches).getD (Int.toNat (Int.tmod (IntKind.i64.wrap a3) ((([]) ++ a0.reaches).length : Int))) (default : Reach)).up, delay := ((([]) ++ a0.reaches).getD (Int.toNat (Int.tmod (IntKind.i64.wrap a3) ((([]) ++ a0.reaches).length : Int))) (default : Reach)).delay, cap := (if (IntKind.i64.wrap (((([]) ++ a0.reaches).getD (Int.toNat (Int.tmod (IntKind.i64.wrap a3) ((([]) ++ a0.reaches).length : Int))) (default : Reach)).cap + (IntKind.i64.wrap a4))) < 1073741824 then (IntKind.i64.wrap (((([]) ++ a0.reaches).getD (Int.toNat (Int.tmod (IntKind.i64.wrap a3) ((([]) ++ a0.reaches).length : Int))) (default : Reach)).cap + (IntKind.i64.wrap a4))) else 1073741824), bank := ((([]) ++ a0.reaches).getD (Int.toNat (Int.tmod (IntKind.i64.wrap a3) ((([]) ++ a0.reaches).length : Int))) (default : Reach)).bank, siphon := ((([]) ++ a0.reaches).getD (Int.toNat (Int.tmod (IntKind.i64.wrap a3) ((([]) ++ a0.reaches).length : Int))) (default : Reach)).siphon, evap := ((([]) ++ a0.reaches).getD (Int.toNat (Int.tmod (IntKind.i64.wrap a3) ((([]) ++ a0.reaches).length : Int))) (default : Reach)).evap, seep := ((([]) ++ a0.reaches).getD (Int.toNat (Int.tmod (IntKind.i64.wrap a3) ((([]) ++ a0.reaches).length : Int))) (default : Reach)).seep } : Reach)).getD (Int.toNat (Int.tmod (IntKind.i64.wrap a3) ((([]) ++ a0.reaches).length : Int))) (default : Reach)).seep } : Reach)), farms := a0.farms, crops := a0.crops, rights := a0.rights, duties := a0.duties, wells := a0.wells } : District) a1 a2).2 != 0) || (!(certify_Accepts ({ name := a0.name, hours := a0.hours, tank := ({ cap := (if (IntKind.i64.wrap (a0.tank.cap + (IntKind.i64.wrap a4))) < 1099511627776 then (IntKind.i64.wrap (a0.tank.cap + (IntKind.i64.wrap a4))) else 1099511627776), start := (if (IntKind.i64.wrap (a0.tank.start + (IntKind.i64.wrap a4))) < (if (IntKind.i64.wrap (a0.tank.cap + (IntKind.i64.wrap a4))) < 1099511627776 then (IntKind.i64.wrap (a0.tank.cap + (IntKind.i64.wrap a4))) else 1099511627776) then (IntKind.i64.wrap (a0.tank.start + (IntKind.i64.wrap a4))) else (if (IntKind.i64.wrap (a0.tank.cap + (IntKind.i64.wrap a4))) < 1099511627776 then (IntKind.i64.wrap (a0.tank.cap + (IntKind.i64.wrap a4))) else 1099511627776)) } : Tank), reaches := (((([]) ++ a0.reaches).set (Int.toNat (Int.tmod (IntKind.i64.wrap a3) ((([]) ++ a0.reaches).length : Int))) ({ name := ((([]) ++ a0.reaches).getD (Int.toNat (Int.tmod (IntKind.i64.wrap a3) ((([]) ++ a0.reaches).length : Int))) (default : Reach)).name, up := ((([]) ++ a0.reaches).getD (Int.toNat (Int.tmod (IntKind.i64.wrap a3) ((([]) ++ a0.reaches).length : Int))) (default : Reach)).up, delay := ((([]) ++ a0.reaches).getD (Int.toNat (Int.tmod (IntKind.i64.wrap a3) ((([]) ++ a0.reaches).length : Int))) (default : Reach)).delay, cap := (if (IntKind.i64.wrap (((([]) ++ a0.reaches).getD (Int.toNat (Int.tmod (IntKind.i64.wrap a3) ((([]) ++ a0.reaches).length : Int))) (default : Reach)).cap + (IntKind.i64.wrap a4))) < 1073741824 then (IntKind.i64.wrap (((([]) ++ a0.reaches).getD (Int.toNat (Int.tmod (IntKind.i64.wrap a3) ((([]) ++ a0.reaches).length : Int))) (default : Reach)).cap + (IntKind.i64.wrap a4))) else 1073741824), bank := ((([]) ++ a0.reaches).getD (Int.toNat (Int.tmod (IntKind.i64.wrap a3) ((([]) ++ a0.reaches).length : Int))) (default : Reach)).bank, siphon := ((([]) ++ a0.reaches).getD (Int.toNat (Int.tmod (IntKind.i64.wrap a3) ((([]) ++ a0.reaches).length : Int))) (default : Reach)).siphon, evap := ((([]) ++ a0.reaches).getD (Int.toNat (Int.tmod (IntKind.i64.wrap a3) ((([]) ++ a0.reaches).length : Int))) (default : Reach)).evap, seep := ((([]) ++ a0.reaches).getD (Int.toNat (Int.tmod (IntKind.i64.wrap a3) ((([]) ++ a0.reaches).length : Int))) (default : Reach)).seep } : Reach)).set (Int.toNat (Int.tmod (IntKind.i64.wrap a3) ((([]) ++ a0.reaches).length : Int))) ({ name := (((([]) ++ a0.reaches).set (Int.toNat (Int.tmod (IntKind.i64.wrap a3) ((([]) ++ a0.reaches).length : Int))) ({ name := ((([]) ++ a0.reaches).getD (Int.toNat (Int.tmod (IntKind.i64.wrap a3) ((([]) ++ a0.reaches).length : Int))) (default : Reach)).name, up := ((([]) ++ a0.reaches).getD (Int.toNat (Int.tmod (IntKind.i64.wrap a3) ((([]) ++ a0.reaches).length : Int))) (default : Reach)).up, delay := ((([]) ++ a0.reaches).getD (Int.toNat (Int.tmod (IntKind.i64.wrap a3) ((([]) ++ a0.reaches).length : Int))) (default : Reach)).delay, cap := (if (IntKind.i64.wrap (((([]) ++ a0.reaches).getD (Int.toNat (Int.tmod (IntKind.i64.wrap a3) ((([]) ++ a0.reaches).length : Int))) (default : Reach)).cap + (IntKind.i64.wrap a4))) < 1073741824 then (IntKind.i64.wrap (((([]) ++ a0.reaches).getD (Int.toNat (Int.tmod (IntKind.i64.wrap a3) ((([]) ++ a0.reaches).length : Int))) (default : Reach)).cap + (IntKind.i64.wrap a4))) else 1073741824), bank := ((([]) ++ a0.reaches).getD (Int.toNat (Int.tmod (IntKind.i64.wrap a3) ((([]) ++ a0.reaches).length : Int))) (default : Reach)).bank, siphon := ((([]) ++ a0.reaches).getD (Int.toNat (Int.tmod (IntKind.i64.wrap a3) ((([]) ++ a0.reaches).length : Int))) (default : Reach)).siphon, evap := ((([]) ++ a0.reaches).getD (Int.toNat (Int.tmod (IntKind.i64.wrap a3) ((([]) ++ a0.reaches).length : Int))) (default : Reach)).evap, seep := ((([]) ++ a0.reaches).getD (Int.toNat (Int.tmod (IntKind.i64.wrap a3) ((([]) ++ a0.reaches).length : Int))) (default : Reach)).seep } : Reach)).getD (Int.toNat (Int.tmod (IntKind.i64.wrap a3) ((([]) ++ a0.reaches).length : Int))) (default : Reach)).name, up := (((([]) ++ a0.reaches).set (Int.toNat (Int.tmod (IntKind.i64.wrap a3) ((([]) ++ a0.reaches).length : Int))) ({ name := ((([]) ++ a0.reaches).getD (Int.toNat (Int.tmod (IntKind.i64.wrap a3) ((([]) ++ a0.reaches).length : Int))) (default : Reach)).name, up := ((([]) ++ a0.reaches).getD (Int.toNat (Int.tmod (IntKind.i64.wrap a3) ((([]) ++ a0.reaches).length : Int))) (default : Reach)).up, delay := ((([]) ++ a0.reaches).getD (Int.toNat (Int.tmod (IntKind.i64.wrap a3) ((([]) ++ a0.reaches).length : Int))) (default : Reach)).delay, cap := (if (IntKind.i64.wrap (((([]) ++ a0.reaches).getD (Int.toNat (Int.tmod (IntKind.i64.wrap a3) ((([]) ++ a0.reaches).length : Int))) (default : Reach)).cap + (IntKind.i64.wrap a4))) < 1073741824 then (IntKind.i64.wrap (((([]) ++ a0.reaches).getD (Int.toNat (Int.tmod (IntKind.i64.wrap a3) ((([]) ++ a0.reaches).length : Int))) (default : Reach)).cap + (IntKind.i64.wrap a4))) else 1073741824), bank := ((([]) ++ a0.reaches).getD (Int.toNat (Int.tmod (IntKind.i64.wrap a3) ((([]) ++ a0.reaches).length : Int))) (default : Reach)).bank, siphon := ((([]) ++ a0.reaches).getD (Int.toNat (Int.tmod (IntKind.i64.wrap a3) ((([]) ++ a0.reaches).length : Int))) (default : Reach)).siphon, evap := ((([]) ++ a0.reaches).getD (Int.toNat (Int.tmod (IntKind.i64.wrap a3) ((([]) ++ a0.reaches).length : Int))) (default : Reach)).evap, seep := ((([]) ++ a0.reaches).getD (Int.toNat (Int.tmod (IntKind.i64.wrap a3) ((([]) ++ a0.reaches).length : Int))) (default : Reach)).seep } : Reach)).getD (Int.toNat (Int.tmod (IntKind.i64.wrap a3) ((([]) ++ a0.reaches).length : Int))) (default : Reach)).up, delay := (((([]) ++ a0.reaches).set (Int.toNat (Int.tmod (IntKind.i64.wrap a3) ((([]) ++ a0.reaches).length : Int))) ({ name := ((([]) ++ a0.reaches).getD (Int.toNat (Int.tmod (IntKind.i64.wrap a3) ((([]) ++ a0.reaches).length : Int))) (default : Reach)).name, up := ((([]) ++ a0.reaches).getD (Int.toNat (Int.tmod (IntKind.i64.wrap a3) ((([]) ++ a0.reaches).length : Int))) (default : Reach)).up, delay := ((([]) ++ a0.reaches).getD (Int.toNat (Int.tmod (IntKind.i64.wrap a3) ((([]) ++ a0.reaches).length : Int))) (default : Reach)).delay, cap := (if (IntKind.i64.wrap (((([]) ++ a0.reaches).getD (Int.toNat (Int.tmod (IntKind.i64.wrap a3) ((([]) ++ a0.reaches).length : Int))) (default : Reach)).cap + (IntKind.i64.wrap a4))) < 1073741824 then (IntKind.i64.wrap (((([]) ++ a0.reaches).getD (Int.toNat (Int.tmod (IntKind.i64.wrap a3) ((([]) ++ a0.reaches).length : Int))) (default : Reach)).cap + (IntKind.i64.wrap a4))) else 1073741824), bank := ((([]) ++ a0.reaches).getD (Int.toNat (Int.tmod (IntKind.i64.wrap a3) ((([]) ++ a0.reaches).length : Int))) (default : Reach)).bank, siphon := ((([]) ++ a0.reaches).getD (Int.toNat (Int.tmod (IntKind.i64.wrap a3) ((([]) ++ a0.reaches).length : Int))) (default : Reach)).siphon, evap := ((([]) ++ a0.reaches).getD (Int.toNat (Int.tmod (IntKind.i64.wrap a3) ((([]) ++ a0.reaches).length : Int))) (default : Reach)).evap, seep := ((([]) ++ a0.reaches).getD (Int.toNat (Int.tmod (IntKind.i64.wrap a3) ((([]) ++ a0.reaches).length : Int))) (default : Reach)).seep } : Reach)).getD (Int.toNat (Int.tmod (IntKind.i64.wrap a3) ((([]) ++ a0.reaches).length : Int))) (default : Reach)).delay, cap := (((([]) ++ a0.reaches).set (Int.toNat (Int.tmod (IntKind.i64.wrap a3) ((([]) ++ a0.reaches).length : Int))) ({ name := ((([]) ++ a0.reaches).getD (Int.toNat (Int.tmod (IntKind.i64.wrap a3) ((([]) ++ a0.reaches).length : Int))) (default : Reach)).name, up := ((([]) ++ a0.reaches).getD (Int.toNat (Int.tmod (IntKind.i64.wrap a3) ((([]) ++ a0.reaches).length : Int))) (default : Reach)).up, delay := ((([]) ++ a0.reaches).getD (Int.toNat (Int.tmod (IntKind.i64.wrap a3) ((([]) ++ a0.reaches).length : Int))) (default : Reach)).delay, cap := (if (IntKind.i64.wrap (((([]) ++ a0.reaches).getD (Int.toNat (Int.tmod (IntKind.i64.wrap a3) ((([]) ++ a0.reaches).length : Int))) (default : Reach)).cap + (IntKind.i64.wrap a4))) < 1073741824 then (IntKind.i64.wrap (((([]) ++ a0.reaches).getD (Int.toNat (Int.tmod (IntKind.i64.wrap a3) ((([]) ++ a0.reaches).length : Int))) (default : Reach)).cap + (IntKind.i64.wrap a4))) else 1073741824), bank := ((([]) ++ a0.reaches).getD (Int.toNat (Int.tmod (IntKind.i64.wrap a3) ((([]) ++ a0.reaches).length : Int))) (default : Reach)).bank, siphon := ((([]) ++ a0.reaches).getD (Int.toNat (Int.tmod (IntKind.i64.wrap a3) ((([]) ++ a0.reaches).length : Int))) (default : Reach)).siphon, evap := ((([]) ++ a0.reaches).getD (Int.toNat (Int.tmod (IntKind.i64.wrap a3) ((([]) ++ a0.reaches).length : Int))) (default : Reach)).evap, seep := ((([]) ++ a0.reaches).getD (Int.toNat (Int.tmod (IntKind.i64.wrap a3) ((([]) ++ a0.reaches).length : Int))) (default : Reach)).seep } : Reach)).getD (Int.toNat (Int.tmod (IntKind.i64.wrap a3) ((([]) ++ a0.reaches).length : Int))) (default : Reach)).cap, bank := (if (IntKind.i64.wrap (((([]) ++ a0.reaches).getD (Int.toNat (Int.tmod (IntKind.i64.wrap a3) ((([]) ++ a0.reaches).length : Int))) (default : Reach)).bank + (IntKind.i64.wrap a4))) < 1099511627776 then (IntKind.i64.wrap (((([]) ++ a0.reaches).getD (Int.toNat (Int.tmod (IntKind.i64.wrap a3) ((([]) ++ a0.reaches).length : Int))) (default : Reach)).bank + (IntKind.i64.wrap a4))) else 1099511627776), siphon := (((([]) ++ a0.reaches).set (Int.toNat (Int.tmod (IntKind.i64.wrap a3) ((([]) ++ a0.reaches).length : Int))) ({ name := ((([]) ++ a0.reaches).getD (Int.toNat (Int.tmod (IntKind.i64.wrap a3) ((([]) ++ a0.reaches).length : Int))) (default : Reach)).name, up := ((([]) ++ a0.reaches).getD (Int.toNat (Int.tmod (IntKind.i64.wrap a3) ((([]) ++ a0.reaches).length : Int))) (default : Reach)).up, delay := ((([]) ++ a0.reaches).getD (Int.toNat (Int.tmod (IntKind.i64.wrap a3) ((([]) ++ a0.reaches).length : Int))) (default : Reach)).delay, cap := (if (IntKind.i64.wrap (((([]) ++ a0.reaches).getD (Int.toNat (Int.tmod (IntKind.i64.wrap a3) ((([]) ++ a0.reaches).length : Int))) (default : Reach)).cap + (IntKind.i64.wrap a4))) < 1073741824 then (IntKind.i64.wrap (((([]) ++ a0.reaches).getD (Int.toNat (Int.tmod (IntKind.i64.wrap a3) ((([]) ++ a0.reaches).length : Int))) (default : Reach)).cap + (IntKind.i64.wrap a4))) else 1073741824), bank := ((([]) ++ a0.reaches).getD (Int.toNat (Int.tmod (IntKind.i64.wrap a3) ((([]) ++ a0.reaches).length : Int))) (default : Reach)).bank, siphon := ((([]) ++ a0.reaches).getD (Int.toNat (Int.tmod (IntKind.i64.wrap a3) ((([]) ++ a0.reaches).length : Int))) (default : Reach)).siphon, evap := ((([]) ++ a0.reaches).getD (Int.toNat (Int.tmod (IntKind.i64.wrap a3) ((([]) ++ a0.reaches).length : Int))) (default : Reach)).evap, seep := ((([]) ++ a0.reaches).getD (Int.toNat (Int.tmod (IntKind.i64.wrap a3) ((([]) ++ a0.reaches).length : Int))) (default : Reach)).seep } : Reach)).getD (Int.toNat (Int.tmod (IntKind.i64.wrap a3) ((([]) ++ a0.reaches).length : Int))) (default : Reach)).siphon, evap := (((([]) ++ a0.reaches).set (Int.toNat (Int.tmod (IntKind.i64.wrap a3) ((([]) ++ a0.reaches).length : Int))) ({ name := ((([]) ++ a0.reaches).getD (Int.toNat (Int.tmod (IntKind.i64.wrap a3) ((([]) ++ a0.reaches).length : Int))) (default : Reach)).name, up := ((([]) ++ a0.reaches).getD (Int.toNat (Int.tmod (IntKind.i64.wrap a3) ((([]) ++ a0.reaches).length : Int))) (default : Reach)).up, delay := ((([]) ++ a0.reaches).getD (Int.toNat (Int.tmod (IntKind.i64.wrap a3) ((([]) ++ a0.reaches).length : Int))) (default : Reach)).delay, cap := (if (IntKind.i64.wrap (((([]) ++ a0.reaches).getD (Int.toNat (Int.tmod (IntKind.i64.wrap a3) ((([]) ++ a0.reaches).length : Int))) (default : Reach)).cap + (IntKind.i64.wrap a4))) < 1073741824 then (IntKind.i64.wrap (((([]) ++ a0.reaches).getD (Int.toNat (Int.tmod (IntKind.i64.wrap a3) ((([]) ++ a0.reaches).length : Int))) (default : Reach)).cap + (IntKind.i64.wrap a4))) else 1073741824), bank := ((([]) ++ a0.reaches).getD (Int.toNat (Int.tmod (IntKind.i64.wrap a3) ((([]) ++ a0.reaches).length : Int))) (default : Reach)).bank, siphon := ((([]) ++ a0.reaches).getD (Int.toNat (Int.tmod (IntKind.i64.wrap a3) ((([]) ++ a0.reaches).length : Int))) (default : Reach)).siphon, evap := ((([]) ++ a0.reaches).getD (Int.toNat (Int.tmod (IntKind.i64.wrap a3) ((([]) ++ a0.reaches).length : Int))) (default : Reach)).evap, seep := ((([]) ++ a0.reaches).getD (Int.toNat (Int.tmod (IntKind.i64.wrap a3) ((([]) ++ a0.reaches).length : Int))) (default : Reach)).seep } : Reach)).getD (Int.toNat (Int.tmod (IntKind.i64.wrap a3) ((([]) ++ a0.reaches).length : Int))) (default : Reach)).evap, seep := (((([]) ++ a0.reaches).set (Int.toNat (Int.tmod (IntKind.i64.wrap a3) ((([]) ++ a0.reaches).length : Int))) ({ name := ((([]) ++ a0.reaches).getD (Int.toNat (Int.tmod (IntKind.i64.wrap a3) ((([]) ++ a0.reaches).length : Int))) (default : Reach)).name, up := ((([]) ++ a0.reaches).getD (Int.toNat (Int.tmod (IntKind.i64.wrap a3) ((([]) ++ a0.reaches).length : Int))) (default : Reach)).up, delay := ((([]) ++ a0.reaches).getD (Int.toNat (Int.tmod (IntKind.i64.wrap a3) ((([]) ++ a0.reaches).length : Int))) (default : Reach)).delay, cap := (if (IntKind.i64.wrap (((([]) ++ a0.reaches).getD (Int.toNat (Int.tmod (IntKind.i64.wrap a3) ((([]) ++ a0.reaches).length : Int))) (default : Reach)).cap + (IntKind.i64.wrap a4))) < 1073741824 then (IntKind.i64.wrap (((([]) ++ a0.reaches).getD (Int.toNat (Int.tmod (IntKind.i64.wrap a3) ((([]) ++ a0.reaches).length : Int))) (default : Reach)).cap + (IntKind.i64.wrap a4))) else 1073741824), bank := ((([]) ++ a0.reaches).getD (Int.toNat (Int.tmod (IntKind.i64.wrap a3) ((([]) ++ a0.reaches).length : Int))) (default : Reach)).bank, siphon := ((([]) ++ a0.reaches).getD (Int.toNat (Int.tmod (IntKind.i64.wrap a3) ((([]) ++ a0.reaches).length : Int))) (default : Reach)).siphon, evap := ((([]) ++ a0.reaches).getD (Int.toNat (Int.tmod (IntKind.i64.wrap a3) ((([]) ++ a0.reaches).length : Int))) (default : Reach)).evap, seep := ((([]) ++ a0.reaches).getD (Int.toNat (Int.tmod (IntKind.i64.wrap a3) ((([]) ++ a0.reaches).length : Int))) (default : Reach)).seep } : Reach)).getD (Int.toNat (Int.tmod (IntKind.i64.wrap a3) ((([]) ++ a0.reaches).length : Int))) (default : Reach)).seep } : Reach)), farms := a0.farms, crops := a0.crops, rights := a0.rights, duties := a0.duties, wells := a0.wells } : District) a1 a2).1)) = false → (a1.length ≤ maxL → (((a1.length : Int) == 0) = false → (a1.length ≤ maxL → ((a1.length : Int) ≠ 0 ∧ ((0 ≤ 0 ∧ 0 ≤ (Int.tmod (IntKind.i64.wrap a3) (a1.length : Int)) ∧ (Int.tmod (IntKind.i64.wrap a3) (a1.length : Int)) ≤ (a1.length : Int)) ∧ (((([]) ++ ((a1.take (Int.toNat (Int.tmod (IntKind.i64.wrap a3) (a1.length : Int)))).drop 0)).length * 40 ≤ maxB) ∧ ((([]) ++ ((a1.take (Int.toNat (Int.tmod (IntKind.i64.wrap a3) (a1.length : Int)))).drop 0)).length ≤ maxL → ((0 ≤ (IntKind.i64.wrap ((Int.tmod (IntKind.i64.wrap a3) (a1.length : Int)) + 1)) ∧ (IntKind.i64.wrap ((Int.tmod (IntKind.i64.wrap a3) (a1.length : Int)) + 1)) ≤ (a1.length : Int) ∧ (a1.length : Int) ≤ (a1.length : Int)) ∧ ((((([]) ++ ((a1.take (Int.toNat (Int.tmod (IntKind.i64.wrap a3) (a1.length : Int)))).drop 0)) ++ ((a1.take (Int.toNat (a1.length : Int))).drop (Int.toNat (IntKind.i64.wrap ((Int.tmod (IntKind.i64.wrap a3) (a1.length : Int)) + 1))))).length * 40 ≤ maxB) ∧ (((([]) ++ ((a1.take (Int.toNat (Int.tmod (IntKind.i64.wrap a3) (a1.length : Int)))).drop 0)) ++ ((a1.take (Int.toNat (a1.length : Int))).drop (Int.toNat (IntKind.i64.wrap ((Int.tmod (IntKind.i64.wrap a3) (a1.length : Int)) + 1))))).length ≤ maxL → (((([]) ++ a1).length * 40 ≤ maxB) ∧ ((([]) ++ a1).length ≤ maxL → ((0 ≤ (Int.tmod (IntKind.i64.wrap a3) (a1.length : Int)) ∧ (Int.tmod (IntKind.i64.wrap a3) (a1.length : Int)) < (a1.length : Int)) ∧ ((a1.getD (Int.toNat (Int.tmod (IntKind.i64.wrap a3) (a1.length : Int))) (default : Claim)).litres ≠ 0 ∧ ((0 ≤ (Int.tmod (IntKind.i64.wrap a3) (a1.length : Int)) ∧ (Int.tmod (IntKind.i64.wrap a3) (a1.length : Int)) < ((([]) ++ a1).length : Int)) ∧ ((certify_Accepts_p a0 ((([]) ++ ((a1.take (Int.toNat (Int.tmod (IntKind.i64.wrap a3) (a1.length : Int)))).drop 0)) ++ ((a1.take (Int.toNat (a1.length : Int))).drop (Int.toNat (IntKind.i64.wrap ((Int.tmod (IntKind.i64.wrap a3) (a1.length : Int)) + 1))))) a2) ∧ (certify_Accepts_p a0 ((([]) ++ a1).set (Int.toNat (Int.tmod (IntKind.i64.wrap a3) (a1.length : Int))) ({ right := ((([]) ++ a1).getD (Int.toNat (Int.tmod (IntKind.i64.wrap a3) (a1.length : Int))) (default : Claim)).right, farm := ((([]) ++ a1).getD (Int.toNat (Int.tmod (IntKind.i64.wrap a3) (a1.length : Int))) (default : Claim)).farm, hour := ((([]) ++ a1).getD (Int.toNat (Int.tmod (IntKind.i64.wrap a3) (a1.length : Int))) (default : Claim)).hour, litres := (IntKind.i64.wrap (1 + (Int.tmod (IntKind.i64.wrap a4) ((a1.getD (Int.toNat (Int.tmod (IntKind.i64.wrap a3) (a1.length : Int))) (default : Claim)).litres)))), rank := ((([]) ++ a1).getD (Int.toNat (Int.tmod (IntKind.i64.wrap a3) (a1.length : Int))) (default : Claim)).rank } : Claim)) a2)))))))))))))))))))))))))))))
def C_law28_CertifyLess : List SV → Option Con := (pD .district fun a0 => (pR .claim fun a1 => (pR .order fun a2 => (pV fun a3 => (pV fun a4 => pE (.det (law28_CertifyLess_p a0 a1 a2 a3 a4) (.v (.bool (law28_CertifyLess a0 a1 a2 a3 a4)))))))))
set_option maxHeartbeats 4000000 in
theorem ok_law28_CertifyLess : FnOk Try.prog 4 C_law28_CertifyLess := by
  have hG : ConsOk Try.prog (mkG [(7, C_law28_sane), (8, fun l => C_ref28_Few (nrmA [.st .district, .sl .claim, .sl .order] l)), (11, fun l => C_certify_Accepts (nrmA [.st .district, .sl .claim, .sl .order] l))] []) := mkG_ok (by
    intro x hx
    simp only [List.mem_cons, List.not_mem_nil, or_false] at hx
    rcases hx with rfl | rfl | rfl
    · exact ok_law28_sane
    · exact ok_ref28_Few.norm [.st .district, .sl .claim, .sl .order]
    · exact ok_certify_Accepts.norm [.st .district, .sl .claim, .sl .order]) (by simp)
  refine fn_okN [.o] mixed ts_ok hG (fn := Try.f4) (c := bodyOf Try.f4) (by kernel_rfl) (by kernel_rfl) (by kernel_rfl) (by kernel_rfl) fun l con h hp => ?_
  unfold C_law28_CertifyLess at h
  obtain ⟨a0, l0, rfl, h0⟩ := pD_inv h
  obtain ⟨a1, l1, rfl, h1⟩ := pR_inv h0
  obtain ⟨a2, l2, rfl, h2⟩ := pR_inv h1
  obtain ⟨a3, l3, rfl, h3⟩ := pV_inv h2
  obtain ⟨a4, l4, rfl, h4⟩ := pV_inv h3
  obtain ⟨rfl, rfl⟩ := pE_inv h4
  clear h h0 h1 h2 h3 h4
  dsimp only [conPre] at hp
  unfold law28_CertifyLess_p at hp
  refine ⟨Nat.le_of_ble_eq_true rfl, (fun id st => none), ?_, ?_⟩
  · unfold bodyOf Try.f4
    simp only [loopsOk, and_self, true_and, and_true]
  · unfold bodyOf Try.f4
    try unfold law28_CertifyLess
    simp only [go_sem, Nat.reduceBEq, Nat.reduceLeDiff, Nat.reduceAdd, Nat.reduceSub, Nat.reduceMul, Int.reduceLE, Int.reduceLT, Int.reduceToNat, Int.reduceNeg, reduceCtorEq, C_law28_sane, C_ref28_Few, C_certify_Accepts]
    all_goals (repeat' (first | with_reducible refine And.intro ?_ ?_ | with_reducible intro _))
    all_goals first
      | assumption
      | rfl
      | (clear hp; simp only [*, cond_true, cond_false, Bool.not_true, Bool.not_false, Bool.or_true, Bool.or_false, Bool.true_or, Bool.false_or, go_sem, Nat.reduceBEq, Nat.reduceLeDiff, Nat.reduceAdd, Nat.reduceSub, Nat.reduceMul, Int.reduceLE, Int.reduceLT, Int.reduceToNat, Int.reduceNeg, reduceCtorEq]; done)
      | (simp only [*, and_assoc, Bool.not_true, Bool.not_false, go_sem, Nat.reduceBEq, Nat.reduceLeDiff, Nat.reduceAdd, Nat.reduceSub, Nat.reduceMul, Int.reduceLE, Int.reduceLT, Int.reduceToNat, Int.reduceNeg, reduceCtorEq] at hp; (repeat (with_reducible rcases hp with ⟨_, hp⟩)); assumption)
end Go.Sx
end
section
namespace Go.Sx
open Go.Proofs
theorem getD_set {α : Type} (l : List α) (d r : α) (i k : Nat) (hi : i < l.length) : (l.set i r).getD k d = if k = i then r else l.getD k d := by
  rw [List.getD_eq_getElem?_getD, List.getElem?_set, List.getD_eq_getElem?_getD]
  by_cases h : k = i
  · subst h; simp [hi]
  · rw [if_neg (fun e => h e.symm), if_neg h]
theorem reach_caps {i : Int} {a : Reach} (h : expand_reach i a = true) : a.cap ≤ 1073741824 ∧ a.bank ≤ 1099511627776 ∧ 0 ≤ a.cap ∧ 0 ≤ a.bank := by
  unfold expand_reach at h
  cases hd : decide (i > 0) <;> rw [hd] at h <;> simp only [cond_true, cond_false, Bool.and_eq_true] at h
  all_goals
    have r1 := rising4 h.1.1.1.2
    have r2 := rising4 h.1.1.2
    omega
theorem wider_set {d x : District} (hc : expand_Check d = 0) {i : Nat} {r : Reach} (hi : i < d.reaches.length) (hr : x.reaches = d.reaches.set i r) (e1 : x.hours = d.hours) (e2 : x.farms = d.farms) (e3 : x.crops = d.crops) (e4 : x.rights = d.rights) (e5 : x.duties = d.duties)
    (a1 : r.up = (d.reaches.getD i default).up) (a2 : r.delay = (d.reaches.getD i default).delay) (a3 : r.siphon = (d.reaches.getD i default).siphon) (a4 : r.evap = (d.reaches.getD i default).evap) (a5 : r.seep = (d.reaches.getD i default).seep)
    (b1 : (d.reaches.getD i default).cap ≤ r.cap) (b2 : r.cap ≤ 1073741824) (b3 : (d.reaches.getD i default).bank ≤ r.bank) (b4 : r.bank ≤ 1099511627776)
    (c1 : d.tank.start ≤ x.tank.start) (c2 : x.tank.start ≤ x.tank.cap) (c3 : x.tank.cap ≤ 1099511627776) : Wider d x := by
  have hR := (check_right (d := d) (by simp [hc])).reach
  have g : ∀ k, x.reaches.getD k default = if k = i then r else d.reaches.getD k default := fun k => by rw [hr, getD_set _ _ _ _ _ hi]
  refine ⟨e1, e2, e3, e4, e5, by rw [hr, List.length_set], fun k => ?_, fun k => ?_, fun k => ?_, fun k => ?_, fun k => ?_, fun k => ?_, fun k hk => ?_, fun k => ?_, fun k hk => ?_, c1, c2, c3⟩
  all_goals (rw [g]; split)
  all_goals (first | (rename_i e; subst e; assumption) | rfl | exact Int.le_refl _ | skip)
  all_goals have := reach_caps (hR k hk); omega
theorem sane_E : law28_sane = true := sane_t
theorem tmod_lt {a : Int} {n : Nat} (h : 0 ≤ a) (hn : 0 < n) : 0 ≤ Int.tmod a (n : Int) ∧ Int.tmod a (n : Int) < (n : Int) ∧ (Int.tmod a (n : Int)).toNat < n := by
  rw [Int.tmod_eq_emod_of_nonneg h]
  have h1 := Int.emod_nonneg a (by omega : (n : Int) ≠ 0)
  have h2 := Int.emod_lt_of_pos a (by omega : 0 < (n : Int))
  omega
theorem acc_b {d : District} {c : List Claim} {l : List Order} (h : ((certify_Accepts d c l).2 != 0 || !(certify_Accepts d c l).1) = false) : certify_Accepts d c l = (true, 0) := by
  simp only [Bool.or_eq_false_iff, bne_eq_false_iff_eq, Bool.not_eq_false'] at h
  rw [← h.1, ← h.2]
theorem fewer_sub (c : List Claim) (k : Nat) : (c.take k ++ c.drop (k + 1)).Sublist c := by
  rw [← List.eraseIdx_eq_take_drop_succ]; exact List.eraseIdx_sublist c k
theorem fewer_len (c : List Claim) (k : Nat) : (c.take k ++ c.drop (k + 1)).length ≤ c.length := (fewer_sub c k).length_le
theorem sub_claimed {p : CertifyPlace} : ∀ {a c : List Claim}, a.Sublist c → (∀ x ∈ c, 1 ≤ x.litres ∧ x.litres ≤ 1073741824) → claimed p a ≤ claimed p c
  | _, _, .slnil, _ => Int.le_refl _
  | _, _, .cons x h, hl => by
    have := sub_claimed (p := p) h fun y hy => hl y (List.mem_cons_of_mem _ hy)
    have := hl x List.mem_cons_self
    show claimed p _ ≤ (if p = placeC x then x.litres else 0) + claimed p _
    split <;> omega
  | _, _, .cons₂ x h, hl => by
    have := sub_claimed (p := p) h fun y hy => hl y (List.mem_cons_of_mem _ hy)
    simp only [claimed]
    omega
theorem fewer_claimed {c : List Claim} (h : ∀ x ∈ c, 1 ≤ x.litres ∧ x.litres ≤ 1073741824) (p : CertifyPlace) (k : Nat) : claimed p (c.take k ++ c.drop (k + 1)) ≤ claimed p c := sub_claimed (fewer_sub c k) h
theorem getD_mem {α : Type} (l : List α) (d : α) {k : Nat} (h : k < l.length) : l.getD k d ∈ l := by
  rw [getD_el l d h]; exact List.getElem_mem _
theorem less_ok {d : District} {c : List Claim} {k : Nat} {n : Int} (hk : k < c.length) (h : ∀ x ∈ c, okC d x = true) (h1 : 1 ≤ n) (h2 : n ≤ (c.getD k default).litres) : ∀ x ∈ c.set k { right := (c.getD k default).right, farm := (c.getD k default).farm, hour := (c.getD k default).hour, litres := n, rank := (c.getD k default).rank }, okC d x = true := by
  intro x hx
  rcases List.mem_or_eq_of_mem_set hx with hx | rfl
  · exact h x hx
  · have := h _ (getD_mem c default hk)
    unfold okC at this ⊢
    simp only [Bool.and_eq_true, decide_eq_true_eq, beq_iff_eq] at this ⊢
    omega
theorem less_sorted {c : List Claim} {k : Nat} {n : Int} (hk : k < c.length) (h : c.Pairwise clt) : (c.set k { right := (c.getD k default).right, farm := (c.getD k default).farm, hour := (c.getD k default).hour, litres := n, rank := (c.getD k default).rank }).Pairwise clt := by
  rw [List.pairwise_iff_getElem] at h ⊢
  intro i j hi hj hij
  rw [List.length_set] at hi hj
  have := h i j hi hj hij
  have g : ∀ i (hi : i < c.length), ∃ x, (c.set k { right := (c.getD k default).right, farm := (c.getD k default).farm, hour := (c.getD k default).hour, litres := n, rank := (c.getD k default).rank })[i]'(by rw [List.length_set]; exact hi) = x ∧ x.right = c[i].right ∧ x.farm = c[i].farm ∧ x.hour = c[i].hour ∧ x.rank = c[i].rank := fun i hi => by
    refine ⟨_, rfl, ?_⟩
    rw [List.getElem_set]
    by_cases e : k = i
    · subst e; rw [if_pos rfl, getD_el c default hk]; exact ⟨rfl, rfl, rfl, rfl⟩
    · rw [if_neg e]; exact ⟨rfl, rfl, rfl, rfl⟩
  obtain ⟨x, h1, h2⟩ := g i hi
  obtain ⟨y, h3, h4⟩ := g j hj
  rw [h1, h3]
  unfold clt at this ⊢
  rw [h2.1, h2.2.1, h2.2.2.1, h2.2.2.2, h4.1, h4.2.1, h4.2.2.1, h4.2.2.2]
  exact this
theorem less_claimed {c : List Claim} {k : Nat} {n : Int} (hk : k < c.length) (h : n ≤ (c.getD k default).litres) (p : CertifyPlace) : claimed p (c.set k { right := (c.getD k default).right, farm := (c.getD k default).farm, hour := (c.getD k default).hour, litres := n, rank := (c.getD k default).rank }) ≤ claimed p c := by
  rw [getD_el c default hk] at h ⊢
  have e : c = c.take k ++ c[k] :: c.drop (k + 1) := by rw [← List.drop_eq_getElem_cons hk, List.take_append_drop]
  rw [List.set_eq_take_append_cons_drop, if_pos hk, claimed_app]
  conv => rhs; rw [e, claimed_app]
  simp only [claimed, placeC]
  have : (if p = { hour := c[k].hour, index := c[k].farm, outlet := true } then n else 0) ≤ (if p = { hour := c[k].hour, index := c[k].farm, outlet := true } then c[k].litres else 0) := by split <;> omega
  exact Int.add_le_add_left (Int.add_le_add_right this _) _
theorem less_t (d : District) (c : List Claim) (l : List Order) (a b : Int) (ha : 0 ≤ a ∧ a ≤ 255) (hb : 0 ≤ b ∧ b ≤ 255) : law28_CertifyLess d c l a b = true := by
  unfold law28_CertifyLess
  rw [sane_E]
  simp only [Bool.not_true, cond_false]
  cases hf : ref28_Few d c l with
  | false => rfl
  | true =>
    simp only [Bool.not_true, cond_false]
    cases h0 : ((certify_Accepts d c l).2 != 0 || !(certify_Accepts d c l).1) with
    | true => rfl
    | false =>
      have h := acc_b h0
      have hq := (accepts_iff d c l).1 h
      have hc := ((claims_iff d c).1 hq.1)
      have hR := check_right (d := d) (by simp [hc.1])
      have hst := (check_split d).1 hc.1
      simp only [cond_false]
      have wa : IntKind.i64.wrap a = a := wrapI (by omega) (by omega)
      have wb : IntKind.i64.wrap b = b := wrapI (by omega) (by omega)
      rw [wa, wb]
      simp only [List.nil_append]
      obtain ⟨i0, i1, i2⟩ := tmod_lt ha.1 hR.one
      generalize hi : (Int.tmod a (d.reaches.length : Int)).toNat = i at i2 ⊢
      have g : ∀ r, (d.reaches.set i r).getD i default = r := fun r => by rw [getD_set _ _ _ _ _ i2, if_pos rfl]
      simp only [List.set_set, g]
      have hcap := reach_caps (hR.reach i i2)
      have w1 : IntKind.i64.wrap ((d.reaches.getD i default).cap + b) = (d.reaches.getD i default).cap + b := wrapI (by omega) (by omega)
      have w2 : IntKind.i64.wrap ((d.reaches.getD i default).bank + b) = (d.reaches.getD i default).bank + b := wrapI (by omega) (by omega)
      have w3 : IntKind.i64.wrap (d.tank.cap + b) = d.tank.cap + b := wrapI (by omega) (by omega)
      have w4 : IntKind.i64.wrap (d.tank.start + b) = d.tank.start + b := wrapI (by omega) (by omega)
      rw [w1, w2, w3, w4]
      have hx : ∀ X, Wider d X → certify_Accepts X c l = (true, 0) := fun X w => accepts_wider w h
      rw [hx _ ?_]
      rotate_left
      · refine wider_set hc.1 i2 rfl rfl rfl rfl rfl rfl rfl rfl rfl rfl rfl ?_ ?_ ?_ ?_ ?_ ?_ ?_
        all_goals (dsimp only; repeat' split)
        all_goals omega
      simp only [bne_self_eq_false, Bool.not_true, Bool.or_self, cond_false]
      cases he : ((c.length : Int) == 0) with
      | true => rfl
      | false =>
        simp only [beq_eq_false_iff_ne, ne_eq] at he
        simp only [cond_false]
        have hn : 0 < c.length := by omega
        obtain ⟨j0, j1, j2⟩ := tmod_lt ha.1 hn
        have wk : (IntKind.i64.wrap (Int.tmod a (c.length : Int) + 1)).toNat = (Int.tmod a (c.length : Int)).toNat + 1 := by
          have := hc.2.1
          rw [wrapI (by omega) (by omega)]; omega
        rw [wk]
        generalize hk : (Int.tmod a (c.length : Int)).toNat = k at j2 ⊢
        simp only [List.drop_zero, Int.toNat_natCast, List.take_length]
        rw [accepts_fewer h (fewer_len c k) (fun x hx => hc.2.2.1 x (fewer_sub c k |>.subset hx)) (hc.2.2.2.sublist (fewer_sub c k)) (fun p => fewer_claimed (fun x hx => okC_litres (hc.2.2.1 x hx)) p k)]
        have hl := okC_litres (hc.2.2.1 _ (getD_mem c default j2))
        have hm0 : 0 ≤ Int.tmod b (c.getD k default).litres ∧ Int.tmod b (c.getD k default).litres < (c.getD k default).litres := by
          rw [Int.tmod_eq_emod_of_nonneg hb.1]
          exact ⟨Int.emod_nonneg _ (by omega), Int.emod_lt_of_pos _ (by omega)⟩
        have wl : IntKind.i64.wrap (1 + Int.tmod b (c.getD k default).litres) = 1 + Int.tmod b (c.getD k default).litres := wrapI (by omega) (by omega)
        rw [wl]
        generalize Int.tmod b (c.getD k default).litres = m at hm0
        rw [accepts_fewer h (Nat.le_of_eq (List.length_set ..)) (less_ok j2 hc.2.2.1 (by omega) (by omega)) (less_sorted j2 hc.2.2.2) (less_claimed j2 (by omega))]
        rfl
end Go.Sx
end
section
namespace Go.Sx
open Go.Proofs
theorem less_p (d : District) (c : List Claim) (l : List Order) (a b : Int) (ha : 0 ≤ a ∧ a ≤ 255) (hb : 0 ≤ b ∧ b ≤ 255) : law28_CertifyLess_p d c l a b := by
  have acc_T : ∀ d c l, certify_Accepts_p d c l = True := fun d c l => eq_true (accepts_pt d c l)
  unfold law28_CertifyLess_p
  simp only [acc_T, true_and, and_true, implies_true]
  refine ⟨sane_p, fun _ _ h0 => ?_⟩
  have h := acc_b h0
  have hq := (accepts_iff d c l).1 h
  have hc := ((claims_iff d c).1 hq.1)
  have hR := check_right (d := d) (by simp [hc.1])
  have hst := (check_split d).1 hc.1
  have wa : IntKind.i64.wrap a = a := wrapI (by omega) (by omega)
  have wb : IntKind.i64.wrap b = b := wrapI (by omega) (by omega)
  rw [wa]
  simp only [List.nil_append]
  obtain ⟨i0, i1, i2⟩ := tmod_lt ha.1 hR.one
  have c1 := hR.one
  have c2 := hR.reaches
  have c3 := hc.2.1
  refine ⟨by unfold maxB; omega, fun _ _ => ⟨by omega, ⟨i0, i1⟩, fun _ _ he => ?_⟩⟩
  simp only [beq_eq_false_iff_ne, ne_eq] at he
  have hn : 0 < c.length := by omega
  obtain ⟨j0, j1, j2⟩ := tmod_lt ha.1 hn
  have wk : IntKind.i64.wrap (Int.tmod a (c.length : Int) + 1) = Int.tmod a (c.length : Int) + 1 := wrapI (by omega) (by omega)
  have hl := okC_litres (hc.2.2.1 _ (getD_mem c default j2))
  rw [wk]
  have m1 : ((c.take (Int.tmod a (c.length : Int)).toNat).drop 0).length ≤ 4096 := by simp; omega
  have m2 : ((c.take (c.length : Int).toNat).drop (Int.tmod a (c.length : Int) + 1).toNat).length ≤ 4096 := by simp; omega
  repeat' (first | refine And.intro ?_ ?_ | intro _)
  all_goals (first | omega | (rw [List.length_append]; unfold maxB; omega) | (unfold maxB; omega) | skip)
end Go.Sx
end
