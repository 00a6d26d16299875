/- Part of the proof that the law CertifySpec returns true and leaves its arguments as they were, for all arguments of bulk at most 1048576 (the Upto form). -/
import Derived.Test.YtnhhdmkikgdfkaaGreatA12
import Derived.Test.YtnhhdmkikgdfkaaGreatA06
import Derived.Deep.Slices
import Derived.OpenShut
import Derived.Test.YtnhhdmkikgdfkaaGreatA07
import Derived.ChangeSame
import Derived.WideKeyArgs
import Derived.Below
import Derived.Test.YtnhhdmkikgdfkaaGreatRows
import Derived.WalkKit
import Derived.ProofKit
import Derived.JoinedCond
import Derived.Carry
set_option linter.all false
section
namespace Go.Sx
open Go.Proofs
def wR (d : District) (l : List Order) (h r : Nat) : List Fault :=
  bif decide ((ref28_drawn d l (r : Int) (h : Int)) > (ref28_arrives d l (r : Int) (h : Int))) then [{ kind := 5, hour := (h : Int), index := (r : Int), litres := ref28_drawn d l (r : Int) (h : Int), limit := ref28_arrives d l (r : Int) (h : Int) }] else []
theorem wR_len (d : District) (l : List Order) (h r : Nat) : (wR d l h r).length ≤ 1 := by
  unfold wR; rw [Bool.cond_eq_ite]; split <;> simp
theorem waterR_step (d : District) (l : List Order) (h r : Nat) (s : List Fault) : ref28_water_l1 d l h r s = .inr (s ++ wR d l h r) := by
  unfold ref28_water_l1 wR
  rw [Bool.cond_eq_ite, Bool.cond_eq_ite]; split <;> simp
theorem waterR_row (d : District) (l : List Order) (h : Nat) (s : List Fault) : ref28_water_l0 d l h s = .inr (s ++ (List.range' 0 d.reaches.length).flatMap (wR d l h)) := by
  unfold ref28_water_l0
  rw [runI_app (waterR_step d l h)]
theorem waterR_run (d : District) (l : List Order) : ref28_water d l = (List.range' 0 d.hours.toNat).flatMap fun h => (List.range' 0 d.reaches.length).flatMap (wR d l h) := by
  unfold ref28_water
  rw [runI_app (waterR_row d l), List.nil_append]
theorem drawn_eq {d : District} {l : List Order} (ho : Orders1 d l) (r h : Int) : ref28_drawn d l r h = osum (drawP d r h) l := by
  unfold ref28_drawn
  rw [sum_run (step := ref28_drawn_l0 d l r h) (p := drawP d r h) ho.len ho.lit fun k s => rfl]
theorem water_eq {d : District} {l : List Order} (h0 : (certify_read d l).2 = 0) (ho : Orders1 d l) (ht : (certify_read d l).1.d = d) (h2 : Table2 d l (certify_read d l).1) : ref28_water d l = (certify_cells (certify_read d l).1).flatMap (wF (certify_read d l).1) := by
  rw [waterR_run, cells_flat, ht]
  refine flat_congr fun h hh => flat_congr fun r hr => ?_
  rw [List.mem_range'_1] at hh hr
  unfold wR wF
  rw [arrives_eq h0, drawn_eq ho]
  simp only [Int.toNat_natCast]
  have c1 : ((certify_read d l).1.drawn.getD r default).getD h 0 = osum (drawP d r h) l := h2.drawn r h (by omega) (by omega)
  simp only [c1]
theorem opened_eq {d : District} {l : List Order} (ho : Orders1 d l) (f h : Int) : ref28_opened l f h = osum (placeP h f true) l := by
  unfold ref28_opened
  have hp : ∀ x : Order, ((x.outlet && x.index == f) && x.hour == h) = placeP h f true x := fun x => by
    unfold placeP
    cases x.outlet <;> cases (x.index == f) <;> cases (x.hour == h) <;> rfl
  cases hr : runI (ref28_opened_l0 l f h) l.length 0 () with
  | inl y =>
    obtain ⟨j, _, hj, e⟩ := runI_inl hr
    have hj : j < l.length := by omega
    unfold ref28_opened_l0 at e
    rw [getD_el _ _ hj, hp] at e
    cases hq : placeP h f true l[j] with
    | false => rw [hq] at e; simp at e
    | true =>
      rw [hq] at e
      simp only [cond_true, Sum.inl.injEq] at e
      dsimp only
      rw [osum_one hj hq fun i hi hne => ?_, e]
      cases hq2 : placeP h f true l[i] with
      | false => rfl
      | true =>
        unfold placeP at hq hq2
        simp only [Bool.and_eq_true, beq_iff_eq] at hq hq2
        exact absurd (ho.uniq hi hj (hq2.1.1.trans hq.1.1.symm) (hq2.1.2.trans hq.1.2.symm) (hq2.2.trans hq.2.symm)) hne
  | inr y =>
    dsimp only
    refine (osum_none fun x hx => ?_).symm
    obtain ⟨j, hj, rfl⟩ := List.getElem_of_mem hx
    have := runI_unitG hr j (by omega) (by omega)
    unfold ref28_opened_l0 at this
    rw [getD_el _ _ hj, hp] at this
    cases hq : placeP h f true l[j] with
    | false => rfl
    | true => rw [hq] at this; simp at this
theorem claimedR_eq {c : List Claim} (hl : c.length ≤ 4096) (h : ∀ a ∈ c, 1 ≤ a.litres ∧ a.litres ≤ 1073741824) (f hr : Int) : ref28_claimed c f hr = claimed { hour := hr, index := f, outlet := true } c := by
  unfold ref28_claimed
  cases hs : runI (ref28_claimed_l0 c f hr) c.length 0 0 with
  | inl x => exact x.elim
  | inr m =>
    have := runI_inv (fun j s => s = claimed { hour := hr, index := f, outlet := true } (c.take j)) _ _ _ (by simp [claimed]) (fun j s _ hj hg s' hs' => by
      have hj : j < c.length := by omega
      unfold ref28_claimed_l0 at hs'
      rw [getD_el _ _ hj] at hs'
      rw [List.take_succ_eq_append_getElem hj, claimed_app, ← hg]
      have hb := claimed_bound { hour := hr, index := f, outlet := true } (c.take j) fun a ha => h a (List.mem_of_mem_take ha)
      have hb2 := h c[j] (List.getElem_mem _)
      have hb3 : (c.take j).length ≤ 4096 := by rw [List.length_take]; omega
      simp only [claimed, placeC, CertifyPlace.mk.injEq, and_true]
      cases hd : (c[j].farm == f && c[j].hour == hr) with
      | true =>
        rw [hd] at hs'
        simp only [Bool.and_eq_true, beq_iff_eq] at hd
        simp only [cond_true, Sum.inr.injEq] at hs'
        rw [if_pos ⟨hd.2.symm, hd.1.symm⟩, ← hs', wrapI (by omega) (by omega)]; omega
      | false =>
        rw [hd] at hs'
        simp only [cond_false, Sum.inr.injEq] at hs'
        rw [if_neg (fun e => by rw [Bool.and_eq_false_iff] at hd; rcases hd with hd | hd <;> simp at hd <;> omega), ← hs']; omega) m hs
    rw [Nat.zero_add, List.take_length] at this
    exact this
def hourF (d : District) (c : List Claim) (l : List Order) (h : Int) (f : Nat) : List Fault :=
  bif decide ((ref28_opened l (f : Int) h) < (ref28_claimed c (f : Int) h)) then [{ kind := 6, hour := h, index := (f : Int), litres := ref28_opened l (f : Int) h, limit := ref28_claimed c (f : Int) h }] else []
def hourFs (d : District) (c : List Claim) (l : List Order) (h : Int) : List Fault := (List.range' 0 d.farms.length).flatMap (hourF d c l h)
def unR (d : District) (c : List Claim) (l : List Order) (k : Nat) : List Fault :=
  bif (decide ((k : Int) > 0) && ((c.getD (IntKind.i64.wrap ((k : Int) - 1)).toNat default).hour == (c.getD k default).hour)) then [] else hourFs d c l (c.getD k default).hour
theorem hourF_len (d : District) (c : List Claim) (l : List Order) (h : Int) (f : Nat) : (hourF d c l h f).length ≤ 1 := by
  unfold hourF; rw [Bool.cond_eq_ite]; split <;> simp
theorem unmetR_in (d : District) (c : List Claim) (l : List Order) (k f : Nat) (s : List Fault) : ref28_unmet_l1 d c l k f s = .inr (s ++ hourF d c l (c.getD k default).hour f) := by
  unfold ref28_unmet_l1 hourF
  rw [Bool.cond_eq_ite, Bool.cond_eq_ite]; split <;> simp
theorem unmetR_step (d : District) (c : List Claim) (l : List Order) (k : Nat) (s : List Fault) : ref28_unmet_l0 d c l k s = .inr (s ++ unR d c l k) := by
  unfold ref28_unmet_l0 unR hourFs
  rw [runI_app (unmetR_in d c l k), Bool.cond_eq_ite, Bool.cond_eq_ite]
  split <;> simp
theorem unmetR_run (d : District) (c : List Claim) (l : List Order) : ref28_unmet d c l = (List.range' 0 c.length).flatMap (unR d c l) := by
  unfold ref28_unmet
  rw [runI_app (unmetR_step d c l), List.nil_append]
def walkF (F : Int → List Fault) : Option Int → List Claim → List Fault
  | _, [] => []
  | p, x :: r => (if p = some x.hour then [] else F x.hour) ++ walkF F (some x.hour) r
theorem flat_nil {α β : Type} {f : α → List β} {l : List α} (h : ∀ x ∈ l, f x = []) : l.flatMap f = [] := by
  rw [List.flatMap_eq_nil_iff]; exact h
theorem walk_hours {F : Int → List Fault} {H : Nat} : ∀ (c : List Claim) (a : Nat) (p : Option Int), c.Pairwise (fun x y => x.hour ≤ y.hour) → (p = none ∨ p = some ((a : Int) - 1)) → (∀ x ∈ c, ((a : Int) ≤ x.hour ∨ p = some x.hour) ∧ x.hour < H) → (∀ h : Nat, a ≤ h → h < H → (∀ x ∈ c, x.hour ≠ (h : Int)) → F h = []) → a ≤ H →
    (List.range' a (H - a)).flatMap (fun (h : Nat) => F (h : Int)) = walkF F p c
  | [], a, p, _, _, _, hF, _ => flat_nil fun h hh => by
    rw [List.mem_range'_1] at hh
    exact hF h (by omega) (by omega) (fun x hx => by cases hx)
  | x :: r, a, p, hs, hp, hx, hF, ha => by
    rw [List.pairwise_cons] at hs
    have hx0 := hx x List.mem_cons_self
    unfold walkF
    by_cases he : p = some x.hour
    · rw [if_pos he, List.nil_append, ← he]
      have hq : x.hour = (a : Int) - 1 := by
        rcases hp with hp | hp
        · rw [hp] at he; cases he
        · rw [hp] at he; exact (Option.some.inj he).symm
      exact walk_hours r a p hs.2 hp (fun y hy => hx y (List.mem_cons_of_mem _ hy)) (fun h h1 h2 h3 => hF h h1 h2 fun y hy => by
        rcases List.mem_cons.1 hy with rfl | hy
        · omega
        · exact h3 y hy) ha
    · rw [if_neg he]
      have h1 : (a : Int) ≤ x.hour := hx0.1.resolve_right he
      obtain ⟨h, hh⟩ := Int.eq_ofNat_of_zero_le (by omega : 0 ≤ x.hour)
      have hlt : h < H := by have := hx0.2; omega
      have e : List.range' a (H - a) = List.range' a (h - a) ++ (h :: List.range' (h + 1) (H - (h + 1))) := by
        have e1 : H - a = (h - a) + ((H - (h + 1)) + 1) := by omega
        rw [e1, ← List.range'_append_1, List.range'_succ]
        have e2 : a + (h - a) = h := by omega
        rw [e2]
      rw [e, List.flatMap_append, List.flatMap_cons]
      rw [flat_nil fun k hk => ?_, List.nil_append, hh]
      · rw [walk_hours r (h + 1) (some (h : Int)) hs.2 (.inr (by congr 1; omega)) (fun y hy => ?_) (fun k k1 k2 k3 => ?_) (by omega)]
        · have := hs.1 y hy
          have := (hx y (List.mem_cons_of_mem _ hy)).2
          refine ⟨?_, this⟩
          by_cases e : y.hour = (h : Int)
          · exact .inr (by rw [e])
          · exact .inl (by omega)
        · refine hF k (by omega) k2 fun y hy => ?_
          rcases List.mem_cons.1 hy with rfl | hy
          · omega
          · exact k3 y hy
      · rw [List.mem_range'_1] at hk
        refine hF k (by omega) (by omega) fun y hy => ?_
        rcases List.mem_cons.1 hy with rfl | hy
        · omega
        · have := hs.1 y hy; omega
theorem walk_index {F : Int → List Fault} (c : List Claim) : ∀ (n i : Nat), i + n = c.length → (List.range' i n).flatMap (fun k => bif (decide (0 < k) && ((c.getD (k - 1) default).hour == (c.getD k default).hour)) then [] else F (c.getD k default).hour) = walkF F (if 0 < i then some (c.getD (i - 1) default).hour else none) (c.drop i)
  | 0, i, h => by
    rw [List.drop_of_length_le (by omega)]
    rfl
  | n + 1, i, h => by
    have hi : i < c.length := by omega
    rw [List.range'_succ, List.flatMap_cons, walk_index c n (i + 1) (by omega), List.drop_eq_getElem_cons hi]
    simp only [walkF, Nat.zero_lt_succ, if_true, Nat.add_sub_cancel]
    rw [getD_el c default hi]
    congr 1
    by_cases h0 : 0 < i
    · rw [if_pos h0]
      simp only [h0, decide_true, Bool.true_and]
      by_cases he : (c.getD (i - 1) default).hour = c[i].hour
      · rw [he]; simp
      · rw [if_neg (fun e => he (Option.some.inj e)), beq_eq_false_iff_ne.2 he]; rfl
    · rw [if_neg h0]
      simp [h0]
theorem unmet_eq {d : District} {c : List Claim} {l : List Order} {t : CertifyTable} (ho : Orders1 d l) (ht : t.d = d) (h2 : Table2 d l t) (hl : c.length ≤ 4096) (hc : ∀ a ∈ c, okC d a = true) (hs : c.Pairwise clt) :
    ref28_unmet d c l = (List.range' 0 t.d.hours.toNat).flatMap fun h => (List.range' 0 t.d.farms.length).flatMap (uF t (claimedM c) h) := by
  have hlit : ∀ a ∈ c, 1 ≤ a.litres ∧ a.litres ≤ 1073741824 := fun a ha => okC_litres (hc a ha)
  have hh : ∀ a ∈ c, 0 ≤ a.hour ∧ a.hour < d.hours := fun a ha => by
    have := hc a ha
    unfold okC at this
    simp only [Bool.and_eq_true, decide_eq_true_eq] at this
    omega
  have e1 : ∀ h : Nat, (List.range' 0 t.d.farms.length).flatMap (uF t (claimedM c) h) = hourFs d c l (h : Int) := fun h => by
    unfold hourFs
    rw [ht]
    refine flat_congr fun f hf => ?_
    unfold uF hourF
    rw [h2.lit, claimedM_get hl hlit, opened_eq ho, claimedR_eq hl hlit]
  rw [unmetR_run, ht]
  have e2 : (List.range' 0 c.length).flatMap (unR d c l) = (List.range' 0 c.length).flatMap (fun k => bif (decide (0 < k) && ((c.getD (k - 1) default).hour == (c.getD k default).hour)) then [] else hourFs d c l (c.getD k default).hour) := flat_congr fun k hk => by
    rw [List.mem_range'_1] at hk
    unfold unR
    by_cases h0 : 0 < k
    · rw [wrap_pred (by omega) h0, Int.toNat_natCast]
      have : decide ((k : Int) > 0) = decide (0 < k) := by simp
      rw [this]
    · have : k = 0 := by omega
      subst this
      rfl
  rw [e2, walk_index c c.length 0 (by omega), List.drop_zero, if_neg (Nat.lt_irrefl 0)]
  have hr := ho.right.hours1
  rw [← walk_hours (F := hourFs d c l) (H := d.hours.toNat) c 0 none (hs.imp fun h => by unfold clt at h; omega) (.inl rfl) (fun x hx => ⟨.inl (hh x hx).1, by have := (hh x hx).2; omega⟩) (fun h _ _ h3 => ?_) (by omega)]
  · rw [ht] at e1
    exact flat_congr fun h _ => (e1 h).symm
  · unfold hourFs
    refine flat_nil fun f _ => ?_
    unfold hourF
    rw [opened_eq ho, claimedR_eq hl hlit]
    have hz : claimed { hour := (h : Int), index := (f : Int), outlet := true } c = 0 := by
      have : ∀ (c : List Claim), (∀ x ∈ c, x.hour ≠ (h : Int)) → claimed { hour := (h : Int), index := (f : Int), outlet := true } c = 0 := fun c => by
        induction c with
        | nil => intro _; rfl
        | cons y r ih =>
          intro hy
          simp only [claimed, placeC, CertifyPlace.mk.injEq]
          rw [if_neg (fun e => hy y List.mem_cons_self e.1.symm), ih fun z hz => hy z (List.mem_cons_of_mem _ hz)]
          rfl
      exact this c h3
    have := (all_le ho (placeP h f true)).1
    rw [hz, decide_eq_false (by omega)]
    rfl
end Go.Sx
end
section
namespace Go.Sx
open Go.Proofs
theorem valid26 (d : District) (a : Claim) : ref26_valid d a = okC d a := by
  unfold ref26_valid okC
  generalize d.rights.getD a.right.toNat default = r
  refine b_iff ?_
  have hb : ∀ (A q : Bool), (bif A then false else q) = true ↔ A = false ∧ q = true := fun A q => by cases A <;> simp
  rw [hb]
  simp only [Bool.or_eq_false_iff, Bool.and_eq_true, decide_eq_true_eq, decide_eq_false_iff_not, beq_iff_eq]
  omega
theorem before26 (a b : Claim) : ref26_Before a b = true ↔ clt a b := by
  unfold ref26_Before clt
  have hb : ∀ (A B C x y z u : Bool), (bif A then x else bif B then y else bif C then z else u) = true ↔ (A = true ∧ x = true) ∨ (A = false ∧ B = true ∧ y = true) ∨ (A = false ∧ B = false ∧ C = true ∧ z = true) ∨ (A = false ∧ B = false ∧ C = false ∧ u = true) := fun A B C x y z u => by cases A <;> cases B <;> cases C <;> simp
  rw [hb]
  simp only [bne_iff_ne, bne_eq_false_iff_eq, decide_eq_true_eq, ne_eq]
  omega
theorem claims_eq (d : District) (c : List Claim) : claims_Check d c = ref26_Check d c := by
  unfold claims_Check ref26_Check
  rw [check_eq]
  cases h1 : (ref19_Check d != 0) with
  | true => rfl
  | false =>
    simp only [cond_false]
    cases h2 : decide ((c.length : Int) > 4096) with
    | true => rfl
    | false =>
      simp only [cond_false]
      simp only [decide_eq_false_iff_not] at h2
      have hs : ∀ k, k < c.length → (claims_Check_l0 d c k () = .inr () ↔ ref26_Check_l0 d c k () = .inr ()) := fun k hk => by
        rw [claims_step (by omega)]
        unfold ref26_Check_l0
        rw [uy, valid26, Bool.or_eq_false_iff, Bool.not_eq_false']
        refine and_congr_right fun _ => ?_
        by_cases h0 : 0 < k
        · rw [wrap_pred (by omega) h0, Int.toNat_natCast, decide_eq_true (by omega : (k : Int) > 0), Bool.true_and, Bool.not_eq_false', before26]
          exact ⟨fun h => h h0, fun h _ => h⟩
        · rw [decide_eq_false (by omega)]
          simp [h0]
      have e : runI (claims_Check_l0 d c) c.length 0 () = .inr () ↔ runI (ref26_Check_l0 d c) c.length 0 () = .inr () := by
        rw [unit_iff, unit_iff]
        exact ⟨fun h k hk => (hs k hk).1 (h k hk), fun h k hk => (hs k hk).2 (h k hk)⟩
      cases q1 : runI (claims_Check_l0 d c) c.length 0 () with
      | inl y =>
        cases q2 : runI (ref26_Check_l0 d c) c.length 0 () with
        | inl z => rfl
        | inr z => have := e.2 q2; rw [q1] at this; cases this
      | inr y =>
        cases q2 : runI (ref26_Check_l0 d c) c.length 0 () with
        | inl z => have := e.1 q1; rw [q2] at this; cases this
        | inr z => rfl
theorem faults_eq28 (d : District) (c : List Claim) (l : List Order) : certify_Faults d c l = ref28_Faults d c l := by
  have hcl := claims_eq d c
  have hrd := read_err d l
  cases h : ((certify_Faults d c l).2 != 0) with
  | true =>
    have h1 := faults_none h
    have h2 : certify_Faults d c l = ([], (certify_Faults d c l).2) := by rw [← h1]
    rw [h2]
    unfold certify_Faults at h ⊢
    unfold ref28_Faults ref28_check
    rw [hcl] at h ⊢
    cases q1 : (ref26_Check d c != 0) with
    | true => simp [q1]
    | false =>
      rw [q1] at h
      simp only [cond_false] at h ⊢
      rw [hrd] at h ⊢
      cases q2 : (ref28_orders d l != 0) with
      | true => simp [q2]
      | false =>
        rw [q2] at h
        simp only [cond_false] at h
        split at h
        · rename_i x _; exact x.elim
        · simp at h
  | false =>
    obtain ⟨r1, r2, e⟩ := faults_eq h
    have h0 : (certify_read d l).2 = 0 := by simpa using r1
    have ht := read_table (d := d) (l := l) r1
    have hT := table2 h0
    have hz : (certify_Faults d c l).2 = 0 := by simpa using h
    have hcc : claims_Check d c = 0 := by
      unfold certify_Faults at hz
      cases q1 : (claims_Check d c != 0) with
      | true => rw [q1] at hz; simp at hz q1; exact absurd hz q1
      | false => simpa using q1
    have hci := (claims_iff d c).1 hcc
    have e2 : ref28_Faults d c l = (((((ref28_gates d l 1 ++ ref28_gates d l 2) ++ ref28_banks d l) ++ ref28_tank d l) ++ ref28_water d l) ++ ref28_unmet d c l, 0) := by
      unfold ref28_Faults ref28_check
      rw [← hcl, hcc, ← hrd, h0]
      rfl
    rw [e2, ← hz]
    refine Prod.ext ?_ rfl
    dsimp only
    rw [e, unmet_runM, water_run, tank_eq ht.ords ht.td hT, banks_run, gates_run, gates_run, List.nil_append, gates_eq ht.td ht.tl 1 (.inl rfl), gates_eq ht.td ht.tl 2 (.inr rfl), banks_eq ht.ords ht.td hT, water_eq h0 ht.ords ht.td hT, unmet_eq ht.ords ht.td hT hci.2.1 hci.2.2.1 hci.2.2.2]
theorem accepts_eq28 (d : District) (c : List Claim) (l : List Order) : certify_Accepts d c l = ref28_Accepts d c l := by
  unfold certify_Accepts ref28_Accepts
  rw [faults_eq28]
theorem same_refl (a : List Fault) : ref28_Same a a = true := by
  unfold ref28_Same
  rw [bne_self_eq_false]
  simp only [cond_false]
  cases h : runI (ref28_Same_l0 a a) a.length 0 () with
  | inr y => rfl
  | inl y =>
    obtain ⟨j, _, hj, e⟩ := runI_inl h
    unfold ref28_Same_l0 at e
    simp at e
theorem spec_t (d : District) (c : List Claim) (l : List Order) : law28_CertifySpec d c l = true := by
  unfold law28_CertifySpec
  rw [sane_t, faults_eq28, accepts_eq28, same_refl]
  simp [Bool.cond_eq_ite]
end Go.Sx
end
section
namespace Go.Sx
open Go.Proofs
theorem check26_p (d : District) (c : List Claim) : ref26_Check_p d c := ⟨check19_p d, fun _ _ h2 => okI_all _ _ _ fun j s h3 h4 _ => by
  simp only [decide_eq_false_iff_not] at h2
  refine ⟨fun h5 => ?_, fun _ h5 => ?_⟩
  · simp only [Bool.or_eq_false_iff, decide_eq_false_iff_not] at h5
    exact ⟨by omega, fun _ => by omega⟩
  · simp only [decide_eq_true_eq] at h5
    rw [wrapI (by omega) (by omega)]; omega⟩
theorem gates28_p {d : District} {l : List Order} (ho : Orders1 d l) (k : Int) (hk : k = 1 ∨ k = 2) : ref28_gates_p d l k := by
  have hl := ho.len
  have hs : ∀ j s s', ref28_gates_l0 d l k j s = .inr s' → s'.length ≤ s.length + 2 := fun j s s' h => by
    unfold ref28_gates_l0 at h
    simp only [Bool.cond_eq_ite] at h
    repeat' split at h
    all_goals (simp only [Sum.inr.injEq] at h; subst h; simp)
  refine okI_inv (fun j s => s.length ≤ 2 * j) _ _ _ (by simp) fun j s _ hj hg => ⟨?_, fun s' h => by have := hs j s s' h; omega⟩
  have hx := ho.one j (by omega)
  unfold ref28_gates_l0_p
  intro _ e
  have b0 : 0 ≤ (l.getD j default).index ∧ (l.getD j default).index < (d.reaches.length : Int) := ⟨hx.index0, hx.reach e⟩
  have g1 : ∀ x : Fault, (s ++ [x]).length * 40 ≤ maxB := fun x => by rw [List.length_append, List.length_singleton]; unfold maxB; omega
  have g2 : ∀ x y : Fault, ((s ++ [x]) ++ [y]).length * 40 ≤ maxB := fun x y => by rw [List.length_append, List.length_append, List.length_singleton, List.length_singleton]; unfold maxB; omega
  repeat' (first | with_reducible refine And.intro ?_ ?_ | with_reducible intro _)
  all_goals (first | (with_reducible exact b0.1) | (with_reducible exact b0.2) | (with_reducible exact g1 _) | (with_reducible exact g2 _ _))
theorem app_small {s : List Fault} {x : Fault} (h : s.length ≤ 100000000) : (s ++ [x]).length * 40 ≤ maxB := by
  rw [List.length_append, List.length_singleton]; unfold maxB; omega
theorem row_len {f : Nat → List Fault} (hf : ∀ j, (f j).length ≤ 1) (n : Nat) : ((List.range' 0 n).flatMap f).length ≤ n := by
  have := flat_len f hf (List.range' 0 n)
  rwa [List.length_range'] at this
theorem grid_len2 {f : Nat → Nat → List Fault} (hf : ∀ i j, (f i j).length ≤ 1) (n m : Nat) : ((List.range' 0 n).flatMap fun i => (List.range' 0 m).flatMap (f i)).length ≤ n * m := by
  have := flat_lenB (fun i => (List.range' 0 m).flatMap (f i)) m (fun i => row_len (hf i) m) (List.range' 0 n)
  rwa [List.length_range'] at this
theorem drawn_p {d : District} {l : List Order} (ho : Orders1 d l) (r h : Int) : ref28_drawn_p d l r h := okI_all _ _ _ fun j s h3 h4 _ => by
  have hx := ho.one j (by omega)
  exact ⟨fun _ e => ⟨hx.index0, hx.farm e⟩, fun _ _ e => ⟨hx.index0, hx.reach (by simpa using e)⟩⟩
theorem banks28_p {d : District} {l : List Order} (ho : Orders1 d l) : ref28_banks_p d l := by
  have hR := ho.right
  have a1 := hR.hours1
  have a2 := hR.hours
  have a3 := hR.reaches
  refine ⟨by omega, okI_app (banksR_row d l) 64 (fun j => Nat.le_trans (row_len (bR_len d l j) _) a3) fun j s hj hs => ?_⟩
  refine okI_app (banksR_step d l j) 1 (bR_len d l j) fun i s' hi hs' => ?_
  have h0 : ([] : List Fault).length = 0 := rfl
  exact fun _ _ => app_small (by omega)
theorem water28_p {d : District} {l : List Order} (ho : Orders1 d l) : ref28_water_p d l := by
  have hR := ho.right
  have a1 := hR.hours1
  have a2 := hR.hours
  have a3 := hR.reaches
  refine ⟨by omega, okI_app (waterR_row d l) 64 (fun j => Nat.le_trans (row_len (wR_len d l j) _) a3) fun j s hj hs => ?_⟩
  refine okI_app (waterR_step d l j) 1 (wR_len d l j) fun i s' hi hs' => ?_
  have h0 : ([] : List Fault).length = 0 := rfl
  exact fun _ => ⟨drawn_p ho _ _, ⟨⟨by omega, by omega⟩, ⟨by omega, by omega⟩, worst_p _ _⟩, fun _ => app_small (by omega)⟩
theorem unR_len (d : District) (c : List Claim) (l : List Order) (k : Nat) : (unR d c l k).length ≤ d.farms.length := by
  unfold unR hourFs
  rw [Bool.cond_eq_ite]
  split
  · simp
  · exact row_len (hourF_len d c l _) _
theorem unmet28_p {d : District} {c : List Claim} {l : List Order} (ho : Orders1 d l) (hc : c.length ≤ 4096) : ref28_unmet_p d c l := by
  have hR := ho.right
  have a3 := hR.farms
  refine okI_app (unmetR_step d c l) 600 (fun j => Nat.le_trans (unR_len d c l j) a3) fun j s hj hs => ?_
  intro _
  refine ⟨fun h => ?_, fun _ => ?_⟩
  · simp only [decide_eq_true_eq] at h
    rw [wrapI (by omega) (by omega)]; omega
  · refine okI_app (unmetR_in d c l j) 1 (hourF_len d c l _) fun i s' hi hs' => ?_
    have h0 : ([] : List Fault).length = 0 := rfl
    exact fun _ _ => app_small (by omega)
theorem gates28_len {d : District} {l : List Order} (ho : Orders1 d l) {t : CertifyTable} (ht : t.d = d) (htl : t.l = l) (k : Int) (hk : k = 1 ∨ k = 2) : (ref28_gates d l k).length ≤ 4096 := by
  rw [gates_eq ht htl k hk]
  have := row_len (gF_len t k) t.l.length
  rw [htl] at this ⊢
  have := ho.len
  omega
theorem faults28_p (d : District) (c : List Claim) (l : List Order) : ref28_Faults_p d c l := by
  refine ⟨⟨check26_p d c, fun _ => orders28_p d l⟩, fun h => ?_⟩
  have h : ref28_check d c l = 0 := by simpa using h
  unfold ref28_check at h
  rw [← claims_eq, ← read_err] at h
  have hcc : claims_Check d c = 0 := by
    cases q : (claims_Check d c != 0) with
    | true => rw [q] at h; simp at h q; exact absurd h q
    | false => simpa using q
  rw [hcc] at h
  have h0 : (certify_read d l).2 = 0 := by simpa using h
  have hci := (claims_iff d c).1 hcc
  have ht := read_table (d := d) (l := l) (by simp [h0])
  have ho := ht.ords
  have hR := ho.right
  have a1 := hR.hours1
  have a2 := hR.hours
  have a3 := hR.reaches
  have a4 := hR.farms
  have n1 := gates28_len ho ht.td ht.tl 1 (.inl rfl)
  have n2 := gates28_len ho ht.td ht.tl 2 (.inr rfl)
  have nb : (d.hours.toNat) * d.reaches.length ≤ 262144 := Nat.le_trans (Nat.mul_le_mul (by omega : d.hours.toNat ≤ 4096) a3) (by decide)
  have n3 : (ref28_banks d l).length ≤ 262144 := by
    rw [banksR_run]; exact Nat.le_trans (grid_len2 (bR_len d l) _ _) nb
  have n5 : (ref28_water d l).length ≤ 262144 := by
    rw [waterR_run]; exact Nat.le_trans (grid_len2 (wR_len d l) _ _) nb
  have n4 : (ref28_tank d l).length ≤ 1 := by
    unfold ref28_tank
    split
    · rename_i y hy
      obtain ⟨j, _, _, e⟩ := runI_inl hy
      unfold ref28_tank_l0 at e
      rw [Bool.cond_eq_ite] at e
      split at e
      · cases e; simp
      · cases e
    · simp
  have n6 : (ref28_unmet d c l).length ≤ 2457600 := by
    rw [unmetR_run]
    have := flat_lenB (unR d c l) 600 (fun j => Nat.le_trans (unR_len d c l j) a4) (List.range' 0 c.length)
    rw [List.length_range'] at this
    have hcl := hci.2.1
    omega
  refine ⟨gates28_p ho 1 (.inl rfl), gates28_p ho 2 (.inr rfl), ?_, fun _ => ⟨banks28_p ho, ?_, fun _ => ⟨(by unfold ref28_tank_p; omega), ?_, fun _ => ⟨water28_p ho, ?_, fun _ => ⟨unmet28_p ho hci.2.1, ?_⟩⟩⟩⟩⟩
  all_goals (simp only [List.length_append]; unfold maxB; omega)
theorem spec_p (d : District) (c : List Claim) (l : List Order) : law28_CertifySpec_p d c l :=
  ⟨sane_p, fun _ _ => ⟨faults_pt d c l, faults28_p d c l, accepts_pt d c l, faults28_p d c l⟩⟩
end Go.Sx
end
section
namespace Go.Sx
open Go.RowKit Go.Deep
section
variable {F : Nat → Prop} {own : Own} {w : World}
def RC (F : Nat → Prop) (own : Own) (w : World) (ks : List Kd) (cs : List Value) : Prop :=
  ∃ l : List SV, fits ks l = true ∧ l.length = cs.length ∧ ∀ (j : Nat) (s : SV) (v : Value), l[j]? = some s → cs[j]? = some v → Rel F own w s v
theorem fits_app : ∀ {a b : List Kd} {l m : List SV}, fits a l = true → fits b m = true → fits (a ++ b) (l ++ m) = true
  | [], b, l, m, h1, h2 => by rw [fits_nil h1]; exact h2
  | k :: a, b, l, m, h1, h2 => by
    obtain ⟨x, r, rfl, e1, e2⟩ := fits_cons h1
    simp only [List.cons_append, fits, e1, fits_app e2 h2, Bool.and_self]
theorem RC.nil : RC F own w [] [] := ⟨[], rfl, rfl, fun j s v h => by cases h⟩
theorem RC.app {a b : List Kd} {c d : List Value} (h1 : RC F own w a c) (h2 : RC F own w b d) : RC F own w (a ++ b) (c ++ d) := by
  obtain ⟨l, f1, n1, r1⟩ := h1
  obtain ⟨m, f2, n2, r2⟩ := h2
  refine ⟨l ++ m, fits_app f1 f2, by simp [n1, n2], fun j s v hs hv => ?_⟩
  by_cases hj : j < l.length
  · rw [List.getElem?_append_left hj] at hs
    rw [List.getElem?_append_left (by omega)] at hv
    exact r1 j s v hs hv
  · rw [List.getElem?_append_right (by omega)] at hs
    rw [List.getElem?_append_right (by omega), ← n1] at hv
    exact r2 _ s v hs hv
theorem RC.one {k : Kd} {s : SV} {v : Value} (h1 : fit k s = true) (h2 : Rel F own w s v) : RC F own w [k] [v] :=
  ⟨[s], by simp [fits, h1], rfl, fun j s' v' hs hv => by
    cases j with
    | zero => simp only [List.getElem?_cons_zero, Option.some.injEq] at hs hv; subst hs; subst hv; exact h2
    | succ j => simp at hs⟩
end
def eqKd : Kd → Kd → Bool
  | .s, .s => true
  | .b, .b => true
  | .n a, .n b => decide (a = b)
  | .r a, .r b => decide (a = b)
  | .m a c, .m b d => decide (a = b) && decide (c = d)
  | _, _ => false
theorem eqKd_ok : ∀ {a b : Kd}, eqKd a b = true → a = b := by
  intro a b h
  cases a <;> cases b <;> simp_all [eqKd]
def eqKs : List Kd → List Kd → Bool
  | [], [] => true
  | a :: l, b :: m => eqKd a b && eqKs l m
  | _, _ => false
theorem eqKs_ok : ∀ {a b : List Kd}, eqKs a b = true → a = b
  | [], [], _ => rfl
  | a :: l, b :: m, h => by
    simp only [eqKs, Bool.and_eq_true] at h
    rw [eqKd_ok h.1, eqKs_ok h.2]
def kindsF (P : Program) (g : TypeId → Option (List Kd)) : List Field → Nat → Nat → Option (List Kd)
  | [], off, tot => bif Nat.beq off tot then some [] else none
  | f :: r, off, tot => match g f.type with
    | some a => bif Nat.beq f.offset off && Nat.beq a.length (P.cellsOf f.type) then (kindsF P g r (off + a.length) tot).map (a ++ ·) else none
    | none => none
def kindsA (a : List Kd) : Nat → List Kd
  | 0 => []
  | n + 1 => a ++ kindsA a n
def kindsT (P : Program) : Nat → TypeId → Option (List Kd)
  | 0, _ => none
  | n + 1, t => match P.underlying t with
    | some .bool => some [.b]
    | some (.int k) => some [.n k]
    | some .string => some [.s]
    | some (.slice e) => match tagT P e, kindsT P n e with
      | some k, some ks => bif eqKs ks (kindsOf k) && Nat.beq (P.cellsOf e) (sizeOfTag k) && Nat.ble 1 (sizeOfTag k) then some [.r k] else none
      | _, _ => none
    | some (.struct fs) => kindsF P (kindsT P n) fs.toList 0 (P.cellsOf t)
    | some (.array m e) => match kindsT P n e with
      | some a => bif Nat.beq a.length (P.cellsOf e) && Nat.beq (P.cellsOf t) (m * a.length) then some (kindsA a m) else none
      | none => none
    | _ => none
section
variable {H : Type} {enc : TypeId × Value → H} {P : Program} {F : Nat → Prop} {own : Own} {w : World} {base : Nat} {spare : Nat → Bool} {held : Bool} {S : DataW H → Prop}
theorem kF_read {g : TypeId → Option (List Kd)} (hg : ∀ t ks, g t = some ks → ∀ (fuel : Nat) (cs : List Value) (x : DataW H × List MemPlace), DataW.trod enc P w base spare held fuel t cs = some x → S x.1 → RC F own w ks cs)
    (fuel : Nat) (cs : List Value) : ∀ (fs : List Field) (off : Nat) (ks : List Kd), kindsF P g fs off cs.length = some ks → (∀ f ∈ fs, ∃ x, DataW.trod enc P w base spare held fuel f.type ((cs.drop f.offset).take (P.cellsOf f.type)) = some x ∧ S x.1) → RC F own w ks (cs.drop off)
  | [], off, ks, h, _ => by
    unfold kindsF at h
    cases hb : Nat.beq off cs.length with
    | false => rw [hb] at h; cases h
    | true =>
      rw [hb] at h
      have : off = cs.length := Nat.eq_of_beq_eq_true hb
      subst this
      cases h
      rw [List.drop_length]
      exact RC.nil
  | f :: r, off, ks, h, hx => by
    unfold kindsF at h
    cases ha : g f.type with
    | none => rw [ha] at h; cases h
    | some a =>
      rw [ha] at h
      dsimp only at h
      cases hb : Nat.beq f.offset off && Nat.beq a.length (P.cellsOf f.type) with
      | false => rw [hb] at h; cases h
      | true =>
        rw [hb] at h
        simp only [cond_true, Option.map_eq_some_iff] at h
        obtain ⟨ks2, h2, rfl⟩ := h
        rw [Bool.and_eq_true] at hb
        have e1 : f.offset = off := Nat.eq_of_beq_eq_true hb.1
        have e2 : a.length = P.cellsOf f.type := Nat.eq_of_beq_eq_true hb.2
        obtain ⟨x, hx1, hs1⟩ := hx f (by simp)
        have h3 := hg _ _ ha _ _ _ hx1 hs1
        have h4 := kF_read hg fuel cs r (off + a.length) ks2 h2 fun f hf => hx f (by simp [hf])
        have := h3.app h4
        rw [e1, ← e2] at this
        rwa [← List.drop_drop, List.take_append_drop] at this
theorem kA_read {e : TypeId} {a : List Kd} (ha : ∀ (fuel : Nat) (cs : List Value) (x : DataW H × List MemPlace), DataW.trod enc P w base spare held fuel e cs = some x → S x.1 → RC F own w a cs)
    (fuel : Nat) : ∀ (m : Nat) (cs : List Value), cs.length = m * a.length → (∀ i, i < m → ∃ x, DataW.trod enc P w base spare held fuel e ((cs.drop (i * a.length)).take a.length) = some x ∧ S x.1) → RC F own w (kindsA a m) cs
  | 0, cs, h, _ => by
    have : cs = [] := by simpa using h
    subst this
    exact RC.nil
  | m + 1, cs, h, hx => by
    obtain ⟨x, hx1, hs1⟩ := hx 0 (by omega)
    rw [Nat.zero_mul, List.drop_zero] at hx1
    have h3 := ha _ _ _ hx1 hs1
    have h4 := kA_read ha fuel m (cs.drop a.length) (by rw [List.length_drop, h, Nat.succ_mul]; omega) fun i hi => by
      obtain ⟨x, hx2, hs2⟩ := hx (i + 1) (by omega)
      refine ⟨x, ?_, hs2⟩
      rw [List.drop_drop]
      rwa [Nat.succ_mul, Nat.add_comm] at hx2
    have := h3.app h4
    rwa [List.take_append_drop] at this
structure Small (S : DataW H → Prop) : Prop where
  agg : ∀ l, S (.agg l) → ∀ d ∈ l, S d
  slice : ∀ l m, S (.slice l m) → l.length ≤ maxL ∧ ∀ d ∈ l, S d
theorem kinds_read (hS : Small S) (hown : ∀ b, ¬ ownB F own b) : ∀ (n : Nat) (t : TypeId) (ks : List Kd), kindsT P n t = some ks → ∀ (fuel : Nat) (cs : List Value) (x : DataW H × List MemPlace), DataW.trod enc P w base spare held fuel t cs = some x → S x.1 → RC F own w ks cs
  | 0, _, _, h, _, _, _, _, _ => by cases h
  | n + 1, t, ks, h, fuel, cs, x, hx, hs => by
    unfold kindsT at h
    split at h
    · rename_i ht
      cases h
      obtain ⟨b, rfl, rfl⟩ := DataW.trod_bool ht hx
      exact RC.one (s := .v (.bool b)) rfl (.v _)
    · rename_i k ht
      cases h
      obtain ⟨m, rfl, rfl, _⟩ := DataW.trod_int ht hx
      exact RC.one (s := .v (.int k m)) (by simp [fit]) (.v _)
    · rename_i ht
      cases h
      obtain ⟨b, rfl, rfl, _⟩ := DataW.trod_string ht hx
      exact RC.one (s := .v (.string b)) rfl (.v _)
    · rename_i e ht
      split at h
      · rename_i k ks2 hk hks
        cases hb : eqKs ks2 (kindsOf k) && Nat.beq (P.cellsOf e) (sizeOfTag k) && Nat.ble 1 (sizeOfTag k) with
        | false => rw [hb] at h; cases h
        | true =>
          rw [hb] at h
          cases h
          simp only [Bool.and_eq_true] at hb
          have e1 := eqKs_ok hb.1.1
          have e2 : P.cellsOf e = sizeOfTag k := Nat.eq_of_beq_eq_true hb.1.2
          have e3 : 1 ≤ sizeOfTag k := Nat.le_of_ble_eq_true hb.2
          subst e1
          rcases open_slice ht hx with ⟨rfl, rfl⟩ | ⟨a, len, cap, m, f2, D, Pl, rfl, hb1, hl, hm, hmm, rfl, hel⟩
          · exact RC.one (s := .rs k []) (by simp [fit]) .rs0
          · have hlm : len ≤ m := by subst hmm; split <;> omega
            obtain ⟨hs1, hs2⟩ := hS.slice _ _ hs
            simp only [List.length_map, List.length_range] at hs1
            have helt : ∀ i, i < len → ∃ cs', cs'.length = sizeOfTag k ∧ (∀ j v, cs'[j]? = some v → w.cell? ((a.add (i * sizeOfTag k)).add j) = some v) ∧ RC F own w (kindsOf k) cs' := fun i hi => by
              obtain ⟨cs', h1, h2⟩ := hel i (by omega)
              have h3 := kinds_read hS hown n e (kindsOf k) hks f2 cs' _ h2 (hs2 _ (List.mem_map_of_mem (List.mem_range.2 hi)))
              unfold World.cells? at h1
              split at h1
              · refine ⟨cs', by rw [mapM_some_length h1, List.length_range, e2], fun j v hj => ?_, h3⟩
                have hlt : j < P.cellsOf e := by
                  have := (List.getElem?_eq_some_iff.1 hj).1
                  rwa [mapM_some_length h1, List.length_range] at this
                have := mapM_some_get h1 j j (by simp [hlt])
                rw [e2] at this
                rw [this, hj]
              · cases h1
            by_cases h0 : len = 0
            · subst h0
              exact RC.one (s := .rs k []) (by simp [fit]) .rs0
            · have hsp : a.spot = none := by
                obtain ⟨cs', h1, h2, _⟩ := helt 0 (by omega)
                have := h2 0 (cs'[0]'(by omega)) (by rw [List.getElem?_eq_getElem])
                rw [Nat.zero_mul] at this
                simp only [Addr.add, if_true] at this
                unfold World.cell? at this
                split at this
                · cases hsp : a.spot with
                  | none => rfl
                  | some q => rw [hsp] at this; simp at this
                · cases this
              obtain ⟨ab, ao, asp⟩ := a
              dsimp only at hsp
              subst hsp
              haveI : Inhabited k.T := ⟨dflt k⟩
              obtain ⟨X, hX⟩ := choose_lt (p := fun i (x : k.T) => ∀ (j : Nat) (s : SV), (cellsOf k x)[j]? = some s → ∃ v, w.cell? ⟨ab, ao + i * sizeOfTag k + j, none⟩ = some v ∧ Rel F own w s v) (n := len) fun i hi => by
                obtain ⟨cs', h1, h2, l, h3, h4, h5⟩ := helt i hi
                refine ⟨mkE k l, fun j s hj => ?_⟩
                rw [elemO_cells (k := k) (l := l) (x := mkE k l) (by unfold elemO; rw [h3]; rfl)] at hj
                have hlt : j < cs'.length := by
                  have := (List.getElem?_eq_some_iff.1 hj).1
                  omega
                refine ⟨cs'[j], ?_, h5 j s _ hj (List.getElem?_eq_getElem hlt)⟩
                have := h2 j cs'[j] (List.getElem?_eq_getElem hlt)
                have hadd : ∀ p q, ((⟨ab, ao, none⟩ : Addr).add p).add q = ⟨ab, ao + p + q, none⟩ := fun p q => by
                  unfold Addr.add
                  by_cases hp : p = 0 <;> by_cases hq : q = 0 <;> simp [hp, hq]
                rwa [hadd] at this
              have hL : ((List.range len).map X).length = len := by simp
              refine RC.one (s := .rs k ((List.range len).map X)) (by simp [fit]) ?_
              have hget : ∀ (i : Nat) (x : k.T), ((List.range len).map X)[i]? = some x → i < len ∧ x = X i := fun i x hi => by
                obtain ⟨h1, h2⟩ := List.getElem?_eq_some_iff.1 hi
                rw [hL] at h1
                simp only [List.getElem_map, List.getElem_range] at h2
                subst h2
                exact ⟨h1, rfl⟩
              have := Rel.rs (F := F) (own := own) (w := w) (k := k) (l := (List.range len).map X) (b := ab) (o := ao) (cap := cap) (fun i j => (w.cell? ⟨ab, ao + i * sizeOfTag k + j, none⟩).getD undef) (by rw [hL]; exact hl) (by rw [hL]; exact hs1)
                (fun i x hi j s hj => by
                  obtain ⟨h1, rfl⟩ := hget i x hi
                  obtain ⟨v, h2, _⟩ := hX i h1 j s hj
                  exact ⟨hown _, by rw [h2]; rfl⟩)
                (fun i x hi j s hj => by
                  obtain ⟨h1, rfl⟩ := hget i x hi
                  obtain ⟨v, h2, h3⟩ := hX i h1 j s hj
                  rw [h2]; exact h3)
              rwa [hL] at this
      · cases h
    · rename_i fs ht
      obtain ⟨xs, m, rfl, rfl, hl, hlen, hf⟩ := DataW.trod_struct ht hx
      rw [← hl] at h
      have := kF_read (kinds_read hS hown n) m cs fs.toList 0 ks h fun f hfm => by
        obtain ⟨i, hi, rfl⟩ := List.getElem_of_mem hfm
        have hi' : i < fs.size := by simpa using hi
        have h1 := hf i fs[i] (by simp [hi'])
        rw [List.getElem?_eq_getElem (by omega)] at h1
        refine ⟨_, by simpa using h1, hS.agg _ hs _ (List.mem_map_of_mem (List.getElem_mem _))⟩
      simpa using this
    · rename_i m e ht
      split at h
      · rename_i a ha
        cases hb : Nat.beq a.length (P.cellsOf e) && Nat.beq (P.cellsOf t) (m * a.length) with
        | false => rw [hb] at h; cases h
        | true =>
          rw [hb] at h
          cases h
          rw [Bool.and_eq_true] at hb
          have e1 : a.length = P.cellsOf e := Nat.eq_of_beq_eq_true hb.1
          have e2 : P.cellsOf t = m * a.length := Nat.eq_of_beq_eq_true hb.2
          obtain ⟨xs, f2, rfl, rfl, hl, hlen, hf⟩ := DataW.trod_array ht hx
          refine kA_read (kinds_read hS hown n e a ha) f2 m cs (by rw [hl, e2]) fun i hi => ?_
          have h1 := hf i hi
          rw [List.getElem?_eq_getElem (by omega), ← e1] at h1
          exact ⟨_, h1, hS.agg _ hs _ (List.mem_map_of_mem (List.getElem_mem _))⟩
      · cases h
    · cases h
end
end Go.Sx
end
section
namespace Go.Sx
open Go.Proofs
section
variable {F : Nat → Prop} {own : Own} {w : World}
theorem agg_rel {k : Tag} {cs : Array Value} (h : RC F own w (kindsOf k) cs.toList) : ∃ x : k.T, Rel F own w (.agg (cellsOf k x)) (.agg cs) := by
  obtain ⟨l, h3, h4, h5⟩ := h
  refine ⟨mkE k l, ?_⟩
  rw [elemO_cells (k := k) (l := l) (x := mkE k l) (by unfold elemO; rw [h3]; rfl)]
  refine .agg (by simpa using h4.symm) fun j s hj => ?_
  have hlt : j < cs.size := by
    have := (List.getElem?_eq_some_iff.1 hj).1
    simpa [h4] using this
  exact h5 j s _ hj (by simp [Array.getD, hlt])
theorem sl_rel {k : Tag} {v : Value} (h : RC F own w [.r k] [v]) : ∃ l : List k.T, Rel F own w (.rs k l) v := by
  obtain ⟨l, h3, h4, h5⟩ := h
  obtain ⟨x, r, rfl, h6, h7⟩ := fits_cons h3
  have h8 := h5 0 x v rfl rfl
  cases x with
  | rs k' l' =>
    have : k = k' := by
      simp only [fit] at h6
      exact tagN_inj h6
    subst this
    exact ⟨l', h8⟩
  | _ => simp [fit] at h6
end
end Go.Sx
end
section
namespace Go.Sx
open Go.RowKit Go.WideShapes Go.ChangeShapes
section
variable {H : Type} {enc : TypeId × Value → H} {P : Program}
def okTs (P : Program) : List TypeId → Bool
  | [] => true
  | t :: r => P.readableRec t && Nat.blt t P.types.size && okTs P r
theorem all_stays (hl : laidOutB P = true) {W W' : World} (hg : Below W.heap.size W W') : ∀ {ts : List TypeId} {vs : List Value} {ds : List (DataW H)} {ps : List MemPlace}, okTs P ts = true →
    DataW.TrodAll enc P W 0 (fun _ => true) true ts vs ds ps → (∀ x ∈ ps, x.block < W.heap.size) → DataW.TrodAll enc P W' 0 (fun b => decide (b < W.heap.size)) true ts vs ds ps
  | [], vs, ds, ps, _, h, _ => by
    obtain ⟨rfl, rfl, rfl⟩ := trodAll_nil h
    exact trodAll_mk0
  | t :: ts, vs, ds, ps, hk, h, hlt => by
    unfold okTs at hk
    rw [Bool.and_eq_true, Bool.and_eq_true] at hk
    obtain ⟨v, vs', d, ds', p, q, rfl, rfl, rfl, h1, h2⟩ := trodAll_cons h
    refine trodAll_cons_mk (WideElems.Trod_stays hl hk.1.1 (by simpa [Nat.blt_eq] using hk.1.2) h1 (fun x hx => hg.same (hlt x (List.mem_append_left _ hx))) (fun x hx => by simpa using hlt x (List.mem_append_left _ hx))) ?_
    exact all_stays hl hg hk.2 h2 fun x hx => hlt x (List.mem_append_right _ hx)
theorem law_post (hl : laidOutB P = true) {f : Func} {s : ChangeSpec} {W W' : World} {args : Array Value} {ds gs : List (DataW H)} {before : List MemPlace} {t : TypeId}
    (hk : okTs P f.params.toList = true) (hW : DataW.Whole enc P f.params.toList s.vars false W args.toList ds gs before)
    (hr : f.resultTypes = #[t]) (ht : P.underlying t = some .bool) (hv : s.vars = []) (h1 : (s.fn H (ds ++ gs)).results = [.lit (.bool true)]) (h2 : (s.fn H (ds ++ gs)).args = ds) (h3 : (s.fn H (ds ++ gs)).vars = [])
    (hg : Below W.heap.size W W') : s.post enc P f false true false false W args (.bool true) W' := by
  have hlt := hW.lt
  have hW0 := hW
  obtain ⟨p, q, hA, hV, rfl, _, _⟩ := hW
  rw [hv] at hV
  obtain ⟨rfl, rfl⟩ := trodVars_none hV
  refine ⟨ds, [], p ++ [], [], p, [], hW0, ?_, ?_, ?_, ?_, fun h => by cases h⟩
  · rw [h1, hr]
    exact trodAll_cons_mk (shut_bool ht _) trodAll_mk0
  · rw [h2]
    exact all_stays hl hg hk hA fun x hx => hlt x (by simpa using hx)
  · rw [h3, hv]
    rfl
  · exact World.keptBut_mono (fun x hx => ⟨hx, .inr (.inl (by simpa using hx))⟩) (hg.frame (· ∈ p ++ []))
end
end Go.Sx
end
section
namespace Go.Proofs.YtnhhdmkikgdfkaaGreat.bulks
theorem one_le {H : Type} (d : DataW H) : 1 ≤ Rows.uptoBulk d := by
  cases d with
  | lit l => cases l <;> simp [Rows.uptoBulk]
  | nil => simp [Rows.uptoBulk]
  | ptr d => simp [Rows.uptoBulk]
  | slice elems spare => simp [Rows.uptoBulk]
  | agg parts => simp [Rows.uptoBulk]
  | iface t d => simp [Rows.uptoBulk]
  | map entries => simp [Rows.uptoBulk]
  | held h => simp [Rows.uptoBulk]
theorem part_le {H : Type} {d : DataW H} {l : List (DataW H)} (h : d ∈ l) : Rows.uptoBulk d ≤ Rows.uptoBulkAll l := by
  induction l with
  | nil => cases h
  | cons x r ih =>
    simp only [Rows.uptoBulkAll]
    cases List.mem_cons.1 h with
    | inl e => subst e; omega
    | inr e => have := ih e; omega
theorem append {H : Type} (l r : List (DataW H)) : Rows.uptoBulkAll (l ++ r) = Rows.uptoBulkAll l + Rows.uptoBulkAll r := by
  induction l with
  | nil => simp [Rows.uptoBulkAll]
  | cons x l ih => simp only [List.cons_append, Rows.uptoBulkAll, ih]; omega
theorem length_le {H : Type} (l : List (DataW H)) : l.length ≤ Rows.uptoBulkAll l := by
  induction l with
  | nil => simp [Rows.uptoBulkAll]
  | cons x r ih => have := one_le x; simp only [Rows.uptoBulkAll, List.length_cons]; omega
theorem slice_le {H : Type} (elems spare : List (DataW H)) : elems.length + spare.length + 1 ≤ Rows.uptoBulk (.slice elems spare) := by
  have h1 := length_le elems
  have h2 := length_le spare
  simp only [Rows.uptoBulk]
  omega
theorem slice_elems {H : Type} (elems spare : List (DataW H)) : Rows.uptoBulkAll elems + 1 ≤ Rows.uptoBulk (.slice elems spare) := by
  simp only [Rows.uptoBulk]
  omega
theorem bound {H : Type} {l : List (DataW H)} (hk : Rows.uptoSmall H l = true) : Rows.uptoBulkAll l ≤ 1048576 := by
  simpa [Rows.uptoSmall] using hk
theorem room {n b : Nat} (hn : n ≤ 2097152) (hb : b ≤ 4096) : (n + n / 4 + 192) * b ≤ 281474976710656 := by
  have h : (n + n / 4 + 192) * b ≤ 2621632 * 4096 := Nat.mul_le_mul (by omega) hb
  omega
end Go.Proofs.YtnhhdmkikgdfkaaGreat.bulks
end
section
namespace Go.Proofs.YtnhhdmkikgdfkaaGreat.certifySpec
open Go.ChangeShapes Go.WideShapes Go.ChangeAt Go.RowKit Go.Sx
set_option linter.unusedVariables false
theorem con_eq (x0 : Tag.district.T) (x1 : List Tag.claim.T) (x2 : List Tag.order.T) : C_law28_CertifySpec [.agg (cellsOf .district x0), .rs .claim x1, .rs .order x2] = some (.det (law28_CertifySpec_p x0 x1 x2) (.v (.bool (law28_CertifySpec x0 x1 x2)))) := by
  unfold C_law28_CertifySpec
  simp only [go_sem, Nat.reduceBEq]
theorem call_true {W : World} {cs0 : Array Value} (h0 : RC (fun _ => False) own0 W (kindsOf .district) cs0.toList) {v1 : Value} (h1 : RC (fun _ => False) own0 W [.r .claim] [v1]) {v2 : Value} (h2 : RC (fun _ => False) own0 W [.r .order] [v2]) :
    Calls Tryz.prog 3 #[.agg cs0, v1, v2] W (fun e W' => e = .returned (.bool true) ∧ Below W.heap.size W W') := by
  obtain ⟨x0, r0⟩ := agg_rel h0
  obtain ⟨x1, r1⟩ := sl_rel h1
  obtain ⟨x2, r2⟩ := sl_rel h2
  refine (ok_law28_CertifySpec.calls _ _ (con_eq x0 x1 x2) (spec_p x0 x1 x2 ) (fun _ => False) W _ (fun b h => h.elim) ⟨rfl, fun j s hj => ?_⟩).mono fun e W' he => ?_
  · match j, hj with
    | 0, hj => cases hj; exact r0
    | 1, hj => cases hj; exact r1
    | 2, hj => cases hj; exact r2
  · rcases he with ⟨s, u, own', hs, rfl, hh, hb⟩ | ⟨x, hx, _⟩
    · simp only [conPost] at hs
      subst hs
      rw [spec_t x0 x1 x2 ] at hh
      have := hh.val
      simp only [HandV] at this
      rw [rel_v this]
      exact ⟨rfl, hb⟩
    · exact hx.elim
theorem own : ownKnob Tryz.prog.godebug = none := by kernel_rfl
theorem small (H : Type) : Small (fun d : DataW H => Rows.uptoBulk d ≤ 1048576) where
  agg l h d hd := by
    have h1 := bulks.part_le hd
    simp only [Rows.uptoBulk] at h
    omega
  slice l m h := by
    have h1 := bulks.slice_le l m
    have h2 := bulks.slice_elems l m
    refine ⟨by unfold maxL; omega, fun d hd => ?_⟩
    have := bulks.part_le hd
    omega
theorem laid : laidOutB Tryz.prog = true := by kernel_rfl
set_option maxRecDepth 100000 in
theorem contract (H : Type) (enc : TypeId × Value → H) (W : World) (base : Nat) (args : Array Value) (ds gs : List (DataW H)) (before : List MemPlace)
    (hval : ∀ (j : Nat) t v, Tryz.f3.params[j]? = some t → args[j]? = some v → Value.okWide Tryz.prog W .any base t v)
    (hW : DataW.Whole enc Tryz.prog Tryz.f3.params.toList Rows.certifySpecSpec.vars false W args.toList ds gs before) (hk : Rows.uptoSmall H (ds ++ gs) = true) :
    Calls Tryz.prog 3 args W fun e W' => ∃ v, e = .returned v ∧ Rows.certifySpecSpec.post enc Tryz.prog Tryz.f3 false true false false W args v W' := by
  have hW' := hW
  obtain ⟨p, q, hA0, hV, rfl, hfz, hnd⟩ := hW
  have hA : DataW.TrodAll enc Tryz.prog W 0 (fun _ => true) true Tryz.f3.params.toList args.toList ds p := hA0
  rw [Tryz.params3] at hA hval
  obtain ⟨v0, vs0, d0, ds0, p0, q0, hargs, rfl, rfl, h0, r0⟩ := trodAll_cons hA
  obtain ⟨v1, vs1, d1, ds1, p1, q1, rfl, rfl, rfl, h1, r1⟩ := trodAll_cons r0
  obtain ⟨v2, vs2, d2, ds2, p2, q2, rfl, rfl, rfl, h2, r2⟩ := trodAll_cons r1
  obtain ⟨rfl, rfl, rfl⟩ := trodAll_nil r2
  obtain rfl : args = #[v0, v1, v2] := by cases args; simp_all
  obtain ⟨rfl, rfl⟩ := trodVars_none hV
  have hb := bulks.bound hk
  simp only [Rows.uptoBulkAll, List.append_nil, List.cons_append, List.nil_append] at hb
  have ho : ∀ b, ¬ ownB (fun _ => False) own0 b := fun b h => by
    rcases h with h | ⟨_, _, h, _⟩
    · exact h
    · cases h
  have s0 : ∃ cs, v0 = .agg cs := by
    have := hval 0 31 v0 rfl rfl
    simp only [Value.okWide, Tryz.underlying31] at this
    exact ⟨_, this.choose_spec.1⟩
  obtain ⟨cs0, rfl⟩ := s0
  obtain ⟨a1, l1, c1, rfl⟩ := okWide_slice Tryz.underlying32 (hval 1 32 v1 rfl rfl)
  obtain ⟨a2, l2, c2, rfl⟩ := okWide_slice Tryz.underlying33 (hval 2 33 v2 rfl rfl)
  have R0 : RC (fun _ => False) own0 W (kindsOf .district) cs0.toList := by
    obtain ⟨f, hf⟩ := h0
    exact kinds_read (n := 6) (t := 31) (small H) ho _ (by kernel_rfl) f _ _ hf (by show Rows.uptoBulk d0 ≤ _; omega)
  have R1 : RC (fun _ => False) own0 W [.r .claim] [.slice a1 l1 c1] := by
    obtain ⟨f, hf⟩ := h1
    exact kinds_read (n := 6) (t := 32) (small H) ho _ (by kernel_rfl) f _ _ hf (by show Rows.uptoBulk d1 ≤ _; omega)
  have R2 : RC (fun _ => False) own0 W [.r .order] [.slice a2 l2 c2] := by
    obtain ⟨f, hf⟩ := h2
    exact kinds_read (n := 6) (t := 33) (small H) ho _ (by kernel_rfl) f _ _ hf (by show Rows.uptoBulk d2 ≤ _; omega)
  refine (call_true R0 R1 R2).mono fun e W' ⟨he, hg⟩ => ?_
  subst he
  exact ⟨_, rfl, law_post laid (by kernel_rfl) hW' (by kernel_rfl) Tryz.underlying4 rfl rfl rfl rfl hg⟩
def zeroV : Kd → Value
  | .n k => .int k 0
  | .b => .bool false
  | .s => .string (ByteArray.mk #[])
  | .r _ => .slice none 0 0
  | .m _ _ => .map none
def wit : Array Value := #[.agg ((kindsOf .district).map zeroV).toArray, .slice none 0 0, .slice none 0 0]
set_option maxRecDepth 100000 in
theorem lifted (os : Os) (started : os.Started) (H : Type) (enc : TypeId × Value → H) (F : Stop.Interp) :
    ReturnsInHanded {} Tryz.checked os 3 .any ((Rows.OpenSpec.upto Rows.certifySpecSpec).pre6 enc Tryz.prog Tryz.f3 Rows.certifySpecUptoRow.domain false) (((Rows.OpenSpec.upto Rows.certifySpecSpec).at F).post enc Tryz.prog Tryz.f3 false true false false) := by
  refine returnsInHanded_of_cond (C := Tryz.checked) (s := Rows.OpenSpec.upto Rows.certifySpecSpec) (k := Rows.uptoSmall) rfl own started (by kernel_rfl) Tryz.func3
    (OpenSpec.witness (enc := enc) (C := Tryz.checked) (s := Rows.OpenSpec.upto Rows.certifySpecSpec) (k := Rows.uptoSmall) rfl false ⟨#[], wit, []⟩ 8 (by kernel_rfl) (by kernel_rfl) (by kernel_rfl)
      (x := (DataW.whole enc Tryz.prog (World.plainHolding Tryz.prog os ⟨#[], wit, []⟩).memory Tryz.f3.params.toList Rows.certifySpecSpec.vars false wit.toList 8).getD ([], [], [])) (by kernel_rfl) rfl (by kernel_rfl)) ?_
  intro W base args ds gs before hval hW _ hk _
  exact contract H enc W base args ds gs before hval hW hk
theorem over : Rows.certifySpecUptoRow.holds Tryz.pinned (Rows.OpenSpec.upto Rows.certifySpecSpec) :=
  OpenClaim.holds_of_cond 3 Tryz.f3 rfl rfl rfl rfl rfl rfl rfl ⟨rfl, rfl, rfl, rfl, rfl⟩ rfl rfl rfl rfl rfl (by kernel_rfl) Tryz.func3 (by kernel_rfl)
    (of_decide_eq_true (by kernel_rfl)) (by unfold Func.isWrapper; first | (rw [if_pos (by decide +kernel)]; kernel_rfl) | (rw [if_neg (by decide +kernel)]; exact ⟨rfl, rfl⟩))
    (fun os started H enc _ F => lifted os started H enc F)
theorem proved : Rows.CertifySpecUptoSaid := over
end Go.Proofs.YtnhhdmkikgdfkaaGreat.certifySpec
end
