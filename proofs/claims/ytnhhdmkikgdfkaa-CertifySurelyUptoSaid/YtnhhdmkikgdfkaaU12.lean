/- Part of the proof that the law CertifySurely returns true and leaves its arguments as they were, for all arguments of bulk at most 1048576 (the Upto form). -/
import Derived.Test.YtnhhdmkikgdfkaaU11
import Derived.Test.YtnhhdmkikgdfkaaU06
import Derived.Deep.Slices
import Derived.OpenShut
import Derived.Test.YtnhhdmkikgdfkaaU07
import Derived.ChangeSame
import Derived.WideKeyArgs
import Derived.Below
import Derived.Test.YtnhhdmkikgdfkaaRows
import Derived.WalkKit
import Derived.ProofKit
import Derived.JoinedCond
import Derived.Carry
set_option linter.all false
section
namespace Go.Sx
open Go.Proofs
theorem getD_mem' {α : Type} (l : List α) (d : α) {k : Nat} (h : k < l.length) : l.getD k d ∈ l := by
  rw [getD_el l d h]; exact List.getElem_mem _
theorem runL_unit {ρ τ : Type} {step : τ → Unit → ρ ⊕ Unit} : ∀ {L : List τ}, (∀ x ∈ L, step x () = .inr ()) → runL step L () = .inr ()
  | [], _ => rfl
  | x :: r, h => by
    simp only [runL]
    rw [h x List.mem_cons_self]
    exact runL_unit fun y hy => h y (List.mem_cons_of_mem _ hy)
theorem met_step {d : District} {c : List Claim} {l : List Order} (hS : Sure d c l) {s0 : CM × CM × CM} (h0 : M3 d l s0) {s1 : CM} (h1 : CMok c s1) : ∀ x ∈ s1, law28_CertifySurely_l2 s0 s1 x () = .inr () := fun x hx => by
  obtain ⟨a, ha, e⟩ := h1.mem x.1 (List.mem_map_of_mem hx)
  have hg := mem_mget s1 x h1.nd hx
  have hv : mgetT .acequialaw28Cell .int s1 x.1 = x.2 := by unfold mgetT; rw [hg]; rfl
  unfold law28_CertifySurely_l2
  rw [← hv, e, h1.get, h0.out]
  have hk := hS.okc a ha
  unfold okC at hk
  simp only [Bool.and_eq_true, decide_eq_true_eq] at hk
  have := hS.unmet a.hour.toNat a.farm.toNat (by omega) (by omega)
  rw [Int.toNat_of_nonneg (by omega), Int.toNat_of_nonneg (by omega)] at this
  rw [decide_eq_false (Int.not_lt.2 this)]
  rfl
theorem met_okM {d : District} {c : List Claim} {l : List Order} (hS : Sure d c l) {s0 : CM × CM × CM} (h0 : M3 d l s0) {s1 : CM} (h1 : CMok c s1) : okM (law28_CertifySurely_l2 s0 s1) (law28_CertifySurely_l2_p s0 s1) s1 () := fun L hL =>
  ⟨by rw [runL_unit (met_step hS h0 h1), runL_unit fun x hx => met_step hS h0 h1 x (hL.subset hx)], okL_all _ _ fun _ _ _ => trivial⟩
theorem way_run {d : District} {l : List Order} (ho : Orders1 d l) {s0 : CM × CM × CM} (h0 : M3 d l s0) {h r : Nat} (hh : h < d.hours.toNat) (hr : r < d.reaches.length) :
    runI (law28_CertifySurely_l5 d s0 h r) (d.reaches.getD r default).delay.toNat 0 0 = .inr (osum (gateP r ((h : Int) - (d.reaches.getD r default).delay + 1) h) l) := by
  have hR := ho.right
  have a2 := hR.hours
  have hx := hR.reach1 hr
  have d1 := hx.delay1
  have d2 := hx.delay
  cases hs : runI (law28_CertifySurely_l5 d s0 h r) (d.reaches.getD r default).delay.toNat 0 0 with
  | inl y => exact y.elim
  | inr w =>
    have := runI_inv (fun j s => s = osum (gateP r ((h : Int) - j + 1) h) l) _ _ _ (by
      refine (osum_none fun x _ => ?_).symm
      unfold gateP
      rw [Bool.eq_false_iff]
      simp only [ne_eq, Bool.and_eq_true, decide_eq_true_eq]; omega) (fun j s _ hj hg s' hs' => by
      unfold law28_CertifySurely_l5 at hs'
      simp only [Sum.inr.injEq] at hs'
      have w1 : IntKind.i64.wrap ((h : Int) - j) = (h : Int) - j := wrapI (by omega) (by omega)
      rw [w1, h0.inn, hg] at hs'
      have b1 := gate_range ho r ((h : Int) - j)
      have b2 := all_le ho (gateP r ((h : Int) - j + 1) h)
      rw [wrapI (by omega) (by omega)] at hs'
      have := gate_add ho r (a := (h : Int) - j) (m := (h : Int) - j + 1) (b := h) (by omega) (by omega)
      rw [show (h : Int) - j + 1 - 1 = (h : Int) - j by omega] at this
      rw [show (h : Int) - ((j + 1 : Nat) : Int) + 1 = (h : Int) - j by omega]
      omega) w hs
    rw [Nat.zero_add] at this
    rw [this, Int.toNat_of_nonneg (by omega)]
theorem part_okV {lo hi v p w : Int} (h0 : 0 ≤ lo) (h1 : lo ≤ hi) (h2 : hi ≤ v) (h3 : v ≤ 1073741824) (p0 : 0 ≤ p) (p1 : p ≤ 255) (hw : w ≤ v - hi) :
    decide (IntKind.i64.wrap (IntKind.i64.wrap (v - lo) - IntKind.i64.wrap (Int.tdiv (IntKind.i64.wrap (IntKind.i64.wrap (hi - lo) * p)) 255)) < w) = false := by
  rw [wrapI (by omega : -9223372036854775808 ≤ v - lo) (by omega), wrapI (by omega : -9223372036854775808 ≤ hi - lo) (by omega)]
  have m0 := Int.mul_nonneg (by omega : 0 ≤ hi - lo) p0
  have m1 := Int.mul_le_mul_of_nonneg_left p1 (by omega : 0 ≤ hi - lo)
  rw [wrapI (by omega : -9223372036854775808 ≤ (hi - lo) * p) (by omega), Int.tdiv_eq_ediv_of_nonneg m0]
  have q0 := Int.ediv_nonneg m0 (by omega : (0 : Int) ≤ 255)
  have q1 : (hi - lo) * p / 255 ≤ hi - lo := Int.ediv_le_of_le_mul (by omega) m1
  rw [wrapI (by omega : -9223372036854775808 ≤ (hi - lo) * p / 255) (by omega), wrapI (by omega) (by omega), decide_eq_false_iff_not]
  omega
theorem reach_stepV {d : District} {c : List Claim} {l : List Order} (hS : Sure d c l) {s0 : CM × CM × CM} (h0 : M3 d l s0) {u : List Int} (hu : ∀ x ∈ u, 0 ≤ x ∧ x ≤ 255) {h r : Nat} (hh : h < d.hours.toNat) (hr : r < d.reaches.length) {s : Int} (s1 : 0 ≤ s) (s2 : s ≤ 1000000) :
    law28_CertifySurely_l4 d u s0 h r s = .inr (s + 1) ∧ law28_CertifySurely_l4_p d u s0 h r s := by
  have ho := hS.ho
  have hR := ho.right
  have a2 := hR.hours
  have hx := hR.reach1 hr
  have d1 := hx.delay1
  have d2 := hx.delay
  have w1 : IntKind.i64.wrap ((h : Int) - (d.reaches.getD r default).delay) = (h : Int) - (d.reaches.getD r default).delay := wrapI (by omega) (by omega)
  have hg := gate_range ho r ((h : Int) - (d.reaches.getD r default).delay)
  obtain ⟨v1, v2, v3, v4⟩ := lost_ok (hR.reach r hr) hg.1 hg.2
  have hw := hS.water r h hr hh
  unfold losses_Worst at hw
  rw [v1] at hw
  simp only [bne_self_eq_false, cond_false] at hw
  rw [wrapI (by omega) (by omega)] at hw
  have hb := hS.bank r h hr hh
  have hc := hS.cap r h hr
  have hl : losses_Lost (d.reaches.getD r default) (osum (gateP r ((h : Int) - (d.reaches.getD r default).delay) ((h : Int) - (d.reaches.getD r default).delay)) l) = (losses_lost (d.reaches.getD r default) (osum (gateP r ((h : Int) - (d.reaches.getD r default).delay) ((h : Int) - (d.reaches.getD r default).delay)) l), 0) := by
    unfold losses_Lost
    rw [v1]
    rfl
  have hpart : ∀ p : Int, 0 ≤ p → p ≤ 255 → _ := fun p p0 p1 => part_okV v2 v3 v4 hg.2 p0 p1 (w := osum (drawP d r h) l) (by omega)
  have hdec : ((((0 : Int) != 0) || decide ((losses_lost (d.reaches.getD r default) (osum (gateP r ((h : Int) - (d.reaches.getD r default).delay) ((h : Int) - (d.reaches.getD r default).delay)) l)).lo > (losses_lost (d.reaches.getD r default) (osum (gateP r ((h : Int) - (d.reaches.getD r default).delay) ((h : Int) - (d.reaches.getD r default).delay)) l)).hi)) || decide (osum (gateP r ((h : Int) - (d.reaches.getD r default).delay + 1) h) l > (d.reaches.getD r default).bank)) = false := by
    rw [decide_eq_false (by omega), decide_eq_false (by omega)]; rfl
  constructor
  · unfold law28_CertifySurely_l4
    rw [way_run ho h0 hh hr]
    dsimp only
    rw [w1, h0.inn, h0.inn, h0.draw _ _ (by omega), hl, hdec, decide_eq_false (by omega : ¬ osum (gateP r h h) l > (d.reaches.getD r default).cap)]
    simp only [Bool.or_self, cond_false]
    rw [hpart 0 (by omega) (by omega), wrapI (by omega : -9223372036854775808 ≤ s + 1) (by omega)]
    by_cases hs : s < (u.length : Int)
    · have hm := hu _ (getD_mem' u 0 (k := s.toNat) (by omega))
      rw [decide_eq_true hs, wrapI (by omega : -9223372036854775808 ≤ u.getD s.toNat 0) (by omega), hpart _ hm.1 hm.2]
      rfl
    · rw [decide_eq_false hs]
      rfl
  · unfold law28_CertifySurely_l4_p
    exact ⟨by omega, fun _ _ _ _ hs => ⟨s1, by simpa using hs⟩⟩
theorem hour_step {d : District} {c : List Claim} {l : List Order} (hS : Sure d c l) {s0 : CM × CM × CM} (h0 : M3 d l s0) {u : List Int} (hu : ∀ x ∈ u, 0 ≤ x ∧ x ≤ 255) {h : Nat} (hh : h < d.hours.toNat) {s : Int × Int} (hs : s.1 = d.tank.start - osum (gateP (0 : Nat) 0 ((h : Int) - 1)) l) (s1 : 0 ≤ s.2) (s2 : s.2 ≤ h * 64) :
    (∃ s', law28_CertifySurely_l3 d u s0 h s = .inr s' ∧ s'.1 = d.tank.start - osum (gateP (0 : Nat) 0 h) l ∧ 0 ≤ s'.2 ∧ s'.2 ≤ ((h + 1 : Nat) : Int) * 64) ∧ law28_CertifySurely_l3_p d u s0 h s := by
  have ho := hS.ho
  have hR := ho.right
  have a2 := hR.hours
  have r2 := hR.reaches
  have b0 := hR.start0
  have b1 := hR.start
  have b2 := hR.cap
  have ht := hS.tank h hh
  have hg := gate_range ho 0 (h : Int)
  have hsp := gate_split ho (0 : Nat) h
  have e0 : (((0 : Nat) : Int)) = 0 := rfl
  rw [e0] at ht hsp hs
  have hb := all_le ho (gateP 0 0 ((h : Int) - 1))
  have w1 : IntKind.i64.wrap (s.1 - osum (gateP 0 h h) l) = d.tank.start - osum (gateP 0 0 h) l := by rw [wrapI (by omega) (by omega)]; omega
  have hrun : ∀ r0 n k, n + k = d.reaches.length → 0 ≤ r0 → r0 ≤ (h : Int) * 64 + k → okI (law28_CertifySurely_l4 d u s0 h) (law28_CertifySurely_l4_p d u s0 h) n k r0 ∧ runI (law28_CertifySurely_l4 d u s0 h) n k r0 = .inr (r0 + n) := fun r0 n => by
    induction n generalizing r0 with
    | zero => intro k _ _ _; exact ⟨trivial, by simp [runI]⟩
    | succ n ih =>
      intro k hk q0 q1
      obtain ⟨g1, g2⟩ := reach_stepV hS h0 hu hh (r := k) (by omega) q0 (by omega)
      obtain ⟨i1, i2⟩ := ih (r0 + 1) (k + 1) (by omega) (by omega) (by omega)
      refine ⟨⟨g2, fun s' e => ?_⟩, ?_⟩
      · rw [g1, Sum.inr.injEq] at e
        subst e; exact i1
      · simp only [runI]
        rw [g1]
        dsimp only
        rw [i2]
        congr 1; omega
  obtain ⟨k1, k2⟩ := hrun s.2 d.reaches.length 0 (by omega) s1 (by omega)
  constructor
  · unfold law28_CertifySurely_l3
    rw [h0.inn, w1, decide_eq_false (by omega), k2]
    exact ⟨_, rfl, rfl, by dsimp only; omega, by dsimp only; omega⟩
  · unfold law28_CertifySurely_l3_p
    exact fun _ _ => k1
theorem hours_run {d : District} {c : List Claim} {l : List Order} (hS : Sure d c l) {s0 : CM × CM × CM} (h0 : M3 d l s0) {u : List Int} (hu : ∀ x ∈ u, 0 ≤ x ∧ x ≤ 255) :
    okI (law28_CertifySurely_l3 d u s0) (law28_CertifySurely_l3_p d u s0) d.hours.toNat 0 (d.tank.start, 0) ∧ ∃ s, runI (law28_CertifySurely_l3 d u s0) d.hours.toNat 0 (d.tank.start, 0) = .inr s := by
  have key : ∀ n k (s : Int × Int), n + k = d.hours.toNat → s.1 = d.tank.start - osum (gateP (0 : Nat) 0 ((k : Int) - 1)) l → 0 ≤ s.2 → s.2 ≤ k * 64 → okI (law28_CertifySurely_l3 d u s0) (law28_CertifySurely_l3_p d u s0) n k s ∧ ∃ s', runI (law28_CertifySurely_l3 d u s0) n k s = .inr s' := fun n => by
    induction n with
    | zero => intro k s _ _ _ _; exact ⟨trivial, s, rfl⟩
    | succ n ih =>
      intro k s hk q0 q1 q2
      obtain ⟨⟨s', g1, g2, g3, g4⟩, g5⟩ := hour_step hS h0 hu (h := k) (by omega) q0 q1 q2
      obtain ⟨i1, i2⟩ := ih (k + 1) s' (by omega) (by rw [g2]; congr 3; omega) g3 g4
      refine ⟨⟨g5, fun s'' e => ?_⟩, ?_⟩
      · rw [g1, Sum.inr.injEq] at e
        subst e; exact i1
      · simp only [runI]
        rw [g1]
        exact i2
  refine key _ 0 _ (by omega) ?_ (Int.le_refl _) (by simp)
  dsimp only
  rw [osum_none fun x hx => ?_]
  · omega
  · obtain ⟨k, hk, rfl⟩ := List.getElem_of_mem hx
    have hz := (hS.ho.one k hk).hour0
    rw [getD_el _ _ hk] at hz
    unfold gateP
    rw [Bool.eq_false_iff]
    simp only [ne_eq, Bool.and_eq_true, decide_eq_true_eq]; omega
theorem acc_b' {d : District} {c : List Claim} {l : List Order} (h : ((certify_Accepts d c l).2 != 0 || !(certify_Accepts d c l).1) = false) : certify_Accepts d c l = (true, 0) := by
  simp only [Bool.or_eq_false_iff, bne_eq_false_iff_eq, Bool.not_eq_false'] at h
  rw [← h.1, ← h.2]
theorem surely_t (d : District) (c : List Claim) (l : List Order) (u : List Int) (hu : ∀ x ∈ u, 0 ≤ x ∧ x ≤ 255) : law28_CertifySurely d c l u = true := by
  unfold law28_CertifySurely
  rw [sane_t]
  simp only [Bool.not_true, cond_false]
  cases hf : ref28_Few d c l with
  | false => rfl
  | true =>
    simp only [Bool.not_true, cond_false]
    cases ha : ((certify_Accepts d c l).2 != 0 || !(certify_Accepts d c l).1) with
    | true => rfl
    | false =>
      have hS := sure (acc_b' ha)
      simp only [cond_false]
      cases h0 : runI (law28_CertifySurely_l0 d l) l.length 0 ([], [], []) with
      | inl y => exact y.elim
      | inr s0 =>
        have m0 := M3_run hS.ho h0
        dsimp only
        cases h1 : runI (law28_CertifySurely_l1 c) c.length 0 [] with
        | inl y => exact y.elim
        | inr s1 =>
          have m1 := CM_run hS.clen (fun a ha => okC_litres (hS.okc a ha)) h1
          dsimp only
          rw [runL_unit (met_step hS m0 m1)]
          dsimp only
          obtain ⟨_, s3, h3⟩ := hours_run hS m0 hu
          rw [h3]
theorem surely_p (d : District) (c : List Claim) (l : List Order) (u : List Int) (hu : ∀ x ∈ u, 0 ≤ x ∧ x ≤ 255) : law28_CertifySurely_p d c l u := by
  refine ⟨sane_p, fun _ _ => ⟨accepts_pt d c l, fun ha _ => ?_⟩⟩
  have hS := sure (acc_b' ha)
  refine ⟨okI_all _ _ _ fun j s _ hj => ?_, fun s0 h0 _ s1 h1 => ?_⟩
  · have hx := hS.ho.one j (by omega)
    unfold law28_CertifySurely_l0_p
    exact ⟨fun e => ⟨hx.index0, hx.farm e⟩, fun e _ => ⟨hx.index0, hx.reach e⟩⟩
  · have m0 := M3_run hS.ho h0
    have m1 := CM_run hS.clen (fun a ha => okC_litres (hS.okc a ha)) h1
    have := hS.ho.right.hours
    exact ⟨met_okM hS m0 m1, fun _ _ => ⟨by omega, (hours_run hS m0 hu).1⟩⟩
end Go.Sx
end
section
namespace Go.Sx
open Go.RowKit Go.Deep
section
variable {F : Nat → Prop} {own : Own} {w : World}
def RC (F : Nat → Prop) (own : Own) (w : World) (ks : List Kd) (cs : List Value) : Prop :=
  ∃ l : List SV, fits ks l = true ∧ l.length = cs.length ∧ ∀ (j : Nat) (s : SV) (v : Value), l[j]? = some s → cs[j]? = some v → Rel F own w s v
theorem fits_app : ∀ {a b : List Kd} {l m : List SV}, fits a l = true → fits b m = true → fits (a ++ b) (l ++ m) = true
  | [], b, l, m, h1, h2 => by rw [fits_nil h1]; exact h2
  | k :: a, b, l, m, h1, h2 => by
    obtain ⟨x, r, rfl, e1, e2⟩ := fits_cons h1
    simp only [List.cons_append, fits, e1, fits_app e2 h2, Bool.and_self]
theorem RC.nil : RC F own w [] [] := ⟨[], rfl, rfl, fun j s v h => by cases h⟩
theorem RC.app {a b : List Kd} {c d : List Value} (h1 : RC F own w a c) (h2 : RC F own w b d) : RC F own w (a ++ b) (c ++ d) := by
  obtain ⟨l, f1, n1, r1⟩ := h1
  obtain ⟨m, f2, n2, r2⟩ := h2
  refine ⟨l ++ m, fits_app f1 f2, by simp [n1, n2], fun j s v hs hv => ?_⟩
  by_cases hj : j < l.length
  · rw [List.getElem?_append_left hj] at hs
    rw [List.getElem?_append_left (by omega)] at hv
    exact r1 j s v hs hv
  · rw [List.getElem?_append_right (by omega)] at hs
    rw [List.getElem?_append_right (by omega), ← n1] at hv
    exact r2 _ s v hs hv
theorem RC.one {k : Kd} {s : SV} {v : Value} (h1 : fit k s = true) (h2 : Rel F own w s v) : RC F own w [k] [v] :=
  ⟨[s], by simp [fits, h1], rfl, fun j s' v' hs hv => by
    cases j with
    | zero => simp only [List.getElem?_cons_zero, Option.some.injEq] at hs hv; subst hs; subst hv; exact h2
    | succ j => simp at hs⟩
end
def eqKd : Kd → Kd → Bool
  | .s, .s => true
  | .b, .b => true
  | .n a, .n b => decide (a = b)
  | .r a, .r b => decide (a = b)
  | .m a c, .m b d => decide (a = b) && decide (c = d)
  | _, _ => false
theorem eqKd_ok : ∀ {a b : Kd}, eqKd a b = true → a = b := by
  intro a b h
  cases a <;> cases b <;> simp_all [eqKd]
def eqKs : List Kd → List Kd → Bool
  | [], [] => true
  | a :: l, b :: m => eqKd a b && eqKs l m
  | _, _ => false
theorem eqKs_ok : ∀ {a b : List Kd}, eqKs a b = true → a = b
  | [], [], _ => rfl
  | a :: l, b :: m, h => by
    simp only [eqKs, Bool.and_eq_true] at h
    rw [eqKd_ok h.1, eqKs_ok h.2]
def kindsF (P : Program) (g : TypeId → Option (List Kd)) : List Field → Nat → Nat → Option (List Kd)
  | [], off, tot => bif Nat.beq off tot then some [] else none
  | f :: r, off, tot => match g f.type with
    | some a => bif Nat.beq f.offset off && Nat.beq a.length (P.cellsOf f.type) then (kindsF P g r (off + a.length) tot).map (a ++ ·) else none
    | none => none
def kindsA (a : List Kd) : Nat → List Kd
  | 0 => []
  | n + 1 => a ++ kindsA a n
def kindsT (P : Program) : Nat → TypeId → Option (List Kd)
  | 0, _ => none
  | n + 1, t => match P.underlying t with
    | some .bool => some [.b]
    | some (.int k) => some [.n k]
    | some .string => some [.s]
    | some (.slice e) => match tagT P e, kindsT P n e with
      | some k, some ks => bif eqKs ks (kindsOf k) && Nat.beq (P.cellsOf e) (sizeOfTag k) && Nat.ble 1 (sizeOfTag k) then some [.r k] else none
      | _, _ => none
    | some (.struct fs) => kindsF P (kindsT P n) fs.toList 0 (P.cellsOf t)
    | some (.array m e) => match kindsT P n e with
      | some a => bif Nat.beq a.length (P.cellsOf e) && Nat.beq (P.cellsOf t) (m * a.length) then some (kindsA a m) else none
      | none => none
    | _ => none
section
variable {H : Type} {enc : TypeId × Value → H} {P : Program} {F : Nat → Prop} {own : Own} {w : World} {base : Nat} {spare : Nat → Bool} {held : Bool} {S : DataW H → Prop}
theorem kF_read {g : TypeId → Option (List Kd)} (hg : ∀ t ks, g t = some ks → ∀ (fuel : Nat) (cs : List Value) (x : DataW H × List MemPlace), DataW.trod enc P w base spare held fuel t cs = some x → S x.1 → RC F own w ks cs)
    (fuel : Nat) (cs : List Value) : ∀ (fs : List Field) (off : Nat) (ks : List Kd), kindsF P g fs off cs.length = some ks → (∀ f ∈ fs, ∃ x, DataW.trod enc P w base spare held fuel f.type ((cs.drop f.offset).take (P.cellsOf f.type)) = some x ∧ S x.1) → RC F own w ks (cs.drop off)
  | [], off, ks, h, _ => by
    unfold kindsF at h
    cases hb : Nat.beq off cs.length with
    | false => rw [hb] at h; cases h
    | true =>
      rw [hb] at h
      have : off = cs.length := Nat.eq_of_beq_eq_true hb
      subst this
      cases h
      rw [List.drop_length]
      exact RC.nil
  | f :: r, off, ks, h, hx => by
    unfold kindsF at h
    cases ha : g f.type with
    | none => rw [ha] at h; cases h
    | some a =>
      rw [ha] at h
      dsimp only at h
      cases hb : Nat.beq f.offset off && Nat.beq a.length (P.cellsOf f.type) with
      | false => rw [hb] at h; cases h
      | true =>
        rw [hb] at h
        simp only [cond_true, Option.map_eq_some_iff] at h
        obtain ⟨ks2, h2, rfl⟩ := h
        rw [Bool.and_eq_true] at hb
        have e1 : f.offset = off := Nat.eq_of_beq_eq_true hb.1
        have e2 : a.length = P.cellsOf f.type := Nat.eq_of_beq_eq_true hb.2
        obtain ⟨x, hx1, hs1⟩ := hx f (by simp)
        have h3 := hg _ _ ha _ _ _ hx1 hs1
        have h4 := kF_read hg fuel cs r (off + a.length) ks2 h2 fun f hf => hx f (by simp [hf])
        have := h3.app h4
        rw [e1, ← e2] at this
        rwa [← List.drop_drop, List.take_append_drop] at this
theorem kA_read {e : TypeId} {a : List Kd} (ha : ∀ (fuel : Nat) (cs : List Value) (x : DataW H × List MemPlace), DataW.trod enc P w base spare held fuel e cs = some x → S x.1 → RC F own w a cs)
    (fuel : Nat) : ∀ (m : Nat) (cs : List Value), cs.length = m * a.length → (∀ i, i < m → ∃ x, DataW.trod enc P w base spare held fuel e ((cs.drop (i * a.length)).take a.length) = some x ∧ S x.1) → RC F own w (kindsA a m) cs
  | 0, cs, h, _ => by
    have : cs = [] := by simpa using h
    subst this
    exact RC.nil
  | m + 1, cs, h, hx => by
    obtain ⟨x, hx1, hs1⟩ := hx 0 (by omega)
    rw [Nat.zero_mul, List.drop_zero] at hx1
    have h3 := ha _ _ _ hx1 hs1
    have h4 := kA_read ha fuel m (cs.drop a.length) (by rw [List.length_drop, h, Nat.succ_mul]; omega) fun i hi => by
      obtain ⟨x, hx2, hs2⟩ := hx (i + 1) (by omega)
      refine ⟨x, ?_, hs2⟩
      rw [List.drop_drop]
      rwa [Nat.succ_mul, Nat.add_comm] at hx2
    have := h3.app h4
    rwa [List.take_append_drop] at this
structure Small (S : DataW H → Prop) : Prop where
  agg : ∀ l, S (.agg l) → ∀ d ∈ l, S d
  slice : ∀ l m, S (.slice l m) → l.length ≤ maxL ∧ ∀ d ∈ l, S d
theorem kinds_read (hS : Small S) (hown : ∀ b, ¬ ownB F own b) : ∀ (n : Nat) (t : TypeId) (ks : List Kd), kindsT P n t = some ks → ∀ (fuel : Nat) (cs : List Value) (x : DataW H × List MemPlace), DataW.trod enc P w base spare held fuel t cs = some x → S x.1 → RC F own w ks cs
  | 0, _, _, h, _, _, _, _, _ => by cases h
  | n + 1, t, ks, h, fuel, cs, x, hx, hs => by
    unfold kindsT at h
    split at h
    · rename_i ht
      cases h
      obtain ⟨b, rfl, rfl⟩ := DataW.trod_bool ht hx
      exact RC.one (s := .v (.bool b)) rfl (.v _)
    · rename_i k ht
      cases h
      obtain ⟨m, rfl, rfl, _⟩ := DataW.trod_int ht hx
      exact RC.one (s := .v (.int k m)) (by simp [fit]) (.v _)
    · rename_i ht
      cases h
      obtain ⟨b, rfl, rfl, _⟩ := DataW.trod_string ht hx
      exact RC.one (s := .v (.string b)) rfl (.v _)
    · rename_i e ht
      split at h
      · rename_i k ks2 hk hks
        cases hb : eqKs ks2 (kindsOf k) && Nat.beq (P.cellsOf e) (sizeOfTag k) && Nat.ble 1 (sizeOfTag k) with
        | false => rw [hb] at h; cases h
        | true =>
          rw [hb] at h
          cases h
          simp only [Bool.and_eq_true] at hb
          have e1 := eqKs_ok hb.1.1
          have e2 : P.cellsOf e = sizeOfTag k := Nat.eq_of_beq_eq_true hb.1.2
          have e3 : 1 ≤ sizeOfTag k := Nat.le_of_ble_eq_true hb.2
          subst e1
          rcases open_slice ht hx with ⟨rfl, rfl⟩ | ⟨a, len, cap, m, f2, D, Pl, rfl, hb1, hl, hm, hmm, rfl, hel⟩
          · exact RC.one (s := .rs k []) (by simp [fit]) .rs0
          · have hlm : len ≤ m := by subst hmm; split <;> omega
            obtain ⟨hs1, hs2⟩ := hS.slice _ _ hs
            simp only [List.length_map, List.length_range] at hs1
            have helt : ∀ i, i < len → ∃ cs', cs'.length = sizeOfTag k ∧ (∀ j v, cs'[j]? = some v → w.cell? ((a.add (i * sizeOfTag k)).add j) = some v) ∧ RC F own w (kindsOf k) cs' := fun i hi => by
              obtain ⟨cs', h1, h2⟩ := hel i (by omega)
              have h3 := kinds_read hS hown n e (kindsOf k) hks f2 cs' _ h2 (hs2 _ (List.mem_map_of_mem (List.mem_range.2 hi)))
              unfold World.cells? at h1
              split at h1
              · refine ⟨cs', by rw [mapM_some_length h1, List.length_range, e2], fun j v hj => ?_, h3⟩
                have hlt : j < P.cellsOf e := by
                  have := (List.getElem?_eq_some_iff.1 hj).1
                  rwa [mapM_some_length h1, List.length_range] at this
                have := mapM_some_get h1 j j (by simp [hlt])
                rw [e2] at this
                rw [this, hj]
              · cases h1
            by_cases h0 : len = 0
            · subst h0
              exact RC.one (s := .rs k []) (by simp [fit]) .rs0
            · have hsp : a.spot = none := by
                obtain ⟨cs', h1, h2, _⟩ := helt 0 (by omega)
                have := h2 0 (cs'[0]'(by omega)) (by rw [List.getElem?_eq_getElem])
                rw [Nat.zero_mul] at this
                simp only [Addr.add, if_true] at this
                unfold World.cell? at this
                split at this
                · cases hsp : a.spot with
                  | none => rfl
                  | some q => rw [hsp] at this; simp at this
                · cases this
              obtain ⟨ab, ao, asp⟩ := a
              dsimp only at hsp
              subst hsp
              haveI : Inhabited k.T := ⟨dflt k⟩
              obtain ⟨X, hX⟩ := choose_lt (p := fun i (x : k.T) => ∀ (j : Nat) (s : SV), (cellsOf k x)[j]? = some s → ∃ v, w.cell? ⟨ab, ao + i * sizeOfTag k + j, none⟩ = some v ∧ Rel F own w s v) (n := len) fun i hi => by
                obtain ⟨cs', h1, h2, l, h3, h4, h5⟩ := helt i hi
                refine ⟨mkE k l, fun j s hj => ?_⟩
                rw [elemO_cells (k := k) (l := l) (x := mkE k l) (by unfold elemO; rw [h3]; rfl)] at hj
                have hlt : j < cs'.length := by
                  have := (List.getElem?_eq_some_iff.1 hj).1
                  omega
                refine ⟨cs'[j], ?_, h5 j s _ hj (List.getElem?_eq_getElem hlt)⟩
                have := h2 j cs'[j] (List.getElem?_eq_getElem hlt)
                have hadd : ∀ p q, ((⟨ab, ao, none⟩ : Addr).add p).add q = ⟨ab, ao + p + q, none⟩ := fun p q => by
                  unfold Addr.add
                  by_cases hp : p = 0 <;> by_cases hq : q = 0 <;> simp [hp, hq]
                rwa [hadd] at this
              have hL : ((List.range len).map X).length = len := by simp
              refine RC.one (s := .rs k ((List.range len).map X)) (by simp [fit]) ?_
              have hget : ∀ (i : Nat) (x : k.T), ((List.range len).map X)[i]? = some x → i < len ∧ x = X i := fun i x hi => by
                obtain ⟨h1, h2⟩ := List.getElem?_eq_some_iff.1 hi
                rw [hL] at h1
                simp only [List.getElem_map, List.getElem_range] at h2
                subst h2
                exact ⟨h1, rfl⟩
              have := Rel.rs (F := F) (own := own) (w := w) (k := k) (l := (List.range len).map X) (b := ab) (o := ao) (cap := cap) (fun i j => (w.cell? ⟨ab, ao + i * sizeOfTag k + j, none⟩).getD undef) (by rw [hL]; exact hl) (by rw [hL]; exact hs1)
                (fun i x hi j s hj => by
                  obtain ⟨h1, rfl⟩ := hget i x hi
                  obtain ⟨v, h2, _⟩ := hX i h1 j s hj
                  exact ⟨hown _, by rw [h2]; rfl⟩)
                (fun i x hi j s hj => by
                  obtain ⟨h1, rfl⟩ := hget i x hi
                  obtain ⟨v, h2, h3⟩ := hX i h1 j s hj
                  rw [h2]; exact h3)
              rwa [hL] at this
      · cases h
    · rename_i fs ht
      obtain ⟨xs, m, rfl, rfl, hl, hlen, hf⟩ := DataW.trod_struct ht hx
      rw [← hl] at h
      have := kF_read (kinds_read hS hown n) m cs fs.toList 0 ks h fun f hfm => by
        obtain ⟨i, hi, rfl⟩ := List.getElem_of_mem hfm
        have hi' : i < fs.size := by simpa using hi
        have h1 := hf i fs[i] (by simp [hi'])
        rw [List.getElem?_eq_getElem (by omega)] at h1
        refine ⟨_, by simpa using h1, hS.agg _ hs _ (List.mem_map_of_mem (List.getElem_mem _))⟩
      simpa using this
    · rename_i m e ht
      split at h
      · rename_i a ha
        cases hb : Nat.beq a.length (P.cellsOf e) && Nat.beq (P.cellsOf t) (m * a.length) with
        | false => rw [hb] at h; cases h
        | true =>
          rw [hb] at h
          cases h
          rw [Bool.and_eq_true] at hb
          have e1 : a.length = P.cellsOf e := Nat.eq_of_beq_eq_true hb.1
          have e2 : P.cellsOf t = m * a.length := Nat.eq_of_beq_eq_true hb.2
          obtain ⟨xs, f2, rfl, rfl, hl, hlen, hf⟩ := DataW.trod_array ht hx
          refine kA_read (kinds_read hS hown n e a ha) f2 m cs (by rw [hl, e2]) fun i hi => ?_
          have h1 := hf i hi
          rw [List.getElem?_eq_getElem (by omega), ← e1] at h1
          exact ⟨_, h1, hS.agg _ hs _ (List.mem_map_of_mem (List.getElem_mem _))⟩
      · cases h
    · cases h
end
end Go.Sx
end
section
namespace Go.Sx
open Go.RowKit Go.Deep
theorem u8_range {H : Type} {enc : TypeId × Value → H} {P : Program} {w : World} {base : Nat} {spare : Nat → Bool} {held : Bool} {F : Nat → Prop} {own : Own} {t e : TypeId} (ht : P.underlying t = some (.slice e)) (he : P.underlying e = some (.int .u8)) (hc : P.cellsOf e = 1)
    {fuel : Nat} {v : Value} {x : DataW H × List MemPlace} (hx : DataW.trod enc P w base spare held fuel t [v] = some x) (l : List Tag.u8.T) (hr : Rel F own w (.rs .u8 l) v) : ∀ y ∈ l, (0 : Int) ≤ y ∧ y ≤ 255 := by
  intro y hy
  rcases open_slice ht hx with ⟨h0, _⟩ | ⟨a, len, cap, m, f2, D, Pl, h0, hb1, hl, hm, hmm, _, hel⟩
  · simp only [List.cons.injEq, and_true] at h0
    subst h0
    cases hr
    cases hy
  · simp only [List.cons.injEq, and_true] at h0
    subst h0
    cases hr with
    | rs0 => cases hy
    | @rs _ _ b o _ c h1 h2 h3 h4 =>
      obtain ⟨i, hi, rfl⟩ := List.getElem_of_mem hy
      have hlm : l.length ≤ m := by subst hmm; split <;> omega
      obtain ⟨cs', g1, g2⟩ := hel i (by omega)
      obtain ⟨n, rfl, _, hw⟩ := DataW.trod_int he g2
      have e1 := List.getElem?_eq_getElem hi
      have k1 := (h3 i _ e1 0 _ rfl).2
      have k2 := h4 i _ e1 0 _ rfl
      rw [hc] at g1
      unfold World.cells? at g1
      split at g1
      · have := mapM_some_get g1 0 0 (by simp)
        rw [Nat.mul_one] at this
        have hadd : ((⟨b, o, none⟩ : Addr).add i).add 0 = ⟨b, o + i * 1 + 0, none⟩ := by
          unfold Addr.add
          by_cases hp : i = 0 <;> simp [hp]
        rw [hadd] at this
        have k1' : w.cell? ⟨b, o + i * 1 + 0, none⟩ = some (c i 0) := k1
        rw [k1'] at this
        simp only [List.getElem?_cons_zero, Option.some.injEq] at this
        rw [rel_v k2] at this
        simp only [Value.int.injEq, true_and] at this
        subst this
        simpa [Lit.wf, IntKind.min, IntKind.max, IntKind.signed, IntKind.bits] using hw
      · cases g1
end Go.Sx
end
section
namespace Go.Sx
open Go.Proofs
section
variable {F : Nat → Prop} {own : Own} {w : World}
theorem agg_rel {k : Tag} {cs : Array Value} (h : RC F own w (kindsOf k) cs.toList) : ∃ x : k.T, Rel F own w (.agg (cellsOf k x)) (.agg cs) := by
  obtain ⟨l, h3, h4, h5⟩ := h
  refine ⟨mkE k l, ?_⟩
  rw [elemO_cells (k := k) (l := l) (x := mkE k l) (by unfold elemO; rw [h3]; rfl)]
  refine .agg (by simpa using h4.symm) fun j s hj => ?_
  have hlt : j < cs.size := by
    have := (List.getElem?_eq_some_iff.1 hj).1
    simpa [h4] using this
  exact h5 j s _ hj (by simp [Array.getD, hlt])
theorem sl_rel {k : Tag} {v : Value} (h : RC F own w [.r k] [v]) : ∃ l : List k.T, Rel F own w (.rs k l) v := by
  obtain ⟨l, h3, h4, h5⟩ := h
  obtain ⟨x, r, rfl, h6, h7⟩ := fits_cons h3
  have h8 := h5 0 x v rfl rfl
  cases x with
  | rs k' l' =>
    have : k = k' := by
      simp only [fit] at h6
      exact tagN_inj h6
    subst this
    exact ⟨l', h8⟩
  | _ => simp [fit] at h6
end
end Go.Sx
end
section
namespace Go.Sx
open Go.RowKit Go.WideShapes Go.ChangeShapes
section
variable {H : Type} {enc : TypeId × Value → H} {P : Program}
def okTs (P : Program) : List TypeId → Bool
  | [] => true
  | t :: r => P.readableRec t && Nat.blt t P.types.size && okTs P r
theorem all_stays (hl : laidOutB P = true) {W W' : World} (hg : Below W.heap.size W W') : ∀ {ts : List TypeId} {vs : List Value} {ds : List (DataW H)} {ps : List MemPlace}, okTs P ts = true →
    DataW.TrodAll enc P W 0 (fun _ => true) true ts vs ds ps → (∀ x ∈ ps, x.block < W.heap.size) → DataW.TrodAll enc P W' 0 (fun b => decide (b < W.heap.size)) true ts vs ds ps
  | [], vs, ds, ps, _, h, _ => by
    obtain ⟨rfl, rfl, rfl⟩ := trodAll_nil h
    exact trodAll_mk0
  | t :: ts, vs, ds, ps, hk, h, hlt => by
    unfold okTs at hk
    rw [Bool.and_eq_true, Bool.and_eq_true] at hk
    obtain ⟨v, vs', d, ds', p, q, rfl, rfl, rfl, h1, h2⟩ := trodAll_cons h
    refine trodAll_cons_mk (WideElems.Trod_stays hl hk.1.1 (by simpa [Nat.blt_eq] using hk.1.2) h1 (fun x hx => hg.same (hlt x (List.mem_append_left _ hx))) (fun x hx => by simpa using hlt x (List.mem_append_left _ hx))) ?_
    exact all_stays hl hg hk.2 h2 fun x hx => hlt x (List.mem_append_right _ hx)
theorem law_post (hl : laidOutB P = true) {f : Func} {s : ChangeSpec} {W W' : World} {args : Array Value} {ds gs : List (DataW H)} {before : List MemPlace} {t : TypeId}
    (hk : okTs P f.params.toList = true) (hW : DataW.Whole enc P f.params.toList s.vars false W args.toList ds gs before)
    (hr : f.resultTypes = #[t]) (ht : P.underlying t = some .bool) (hv : s.vars = []) (h1 : (s.fn H (ds ++ gs)).results = [.lit (.bool true)]) (h2 : (s.fn H (ds ++ gs)).args = ds) (h3 : (s.fn H (ds ++ gs)).vars = [])
    (hg : Below W.heap.size W W') : s.post enc P f false true false false W args (.bool true) W' := by
  have hlt := hW.lt
  have hW0 := hW
  obtain ⟨p, q, hA, hV, rfl, _, _⟩ := hW
  rw [hv] at hV
  obtain ⟨rfl, rfl⟩ := trodVars_none hV
  refine ⟨ds, [], p ++ [], [], p, [], hW0, ?_, ?_, ?_, ?_, fun h => by cases h⟩
  · rw [h1, hr]
    exact trodAll_cons_mk (shut_bool ht _) trodAll_mk0
  · rw [h2]
    exact all_stays hl hg hk hA fun x hx => hlt x (by simpa using hx)
  · rw [h3, hv]
    rfl
  · exact World.keptBut_mono (fun x hx => ⟨hx, .inr (.inl (by simpa using hx))⟩) (hg.frame (· ∈ p ++ []))
end
end Go.Sx
end
section
namespace Go.Proofs.Ytnhhdmkikgdfkaa.bulks
theorem one_le {H : Type} (d : DataW H) : 1 ≤ Rows.uptoBulk d := by
  cases d with
  | lit l => cases l <;> simp [Rows.uptoBulk]
  | nil => simp [Rows.uptoBulk]
  | ptr d => simp [Rows.uptoBulk]
  | slice elems spare => simp [Rows.uptoBulk]
  | agg parts => simp [Rows.uptoBulk]
  | iface t d => simp [Rows.uptoBulk]
  | map entries => simp [Rows.uptoBulk]
  | held h => simp [Rows.uptoBulk]
theorem part_le {H : Type} {d : DataW H} {l : List (DataW H)} (h : d ∈ l) : Rows.uptoBulk d ≤ Rows.uptoBulkAll l := by
  induction l with
  | nil => cases h
  | cons x r ih =>
    simp only [Rows.uptoBulkAll]
    cases List.mem_cons.1 h with
    | inl e => subst e; omega
    | inr e => have := ih e; omega
theorem append {H : Type} (l r : List (DataW H)) : Rows.uptoBulkAll (l ++ r) = Rows.uptoBulkAll l + Rows.uptoBulkAll r := by
  induction l with
  | nil => simp [Rows.uptoBulkAll]
  | cons x l ih => simp only [List.cons_append, Rows.uptoBulkAll, ih]; omega
theorem length_le {H : Type} (l : List (DataW H)) : l.length ≤ Rows.uptoBulkAll l := by
  induction l with
  | nil => simp [Rows.uptoBulkAll]
  | cons x r ih => have := one_le x; simp only [Rows.uptoBulkAll, List.length_cons]; omega
theorem slice_le {H : Type} (elems spare : List (DataW H)) : elems.length + spare.length + 1 ≤ Rows.uptoBulk (.slice elems spare) := by
  have h1 := length_le elems
  have h2 := length_le spare
  simp only [Rows.uptoBulk]
  omega
theorem slice_elems {H : Type} (elems spare : List (DataW H)) : Rows.uptoBulkAll elems + 1 ≤ Rows.uptoBulk (.slice elems spare) := by
  simp only [Rows.uptoBulk]
  omega
theorem bound {H : Type} {l : List (DataW H)} (hk : Rows.uptoSmall H l = true) : Rows.uptoBulkAll l ≤ 1048576 := by
  simpa [Rows.uptoSmall] using hk
theorem room {n b : Nat} (hn : n ≤ 2097152) (hb : b ≤ 4096) : (n + n / 4 + 192) * b ≤ 281474976710656 := by
  have h : (n + n / 4 + 192) * b ≤ 2621632 * 4096 := Nat.mul_le_mul (by omega) hb
  omega
end Go.Proofs.Ytnhhdmkikgdfkaa.bulks
end
section
namespace Go.Proofs.Ytnhhdmkikgdfkaa.certifySurely
open Go.ChangeShapes Go.WideShapes Go.ChangeAt Go.RowKit Go.Sx
set_option linter.unusedVariables false
theorem con_eq (x0 : Tag.district.T) (x1 : List Tag.claim.T) (x2 : List Tag.order.T) (x3 : List Tag.u8.T) : C_law28_CertifySurely [.agg (cellsOf .district x0), .rs .claim x1, .rs .order x2, .rs .u8 x3] = some (.det (law28_CertifySurely_p x0 x1 x2 x3) (.v (.bool (law28_CertifySurely x0 x1 x2 x3)))) := by
  unfold C_law28_CertifySurely
  simp only [go_sem, Nat.reduceBEq]
theorem call_true {W : World} {cs0 : Array Value} (h0 : RC (fun _ => False) own0 W (kindsOf .district) cs0.toList) {v1 : Value} (h1 : RC (fun _ => False) own0 W [.r .claim] [v1]) {v2 : Value} (h2 : RC (fun _ => False) own0 W [.r .order] [v2]) {v3 : Value} (h3 : RC (fun _ => False) own0 W [.r .u8] [v3]) (u3 : ∀ l : List Tag.u8.T, Rel (fun _ => False) own0 W (.rs .u8 l) v3 → ∀ y ∈ l, (0 : Int) ≤ y ∧ y ≤ 255) :
    Calls Try.prog 6 #[.agg cs0, v1, v2, v3] W (fun e W' => e = .returned (.bool true) ∧ Below W.heap.size W W') := by
  obtain ⟨x0, r0⟩ := agg_rel h0
  obtain ⟨x1, r1⟩ := sl_rel h1
  obtain ⟨x2, r2⟩ := sl_rel h2
  obtain ⟨x3, r3⟩ := sl_rel h3
  refine (ok_law28_CertifySurely.calls _ _ (con_eq x0 x1 x2 x3) (surely_p x0 x1 x2 x3 (u3 x3 r3)) (fun _ => False) W _ (fun b h => h.elim) ⟨rfl, fun j s hj => ?_⟩).mono fun e W' he => ?_
  · match j, hj with
    | 0, hj => cases hj; exact r0
    | 1, hj => cases hj; exact r1
    | 2, hj => cases hj; exact r2
    | 3, hj => cases hj; exact r3
  · rcases he with ⟨s, u, own', hs, rfl, hh, hb⟩ | ⟨x, hx, _⟩
    · simp only [conPost] at hs
      subst hs
      rw [surely_t x0 x1 x2 x3 (u3 x3 r3)] at hh
      have := hh.val
      simp only [HandV] at this
      rw [rel_v this]
      exact ⟨rfl, hb⟩
    · exact hx.elim
theorem own : ownKnob Try.prog.godebug = none := by kernel_rfl
theorem small (H : Type) : Small (fun d : DataW H => Rows.uptoBulk d ≤ 1048576) where
  agg l h d hd := by
    have h1 := bulks.part_le hd
    simp only [Rows.uptoBulk] at h
    omega
  slice l m h := by
    have h1 := bulks.slice_le l m
    have h2 := bulks.slice_elems l m
    refine ⟨by unfold maxL; omega, fun d hd => ?_⟩
    have := bulks.part_le hd
    omega
theorem laid : laidOutB Try.prog = true := by kernel_rfl
set_option maxRecDepth 100000 in
theorem contract (H : Type) (enc : TypeId × Value → H) (W : World) (base : Nat) (args : Array Value) (ds gs : List (DataW H)) (before : List MemPlace)
    (hval : ∀ (j : Nat) t v, Try.f6.params[j]? = some t → args[j]? = some v → Value.okWide Try.prog W .any base t v)
    (hW : DataW.Whole enc Try.prog Try.f6.params.toList Rows.certifySurelySpec.vars false W args.toList ds gs before) (hk : Rows.uptoSmall H (ds ++ gs) = true) :
    Calls Try.prog 6 args W fun e W' => ∃ v, e = .returned v ∧ Rows.certifySurelySpec.post enc Try.prog Try.f6 false true false false W args v W' := by
  have hW' := hW
  obtain ⟨p, q, hA0, hV, rfl, hfz, hnd⟩ := hW
  have hA : DataW.TrodAll enc Try.prog W 0 (fun _ => true) true Try.f6.params.toList args.toList ds p := hA0
  rw [Try.params6] at hA hval
  obtain ⟨v0, vs0, d0, ds0, p0, q0, hargs, rfl, rfl, h0, r0⟩ := trodAll_cons hA
  obtain ⟨v1, vs1, d1, ds1, p1, q1, rfl, rfl, rfl, h1, r1⟩ := trodAll_cons r0
  obtain ⟨v2, vs2, d2, ds2, p2, q2, rfl, rfl, rfl, h2, r2⟩ := trodAll_cons r1
  obtain ⟨v3, vs3, d3, ds3, p3, q3, rfl, rfl, rfl, h3, r3⟩ := trodAll_cons r2
  obtain ⟨rfl, rfl, rfl⟩ := trodAll_nil r3
  obtain rfl : args = #[v0, v1, v2, v3] := by cases args; simp_all
  obtain ⟨rfl, rfl⟩ := trodVars_none hV
  have hb := bulks.bound hk
  simp only [Rows.uptoBulkAll, List.append_nil, List.cons_append, List.nil_append] at hb
  have ho : ∀ b, ¬ ownB (fun _ => False) own0 b := fun b h => by
    rcases h with h | ⟨_, _, h, _⟩
    · exact h
    · cases h
  have s0 : ∃ cs, v0 = .agg cs := by
    have := hval 0 31 v0 rfl rfl
    simp only [Value.okWide, Try.underlying31] at this
    exact ⟨_, this.choose_spec.1⟩
  obtain ⟨cs0, rfl⟩ := s0
  obtain ⟨a1, l1, c1, rfl⟩ := okWide_slice Try.underlying39 (hval 1 39 v1 rfl rfl)
  obtain ⟨a2, l2, c2, rfl⟩ := okWide_slice Try.underlying32 (hval 2 32 v2 rfl rfl)
  obtain ⟨a3, l3, c3, rfl⟩ := okWide_slice Try.underlying58 (hval 3 58 v3 rfl rfl)
  have R0 : RC (fun _ => False) own0 W (kindsOf .district) cs0.toList := by
    obtain ⟨f, hf⟩ := h0
    exact kinds_read (n := 6) (t := 31) (small H) ho _ (by kernel_rfl) f _ _ hf (by show Rows.uptoBulk d0 ≤ _; omega)
  have R1 : RC (fun _ => False) own0 W [.r .claim] [.slice a1 l1 c1] := by
    obtain ⟨f, hf⟩ := h1
    exact kinds_read (n := 6) (t := 39) (small H) ho _ (by kernel_rfl) f _ _ hf (by show Rows.uptoBulk d1 ≤ _; omega)
  have R2 : RC (fun _ => False) own0 W [.r .order] [.slice a2 l2 c2] := by
    obtain ⟨f, hf⟩ := h2
    exact kinds_read (n := 6) (t := 32) (small H) ho _ (by kernel_rfl) f _ _ hf (by show Rows.uptoBulk d2 ≤ _; omega)
  have U3 : ∀ l : List Tag.u8.T, Rel (fun _ => False) own0 W (.rs .u8 l) (.slice a3 l3 c3) → ∀ y ∈ l, (0 : Int) ≤ y ∧ y ≤ 255 := by
    obtain ⟨f, hf⟩ := h3
    exact u8_range Try.underlying58 Try.underlying5 (by kernel_rfl) hf
  have R3 : RC (fun _ => False) own0 W [.r .u8] [.slice a3 l3 c3] := by
    obtain ⟨f, hf⟩ := h3
    exact kinds_read (n := 6) (t := 58) (small H) ho _ (by kernel_rfl) f _ _ hf (by show Rows.uptoBulk d3 ≤ _; omega)
  refine (call_true R0 R1 R2 R3 U3).mono fun e W' ⟨he, hg⟩ => ?_
  subst he
  exact ⟨_, rfl, law_post laid (by kernel_rfl) hW' (by kernel_rfl) Try.underlying4 rfl rfl rfl rfl hg⟩
def zeroV : Kd → Value
  | .n k => .int k 0
  | .b => .bool false
  | .s => .string (ByteArray.mk #[])
  | .r _ => .slice none 0 0
  | .m _ _ => .map none
def wit : Array Value := #[.agg ((kindsOf .district).map zeroV).toArray, .slice none 0 0, .slice none 0 0, .slice none 0 0]
set_option maxRecDepth 100000 in
theorem lifted (os : Os) (started : os.Started) (H : Type) (enc : TypeId × Value → H) (F : Stop.Interp) :
    ReturnsInHanded {} Try.checked os 6 .any ((Rows.OpenSpec.upto Rows.certifySurelySpec).pre6 enc Try.prog Try.f6 Rows.certifySurelyUptoRow.domain false) (((Rows.OpenSpec.upto Rows.certifySurelySpec).at F).post enc Try.prog Try.f6 false true false false) := by
  refine returnsInHanded_of_cond (C := Try.checked) (s := Rows.OpenSpec.upto Rows.certifySurelySpec) (k := Rows.uptoSmall) rfl own started (by kernel_rfl) Try.func6
    (OpenSpec.witness (enc := enc) (C := Try.checked) (s := Rows.OpenSpec.upto Rows.certifySurelySpec) (k := Rows.uptoSmall) rfl false ⟨#[], wit, []⟩ 8 (by kernel_rfl) (by kernel_rfl) (by kernel_rfl)
      (x := (DataW.whole enc Try.prog (World.plainHolding Try.prog os ⟨#[], wit, []⟩).memory Try.f6.params.toList Rows.certifySurelySpec.vars false wit.toList 8).getD ([], [], [])) (by kernel_rfl) rfl (by kernel_rfl)) ?_
  intro W base args ds gs before hval hW _ hk _
  exact contract H enc W base args ds gs before hval hW hk
theorem over : Rows.certifySurelyUptoRow.holds Try.pinned (Rows.OpenSpec.upto Rows.certifySurelySpec) :=
  OpenClaim.holds_of_cond 6 Try.f6 rfl rfl rfl rfl rfl rfl rfl ⟨rfl, rfl, rfl, rfl, rfl⟩ rfl rfl rfl rfl rfl (by kernel_rfl) Try.func6 (by kernel_rfl)
    (of_decide_eq_true (by kernel_rfl)) (by unfold Func.isWrapper; first | (rw [if_pos (by decide +kernel)]; kernel_rfl) | (rw [if_neg (by decide +kernel)]; exact ⟨rfl, rfl⟩))
    (fun os started H enc _ F => lifted os started H enc F)
theorem proved : Rows.CertifySurelyUptoSaid := over
end Go.Proofs.Ytnhhdmkikgdfkaa.certifySurely
end
