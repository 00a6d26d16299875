/- Part of the proof that the law RoutingSpec returns true and leaves its arguments as they were, for all arguments of bulk at most 1048576 (the Upto form). -/
import Derived.Test.YtkblpdepdncnmaaGreatB211
import Derived.Test.YtkblpdepdncnmaaGreatB206
import Derived.Deep.Slices
import Derived.OpenShut
import Derived.Test.YtkblpdepdncnmaaGreatB207
import Derived.ChangeSame
import Derived.WideKeyArgs
import Derived.Below
import Derived.Test.YtkblpdepdncnmaaGreatRows
import Derived.WalkKit
import Derived.ProofKit
import Derived.JoinedCond
import Derived.Carry
set_option linter.all false
section
namespace Go.Sx
open Go.Proofs
section
variable {i : Int} {x : Reach}
theorem right21 (h : expand_reach i x = true) : ref21_Right x = true := by
  have h1 := losses_worst h (Int.le_refl 0) (by omega)
  rw [worst_eq] at h1
  unfold ref21_Worst ref21_Lost at h1
  cases q : ref21_Right x with
  | true => rfl
  | false => rw [q] at h1; simp at h1
theorem arrives21 (h : expand_reach i x = true) {u : Int} (u0 : 0 ≤ u) (u1 : u ≤ 1073741824) : ref21_arrives x u false = wst x u := by
  have h1 := losses_worst h u0 u1
  rw [worst_eq] at h1
  unfold ref21_Worst ref21_Lost at h1
  have e : (decide (u < 0) || decide (u > 1073741824)) = false := by rw [Bool.or_eq_false_iff, decide_eq_false_iff_not, decide_eq_false_iff_not]; omega
  rw [right21 h, e] at h1
  simp only [Bool.not_true, cond_false, bne_self_eq_false, Prod.mk.injEq, and_true] at h1
  unfold ref21_arrives
  simp only [cond_false]
  exact h1
def swp : Int ⊕ (Int × Int) → Int ⊕ (Int × Int)
  | .inl y => .inl y
  | .inr s => .inr (s.2, s.1)
theorem runI_conj {ρ σ τ : Type} {f : Nat → σ → ρ ⊕ σ} {g : Nat → τ → ρ ⊕ τ} (c : σ → τ) (h : ∀ k s, g k (c s) = match f k s with | .inl y => .inl y | .inr s' => .inr (c s')) : ∀ (n i : Nat) (s : σ), runI g n i (c s) = match runI f n i s with | .inl y => .inl y | .inr s' => .inr (c s')
  | 0, _, _ => rfl
  | n + 1, i, s => by
    simp only [runI, h]
    cases f i s with
    | inl y => rfl
    | inr s' => exact runI_conj c h n (i + 1) s'
theorem mid {i j : Int} (h0 : 0 ≤ i) (h1 : i ≤ j) (h2 : j ≤ 1073741824) : IntKind.i64.wrap (Int.tdiv (IntKind.i64.wrap (i + j)) 2) = (i + j) / 2 := by
  have e0 : IntKind.i64.wrap (i + j) = i + j := wrapI (by omega) (by omega)
  rw [e0, Int.tdiv_eq_ediv_of_nonneg (by omega), wrapI (by omega) (by omega)]
theorem least21_run (w : Int) : ∃ v, runI (ref21_Least_l0 x w false) 64 0 (1073741824, 0) = .inl v ∧ 0 ≤ v ∧ v ≤ 1073741824 ∧
    ((∀ a b, 0 ≤ a → a ≤ b → b < 1073741824 → decide (ref21_arrives x a false ≥ w) = true → decide (ref21_arrives x b false ≥ w) = true) → (∀ u, 0 ≤ u → u < v → decide (ref21_arrives x u false ≥ w) = false) ∧ (v < 1073741824 → decide (ref21_arrives x v false ≥ w) = true)) := by
  let st : Nat → Int × Int → Int ⊕ (Int × Int) := fun k s => swp (ref21_Least_l0 x w false k (s.2, s.1))
  obtain ⟨v, e1, e2, e3, e4⟩ := search_run (f := fun u => decide (ref21_arrives x u false ≥ w)) (N := 1073741824) (step := st) (by omega) (fun k i j h0 h1 h2 => by
    show swp (ref21_Least_l0 x w false k (j, i)) = _
    unfold ref21_Least_l0
    simp only
    rw [decide_eq_true h1, mid h0 (by omega) (by omega)]
    have hm : IntKind.i64.wrap ((i + j) / 2 + 1) = (i + j) / 2 + 1 := wrapI (by omega) (by omega)
    rw [hm]
    cases decide (ref21_arrives x ((i + j) / 2) false ≥ w) <;> rfl) (fun k i j h => by
    show swp (ref21_Least_l0 x w false k (j, i)) = _
    unfold ref21_Least_l0
    simp only
    rw [decide_eq_false h]; rfl) 63 0 0 1073741824 (by omega) (by omega) (by omega) (by decide)
  refine ⟨v, ?_, e2, e3, e4⟩
  have := runI_conj (f := st) (g := ref21_Least_l0 x w false) (fun s => (s.2, s.1)) (fun k s => by
    have hh : st k s = swp (ref21_Least_l0 x w false k (s.2, s.1)) := rfl
    rw [hh]
    cases ref21_Least_l0 x w false k (s.2, s.1) <;> rfl) 64 0 (0, 1073741824)
  rw [e1] at this
  exact this
theorem lost21_p (h : expand_reach i x = true) (u : Int) : ref21_lost_p x u := fun q => (worst_p x 1).2 (by rw [right21 h]; rfl) (by decide) (by decide)
theorem least21_p (h : expand_reach i x = true) (w : Int) : ref21_Least_p x w false := ⟨lost21_p h _, fun _ => ⟨okI_all _ _ _ fun _ _ _ _ _ => lost21_p h _, fun z hz => by
  obtain ⟨v, e, _⟩ := least21_run (x := x) w
  rw [e] at hz; cases hz⟩⟩
theorem right21_p (r : Reach) : ref21_Right_p r := (worst_p r 0).1
theorem need21_p (h : expand_reach i x = true) (w : Int) : ref21_Need_p x w := ⟨right21_p _, fun _ _ => least21_p h w⟩
theorem need21_eq (h : expand_reach i x = true) {w : Int} (hw : 1 ≤ w) (hw2 : w ≤ 1073741824) : (∃ v, ref21_Need x w = (v, true, 0) ∧ losses_Need x w = (v, true, 0)) ∨ (ref21_Need x w = (0, false, 0) ∧ losses_Need x w = (0, false, 0)) := by
  obtain ⟨l1, l2, l3, l4⟩ := least_ok h hw hw2
  have hval : losses_valid x w = 0 := (lost_ok h (v := w) (by omega) hw2).1
  have hfind : ref21_Need x w = bif decide (ref21_Least x w false < 0) then (0, false, 0) else (ref21_Least x w false, true, 0) := by
    unfold ref21_Need ref21_find
    have e : (decide (w < 0) || decide (w > 1073741824)) = false := by rw [Bool.or_eq_false_iff, decide_eq_false_iff_not, decide_eq_false_iff_not]; omega
    rw [right21 h, e]
    simp only [Bool.not_true, cond_false]
  have hneed : losses_Need x w = bif decide (losses_least (w - 1) x > 1073741824) then (0, false, 0) else (losses_least (w - 1) x, true, 0) := by
    unfold losses_Need
    rw [hval, wrapI (by omega) (by omega)]
    rfl
  by_cases hm : wst x 1073741824 < w
  · right
    have hL : ref21_Least x w false = -1 := by
      unfold ref21_Least
      rw [arrives21 h (by omega) (Int.le_refl _), decide_eq_true hm]; rfl
    have hl : losses_least (w - 1) x > 1073741824 := by
      by_cases q : losses_least (w - 1) x ≤ 1073741824
      · have h1 := l4 q
        have h2 := wst_mono h l1 q (Int.le_refl _)
        omega
      · omega
    rw [hfind, hL, hneed, decide_eq_true hl]
    exact ⟨rfl, rfl⟩
  · left
    obtain ⟨v, e1, e2, e3, e4⟩ := least21_run (x := x) w
    have hL : ref21_Least x w false = v := by
      unfold ref21_Least
      rw [arrives21 h (by omega) (Int.le_refl _), decide_eq_false hm, e1]; rfl
    obtain ⟨f1, f2⟩ := e4 fun a b a0 hab hb ha => by
      rw [decide_eq_true_eq] at ha ⊢
      rw [arrives21 h a0 (by omega)] at ha
      rw [arrives21 h (by omega) (by omega)]
      have := wst_mono h a0 hab (by omega)
      omega
    have g1 : w ≤ wst x v := by
      by_cases q : v < 1073741824
      · have := f2 q
        rw [decide_eq_true_eq, arrives21 h e2 (by omega)] at this
        exact this
      · have : v = 1073741824 := by omega
        rw [this]; omega
    have g2 : ∀ u, 0 ≤ u → u < v → wst x u < w := fun u u0 u1 => by
      have := f1 u u0 u1
      rw [decide_eq_false_iff_not, arrives21 h u0 (by omega)] at this
      omega
    have hle : losses_least (w - 1) x = v := by
      rcases Int.lt_trichotomy (losses_least (w - 1) x) v with q | q | q
      · have := g2 _ l1 q
        have := l4 (by omega)
        omega
      · exact q
      · have := l3 v e2 q
        omega
    refine ⟨v, ?_, ?_⟩
    · rw [hfind, hL, decide_eq_false (by omega)]; rfl
    · rw [hneed, hle, decide_eq_false (by omega)]; rfl
theorem intake22 (h : expand_reach i x = true) {w : Int} (hw : 0 ≤ w) : ref22_Intake x w = routing_intake x w := by
  unfold ref22_Intake routing_intake
  by_cases h0 : w = 0
  · subst h0; rfl
  · have e0 : (w == 0) = false := by rw [beq_eq_false_iff_ne]; exact h0
    rw [e0]
    simp only [cond_false, Bool.false_or]
    by_cases h1 : w > 1073741824
    · rw [decide_eq_true h1]; rfl
    · rw [decide_eq_false h1]
      simp only [cond_false]
      rcases need21_eq h (w := w) (by omega) (by omega) with ⟨v, e1, e2⟩ | ⟨e1, e2⟩
      · rw [e1, e2]
      · rw [e1, e2]
end
section
variable {d : District}
theorem ask_same (d : District) (reach n : Int) : (routing_path d reach n).2 = ref22_ask d reach n := by
  unfold ref22_ask
  rw [← check_eq]
  rcases path_cases d reach n with ⟨h, h1, h2, e⟩ | ⟨h, h1, e⟩ | ⟨h, h1, e⟩
  · rw [e, h.chk]
    have := h.r0; have := h.r1
    have e : (decide (reach < 0) || decide (reach ≥ (d.reaches.length : Int)) || decide (n < 0) || decide (n > 1073741824)) = false := by simp only [Bool.or_eq_false_iff, decide_eq_false_iff_not]; omega
    rw [e]; rfl
  · rw [e, h.chk]
    have := h.r0; have := h.r1
    have e : (decide (reach < 0) || decide (reach ≥ (d.reaches.length : Int)) || decide (n < 0) || decide (n > 1073741824)) = true := by simp only [Bool.or_eq_true, decide_eq_true_eq]; omega
    rw [e]; rfl
  · rw [e]
    simp only
    unfold canals_check at h1 ⊢
    cases q : (expand_Check d != 0) with
    | true => rfl
    | false =>
      rw [q] at h1
      simp only [cond_false] at h1 ⊢
      have hc : expand_Check d = 0 := by simpa using q
      have hn : ¬ (0 ≤ reach ∧ reach < (d.reaches.length : Int)) := fun r => h ⟨hc, r.1, r.2⟩
      have e : (decide (reach < 0) || decide (reach ≥ (d.reaches.length : Int)) || decide (n < 0) || decide (n > 1073741824)) = true := by simp only [Bool.or_eq_true, decide_eq_true_eq]; omega
      rw [e]
      simp only [cond_true]
      cases q2 : runI (canals_check_l0 d [reach]) [reach].length 0 () with
      | inl y => rfl
      | inr y => rw [q2] at h1; exact absurd rfl h1
theorem upI_lt (hr : Right1 d) {n : Int} (h0 : 0 ≤ n) (h1 : n < (d.reaches.length : Int)) : (rch d n).up < n := by
  have := up_lt hr (r := n.toNat) (by omega)
  rwa [show ((n.toNat : Nat) : Int) = n from Int.toNat_of_nonneg h0] at this
theorem upI_nn {i : Int} {x : Reach} (h : expand_reach i x = true) (hi : 0 < i) : 0 ≤ x.up := by
  unfold expand_reach at h
  rw [decide_eq_true hi] at h
  simp only [cond_true, Bool.and_eq_true, expand_index, decide_eq_true_eq] at h
  omega
theorem upL_cons {f : Nat} {n : Int} (h : 0 ≤ n) : upL d (f + 1) n = n :: upL d f (rch d n).up := by
  rw [upL, if_pos h]; rfl
theorem upL_fuel (hr : Right1 d) : ∀ (f g : Nat) (n : Int), n < (d.reaches.length : Int) → n < f → n < g → upL d f n = upL d g n
  | 0, g, n, _, h2, _ => by rw [upL_end (by omega), upL_end (by omega)]
  | f + 1, 0, n, _, _, h3 => by rw [upL_end (by omega), upL_end (by omega)]
  | f + 1, g + 1, n, h1, h2, h3 => by
    by_cases h0 : 0 ≤ n
    · have hup := upI_lt hr h0 h1
      rw [upL_cons h0, upL_cons h0, upL_fuel hr f g _ (by omega) (by omega) (by omega)]
    · rw [upL_end h0, upL_end h0]
theorem path_run (hr : Right1 d) : ∀ (f i : Nat) (n : Int) (acc : List Int), 0 ≤ n → n < (d.reaches.length : Int) → n < f →
    runI (ref22_Path_l0 d) f i (n :: acc) = .inl ((upL d (n.toNat + 1) n).reverse ++ acc)
  | 0, _, n, _, h0, _, h2 => by omega
  | f + 1, i, n, acc, h0, h1, h2 => by
    have hup := upI_lt hr h0 h1
    have e0 : runI (ref22_Path_l0 d) (f + 1) i (n :: acc) = match ref22_Path_l0 d i (n :: acc) with | .inl y => .inl y | .inr s => runI (ref22_Path_l0 d) f (i + 1) s := by
      simp only [runI]
      cases ref22_Path_l0 d i (n :: acc) <;> rfl
    rw [e0]
    have hg : (n :: acc).getD 0 0 = n := rfl
    have hst : ref22_Path_l0 d i (n :: acc) = bif decide (n > 0) then .inr ((rch d n).up :: n :: acc) else .inl (n :: acc) := rfl
    rw [hst, upL_cons h0]
    by_cases q : n > 0
    · rw [decide_eq_true q]
      have hx : expand_reach (n.toNat : Int) (rch d n) = true := hr.reach n.toNat (by omega)
      have hu := upI_nn hx (by omega)
      have ih := path_run hr f (i + 1) (rch d n).up (n :: acc) hu (by omega) (by omega)
      simp only [cond_true]
      rw [ih, upL_fuel hr n.toNat ((rch d n).up.toNat + 1) (rch d n).up (by omega) (by omega) (by omega)]
      simp
    · have : n = 0 := by omega
      subst this
      have : upL d (Int.toNat 0) (rch d 0).up = [] := rfl
      rw [this]
      rfl
theorem path22 {reach : Int} (h : PathOk d reach) : ref22_Path d reach = (canals_up d reach).reverse := by
  have := h.right.reaches
  have := h.r1
  unfold ref22_Path
  rw [path_run h.right 65 0 reach [] h.r0 h.r1 (by omega), List.append_nil]
  rfl
theorem path22_ok (hr : Right1 d) : ∀ (f i : Nat) (n : Int) (acc : List Int), 0 ≤ n → n < (d.reaches.length : Int) → acc.length + n.toNat ≤ 64 → okI (ref22_Path_l0 d) (ref22_Path_l0_p d) f i (n :: acc)
  | 0, _, _, _, _, _, _ => trivial
  | f + 1, i, n, acc, h0, h1, h2 => by
    have hup := upI_lt hr h0 h1
    have hg : (n :: acc).getD 0 0 = n := rfl
    refine ⟨?_, fun s hs => ?_⟩
    · unfold ref22_Path_l0_p
      rw [hg]
      simp only [List.length_cons, List.length_append, List.length_nil]
      refine ⟨by omega, fun _ => ⟨by omega, ⟨h0, h1⟩, ?_⟩⟩
      unfold maxB; omega
    · unfold ref22_Path_l0 at hs
      rw [hg] at hs
      by_cases q : n > 0
      · rw [decide_eq_true q] at hs
        have hx : expand_reach (n.toNat : Int) (rch d n) = true := hr.reach n.toNat (by omega)
        have hu := upI_nn hx (by omega)
        cases hs
        exact path22_ok hr f (i + 1) (rch d n).up (n :: acc) hu (by omega) (by simp only [List.length_cons]; omega)
      · rw [decide_eq_false q] at hs; cases hs
theorem path22_p {reach : Int} (h : PathOk d reach) : ref22_Path_p d reach := by
  have := h.right.reaches
  have := h.r1
  have := h.r0
  refine ⟨path22_ok h.right _ _ _ _ h.r0 h.r1 (by simp only [List.length_nil]; omega), fun z hz => ?_⟩
  rw [path_run h.right 65 0 reach [] h.r0 h.r1 (by omega)] at hz
  cases hz
theorem runL_same {ρ σ τ : Type} {f g : τ → σ → ρ ⊕ σ} : ∀ {L : List τ} {s : σ}, (∀ x ∈ L, ∀ s, f x s = g x s) → runL f L s = runL g L s
  | [], _, _ => rfl
  | x :: L, s, h => by
    have e := h x List.mem_cons_self s
    have ih : ∀ s', runL f L s' = runL g L s' := fun s' => runL_same fun y hy => h y (List.mem_cons_of_mem _ hy)
    simp only [runL, e]
    cases g x s with
    | inl y => rfl
    | inr s' => exact ih s'
theorem pathOk_of {reach n : Int} (h : (ref22_ask d reach n != 0) = false) : PathOk d reach ∧ 0 ≤ n ∧ n ≤ 1073741824 := by
  rw [← ask_same] at h
  rcases path_cases d reach n with ⟨h1, h2, h3, e⟩ | ⟨h1, h2, e⟩ | ⟨h1, h2, e⟩
  · exact ⟨h1, h2, h3⟩
  · rw [e] at h; simp at h
  · rw [e] at h; simp at h; exact absurd h h2
theorem worst_same (d : District) (reach v : Int) : routing_Worst d reach v = ref22_Worst d reach v := by
  unfold ref22_Worst
  cases q : (ref22_ask d reach v != 0) with
  | true =>
    have q2 := q
    rw [← ask_same] at q2
    unfold routing_Worst
    rw [q2, ask_same]; rfl
  | false =>
    obtain ⟨h, h1, h2⟩ := pathOk_of q
    rw [pathW_eq h h1 h2, path22 h]
    simp only [cond_false]
    have e2 : runI (ref22_Worst_l0 d reach) (canals_up d reach).reverse.length 0 v = runL (ρ := Empty) (fun z s => .inr (ref21_Worst (rch d z) (ref22_Enter (rch d z) s)).1) (canals_up d reach).reverse v := by
      have := runI_eq_runL (ρ := Empty) (fun z s => .inr (ref21_Worst (rch d z) (ref22_Enter (rch d z) s)).1) (0 : Int) (canals_up d reach).reverse v
      rw [← this]
      congr 1
      funext k s
      unfold ref22_Worst_l0
      rw [path22 h]
    have e3 : runL (ρ := Empty) (fun z s => .inr (ref21_Worst (rch d z) (ref22_Enter (rch d z) s)).1) (canals_up d reach).reverse v = runL (fun z s => bif decide (s ≥ (rch d z).siphon) then .inr (losses_Worst (rch d z) s).1 else .inr 0) (canals_up d reach).reverse v := runL_same fun z hz s => by
      have hz2 := h.up.2.2 z (List.mem_reverse.1 hz)
      have hx : expand_reach (z.toNat : Int) (rch d z) = true := h.right.reach z.toNat (by omega)
      rw [← worst_eq]
      unfold ref22_Enter
      by_cases q : s < (rch d z).siphon
      · rw [decide_eq_true q, decide_eq_false (by omega)]
        simp only [cond_true, cond_false]
        rw [losses_worst hx (Int.le_refl 0) (by omega), wst_zero hx]
      · rw [decide_eq_false q, decide_eq_true (by omega)]
        simp only [cond_true, cond_false]
    rw [e2, e3, worst_run h.right h.up.2.2 h1 h2 fun _ _ => rfl]
theorem need22_run (hr : Right1 d) {reach : Int} {p : List Int} (hp : ref22_Path d reach = p) (hp1 : p.length ≤ 64) : ∀ (u rest : List Int) (f k : Nat) (w : Int), p = u.reverse ++ rest → (∀ x ∈ u, 0 ≤ x ∧ x < (d.reaches.length : Int)) → u.length < f → 0 ≤ w →
    runI (ref22_Need_l0 d reach) f k (w, (u.length : Int) - 1) = match needU d u w with | (n, true) => .inl (.inr n) | (_, false) => .inl (.inl ())
  | _, _, 0, _, _, _, _, hf, _ => by omega
  | [], rest, f + 1, k, w, _, _, _, _ => by
    have e0 : ∀ s, runI (ref22_Need_l0 d reach) (f + 1) k s = match ref22_Need_l0 d reach k s with | .inl y => .inl y | .inr s => runI (ref22_Need_l0 d reach) f (k + 1) s := fun s => by
      simp only [runI]
      cases ref22_Need_l0 d reach k s <;> rfl
    rw [e0]
    rfl
  | r :: u, rest, f + 1, k, w, h, hu, hf, hw => by
    have e0 : ∀ s, runI (ref22_Need_l0 d reach) (f + 1) k s = match ref22_Need_l0 d reach k s with | .inl y => .inl y | .inr s => runI (ref22_Need_l0 d reach) f (k + 1) s := fun s => by
      simp only [runI]
      cases ref22_Need_l0 d reach k s <;> rfl
    have hx := hu r List.mem_cons_self
    have hxr : expand_reach (r.toNat : Int) (rch d r) = true := hr.reach r.toNat (by omega)
    have hul : u.length + 1 ≤ 64 := by
      have : p.length = (r :: u).length + rest.length := by rw [h, List.length_append, List.length_reverse]
      rw [List.length_cons] at this; omega
    have hlen : (((r :: u).length : Nat) : Int) - 1 = (u.length : Int) := by rw [List.length_cons]; omega
    have hget : p.getD u.length 0 = r := by
      rw [h, List.reverse_cons, List.append_assoc, List.getD_eq_getElem?_getD, List.getElem?_append_right (by simp)]
      simp
    have hf' : u.length < f := by rw [List.length_cons] at hf; omega
    have e2 : ref22_Intake (rch d r) w = routing_intake (rch d r) w := intake22 hxr hw
    have hst : ref22_Need_l0 d reach k (w, (u.length : Int)) = bif (!(routing_intake (rch d r) w).2) then .inl (.inl ()) else .inr ((routing_intake (rch d r) w).1, IntKind.i64.wrap ((u.length : Int) - 1)) := by
      unfold ref22_Need_l0
      rw [hp]
      have e1 : decide ((u.length : Int) ≥ 0) = true := decide_eq_true (by omega)
      simp only [e1, cond_true, Int.toNat_natCast, hget]
      have e3 : ref22_Intake (d.reaches.getD (Int.toNat r) default) w = routing_intake (rch d r) w := e2
      rw [e3]
    rw [e0, hlen, hst]
    simp only [needU]
    by_cases q : (routing_intake (rch d r) w).2 = true
    · rw [q]
      simp only [Bool.not_true, cond_false, if_true]
      rw [wrapI (by omega) (by omega)]
      have hp0 : 0 ≤ (routing_intake (rch d r) w).1 := by
        rcases Int.lt_or_le 0 w with q1 | q1
        · rcases intake_ok (i := (r.toNat : Int)) (by omega) hxr (w := w) q1 with ⟨n, e, e1, _⟩ | ⟨e, _⟩
          · rw [show routing_intake (rch d r) w = (n, true) from e]; omega
          · have e' : (routing_intake (rch d r) w).2 = false := e
            rw [e'] at q; cases q
        · have : w = 0 := by omega
          subst this
          unfold routing_intake; exact Int.le_refl 0
      exact need22_run hr hp hp1 u (r :: rest) f (k + 1) _ (by rw [h]; simp) (fun x hx => hu x (List.mem_cons_of_mem _ hx)) hf' hp0
    · have q' : (routing_intake (rch d r) w).2 = false := by simpa using q
      rw [q']
      rfl
theorem needU_no' : ∀ {u : List Int} {w : Int}, (needU d u w).2 = false → (needU d u w).1 = 0
  | [], w, h => by simp [needU] at h
  | r :: u, w, h => by
    simp only [needU] at h ⊢
    split at h
    · rename_i q; rw [if_pos q]; exact needU_no' h
    · rename_i q; rw [if_neg q]
theorem pathN_eq' {end_ w : Int} (h : PathOk d end_) (w0 : 0 ≤ w) (w1 : w ≤ 1073741824) : routing_Need d end_ w = ((needU d (canals_up d end_) w).1, (needU d (canals_up d end_) w).2, 0) := by
  rcases path_cases d end_ w with ⟨_, _, _, e⟩ | ⟨_, h2, _⟩ | ⟨h2, _⟩
  · unfold routing_Need slices_Backward
    rw [e]
    simp only [bne_self_eq_false, cond_false]
    have e2 : runL (routing_Need_l0 d end_ w) (backL (canals_up d end_).reverse (canals_up d end_).reverse.length) (w, false) = runL (fun z (s : Int × Bool) => bif (!(routing_intake (rch d z) s.1).2) then .inl (routing_intake (rch d z) s.1).1 else .inr ((routing_intake (rch d z) s.1).1, (routing_intake (rch d z) s.1).2)) (canals_up d end_) (w, false) := by
      have := runL_map (ρ := Int) Prod.snd (fun z (s : Int × Bool) => bif (!(routing_intake (rch d z) s.1).2) then .inl (routing_intake (rch d z) s.1).1 else .inr ((routing_intake (rch d z) s.1).1, (routing_intake (rch d z) s.1).2)) (backL (canals_up d end_).reverse (canals_up d end_).reverse.length) (w, false)
      rw [backL_snd _ _ (Nat.le_refl _), List.take_length, List.reverse_reverse] at this
      rw [← this]
      rfl
    rw [e2]
    obtain ⟨h1, h2⟩ := need_run (d := d) h.right h.up.2.2 (w := w) (b := false) (step := fun z (s : Int × Bool) => bif (!(routing_intake (rch d z) s.1).2) then .inl (routing_intake (rch d z) s.1).1 else .inr ((routing_intake (rch d z) s.1).1, (routing_intake (rch d z) s.1).2)) fun _ _ => rfl
    cases hq : (needU d (canals_up d end_) w).2 with
    | true =>
      obtain ⟨b', e3⟩ := h1 hq
      rw [e3]
    | false =>
      obtain ⟨y, e3⟩ := h2 hq
      rw [e3, needU_no' hq]
  · exact absurd ⟨w0, w1⟩ h2
  · exact absurd h h2
theorem need_same (d : District) (reach w : Int) : routing_Need d reach w = ref22_Need d reach w := by
  unfold ref22_Need
  cases q : (ref22_ask d reach w != 0) with
  | true =>
    have q2 := q
    rw [← ask_same] at q2
    unfold routing_Need
    rw [q2, ask_same]; rfl
  | false =>
    obtain ⟨h, h1, h2⟩ := pathOk_of q
    have hu := h.up
    rw [pathN_eq' h h1 h2, path22 h]
    simp only [cond_false, List.length_reverse]
    have hl := hu.2.1
    rw [wrapI (by omega) (by omega), need22_run h.right (path22 h) (by simpa using hl) (canals_up d reach) [] 66 0 w (by simp) hu.2.2 (by omega) h1]
    cases hq : needU d (canals_up d reach) w with
    | mk n b =>
      cases b with
      | true => rfl
      | false =>
        have := needU_no' (d := d) (u := canals_up d reach) (w := w) (by rw [hq])
        rw [hq] at this
        simp only at this
        rw [this]
theorem ask_p (d : District) (reach n : Int) : ref22_ask_p d reach n := check19_p d
theorem worst22_p (d : District) (reach v : Int) : ref22_Worst_p d reach v := ⟨ask_p _ _ _, fun q => by
  obtain ⟨h, h1, h2⟩ := pathOk_of q
  refine ⟨path22_p h, okI_all _ _ _ fun j s _ hj _ => ⟨?_, worst_p _ _⟩⟩
  rw [path22 h] at hj ⊢
  exact h.up.2.2 _ (List.mem_reverse.1 (getD_mem' _ 0 (by omega)))⟩
theorem need22_p (d : District) (reach w : Int) : ref22_Need_p d reach w := ⟨ask_p _ _ _, fun q => by
  obtain ⟨h, h1, h2⟩ := pathOk_of q
  have hu := h.up
  have hl := hu.2.1
  have hrng : ∀ j : Nat, j < (ref22_Path d reach).length → 0 ≤ (ref22_Path d reach).getD j 0 ∧ (ref22_Path d reach).getD j 0 < (d.reaches.length : Int) := fun j hj => by
    rw [path22 h] at hj ⊢
    exact hu.2.2 _ (List.mem_reverse.1 (getD_mem' _ 0 hj))
  have hlen : (ref22_Path d reach).length = (canals_up d reach).length := by rw [path22 h, List.length_reverse]
  refine ⟨path22_p h, fun _ => ⟨okI_inv (fun _ s => s.2 < ((ref22_Path d reach).length : Int)) _ _ _ (by rw [hlen, wrapI (by omega) (by omega)]; show ((canals_up d reach).length : Int) - 1 < _; omega) (fun j s _ _ hs => ⟨fun hq => ?_, fun s' hs' => ?_⟩), fun z hz => ?_⟩⟩
  · simp only [decide_eq_true_eq] at hq
    have := hrng s.2.toNat (by omega)
    refine ⟨by omega, this, fun _ _ => need21_p (i := (((ref22_Path d reach).getD s.2.toNat 0).toNat : Int)) (h.right.reach _ (by omega)) _⟩
  · unfold ref22_Need_l0 at hs'
    by_cases q1 : s.2 ≥ 0
    · rw [decide_eq_true q1] at hs'
      simp only [cond_true] at hs'
      rw [Bool.cond_eq_ite] at hs'
      split at hs'
      · cases hs'
      · cases hs'
        show IntKind.i64.wrap (s.2 - 1) < _
        rw [wrapI (by omega) (by omega)]; omega
    · rw [decide_eq_false q1] at hs'; cases hs'
  · rw [hlen, wrapI (by omega) (by omega), need22_run h.right (path22 h) (by simpa using hl) (canals_up d reach) [] 66 0 w (by simp) hu.2.2 (by omega) h1] at hz
    cases hq : needU d (canals_up d reach) w with
    | mk n b => rw [hq] at hz; cases b <;> cases hz⟩
theorem rspec_t (d : District) (r v w : Int) (_ : (-9223372036854775808) ≤ r ∧ r ≤ 9223372036854775807) (_ : (-9223372036854775808) ≤ v ∧ v ≤ 9223372036854775807) (_ : (-9223372036854775808) ≤ w ∧ w ≤ 9223372036854775807) : law22_RoutingSpec d r v w = true := by
  unfold law22_RoutingSpec
  rw [sane_t, worst_same, need_same]
  cases ref22_Few d [] with
  | false => rfl
  | true => simp
theorem rspec_p (d : District) (r v w : Int) (_ : (-9223372036854775808) ≤ r ∧ r ≤ 9223372036854775807) (_ : (-9223372036854775808) ≤ v ∧ v ≤ 9223372036854775807) (_ : (-9223372036854775808) ≤ w ∧ w ≤ 9223372036854775807) : law22_RoutingSpec_p d r v w :=
  ⟨sane_p, fun _ _ => ⟨worstR_p _ _ _, worst22_p _ _ _, needR_p _ _ _, need22_p _ _ _⟩⟩
end
end Go.Sx
end
section
namespace Go.Sx
open Go.RowKit Go.Deep
section
variable {F : Nat → Prop} {own : Own} {w : World}
def RC (F : Nat → Prop) (own : Own) (w : World) (ks : List Kd) (cs : List Value) : Prop :=
  ∃ l : List SV, fits ks l = true ∧ l.length = cs.length ∧ ∀ (j : Nat) (s : SV) (v : Value), l[j]? = some s → cs[j]? = some v → Rel F own w s v
theorem fits_app : ∀ {a b : List Kd} {l m : List SV}, fits a l = true → fits b m = true → fits (a ++ b) (l ++ m) = true
  | [], b, l, m, h1, h2 => by rw [fits_nil h1]; exact h2
  | k :: a, b, l, m, h1, h2 => by
    obtain ⟨x, r, rfl, e1, e2⟩ := fits_cons h1
    simp only [List.cons_append, fits, e1, fits_app e2 h2, Bool.and_self]
theorem RC.nil : RC F own w [] [] := ⟨[], rfl, rfl, fun j s v h => by cases h⟩
theorem RC.app {a b : List Kd} {c d : List Value} (h1 : RC F own w a c) (h2 : RC F own w b d) : RC F own w (a ++ b) (c ++ d) := by
  obtain ⟨l, f1, n1, r1⟩ := h1
  obtain ⟨m, f2, n2, r2⟩ := h2
  refine ⟨l ++ m, fits_app f1 f2, by simp [n1, n2], fun j s v hs hv => ?_⟩
  by_cases hj : j < l.length
  · rw [List.getElem?_append_left hj] at hs
    rw [List.getElem?_append_left (by omega)] at hv
    exact r1 j s v hs hv
  · rw [List.getElem?_append_right (by omega)] at hs
    rw [List.getElem?_append_right (by omega), ← n1] at hv
    exact r2 _ s v hs hv
theorem RC.one {k : Kd} {s : SV} {v : Value} (h1 : fit k s = true) (h2 : Rel F own w s v) : RC F own w [k] [v] :=
  ⟨[s], by simp [fits, h1], rfl, fun j s' v' hs hv => by
    cases j with
    | zero => simp only [List.getElem?_cons_zero, Option.some.injEq] at hs hv; subst hs; subst hv; exact h2
    | succ j => simp at hs⟩
end
def eqKd : Kd → Kd → Bool
  | .s, .s => true
  | .b, .b => true
  | .n a, .n b => decide (a = b)
  | .r a, .r b => decide (a = b)
  | .m a c, .m b d => decide (a = b) && decide (c = d)
  | _, _ => false
theorem eqKd_ok : ∀ {a b : Kd}, eqKd a b = true → a = b := by
  intro a b h
  cases a <;> cases b <;> simp_all [eqKd]
def eqKs : List Kd → List Kd → Bool
  | [], [] => true
  | a :: l, b :: m => eqKd a b && eqKs l m
  | _, _ => false
theorem eqKs_ok : ∀ {a b : List Kd}, eqKs a b = true → a = b
  | [], [], _ => rfl
  | a :: l, b :: m, h => by
    simp only [eqKs, Bool.and_eq_true] at h
    rw [eqKd_ok h.1, eqKs_ok h.2]
def kindsF (P : Program) (g : TypeId → Option (List Kd)) : List Field → Nat → Nat → Option (List Kd)
  | [], off, tot => bif Nat.beq off tot then some [] else none
  | f :: r, off, tot => match g f.type with
    | some a => bif Nat.beq f.offset off && Nat.beq a.length (P.cellsOf f.type) then (kindsF P g r (off + a.length) tot).map (a ++ ·) else none
    | none => none
def kindsA (a : List Kd) : Nat → List Kd
  | 0 => []
  | n + 1 => a ++ kindsA a n
def kindsT (P : Program) : Nat → TypeId → Option (List Kd)
  | 0, _ => none
  | n + 1, t => match P.underlying t with
    | some .bool => some [.b]
    | some (.int k) => some [.n k]
    | some .string => some [.s]
    | some (.slice e) => match tagT P e, kindsT P n e with
      | some k, some ks => bif eqKs ks (kindsOf k) && Nat.beq (P.cellsOf e) (sizeOfTag k) && Nat.ble 1 (sizeOfTag k) then some [.r k] else none
      | _, _ => none
    | some (.struct fs) => kindsF P (kindsT P n) fs.toList 0 (P.cellsOf t)
    | some (.array m e) => match kindsT P n e with
      | some a => bif Nat.beq a.length (P.cellsOf e) && Nat.beq (P.cellsOf t) (m * a.length) then some (kindsA a m) else none
      | none => none
    | _ => none
section
variable {H : Type} {enc : TypeId × Value → H} {P : Program} {F : Nat → Prop} {own : Own} {w : World} {base : Nat} {spare : Nat → Bool} {held : Bool} {S : DataW H → Prop}
theorem kF_read {g : TypeId → Option (List Kd)} (hg : ∀ t ks, g t = some ks → ∀ (fuel : Nat) (cs : List Value) (x : DataW H × List MemPlace), DataW.trod enc P w base spare held fuel t cs = some x → S x.1 → RC F own w ks cs)
    (fuel : Nat) (cs : List Value) : ∀ (fs : List Field) (off : Nat) (ks : List Kd), kindsF P g fs off cs.length = some ks → (∀ f ∈ fs, ∃ x, DataW.trod enc P w base spare held fuel f.type ((cs.drop f.offset).take (P.cellsOf f.type)) = some x ∧ S x.1) → RC F own w ks (cs.drop off)
  | [], off, ks, h, _ => by
    unfold kindsF at h
    cases hb : Nat.beq off cs.length with
    | false => rw [hb] at h; cases h
    | true =>
      rw [hb] at h
      have : off = cs.length := Nat.eq_of_beq_eq_true hb
      subst this
      cases h
      rw [List.drop_length]
      exact RC.nil
  | f :: r, off, ks, h, hx => by
    unfold kindsF at h
    cases ha : g f.type with
    | none => rw [ha] at h; cases h
    | some a =>
      rw [ha] at h
      dsimp only at h
      cases hb : Nat.beq f.offset off && Nat.beq a.length (P.cellsOf f.type) with
      | false => rw [hb] at h; cases h
      | true =>
        rw [hb] at h
        simp only [cond_true, Option.map_eq_some_iff] at h
        obtain ⟨ks2, h2, rfl⟩ := h
        rw [Bool.and_eq_true] at hb
        have e1 : f.offset = off := Nat.eq_of_beq_eq_true hb.1
        have e2 : a.length = P.cellsOf f.type := Nat.eq_of_beq_eq_true hb.2
        obtain ⟨x, hx1, hs1⟩ := hx f (by simp)
        have h3 := hg _ _ ha _ _ _ hx1 hs1
        have h4 := kF_read hg fuel cs r (off + a.length) ks2 h2 fun f hf => hx f (by simp [hf])
        have := h3.app h4
        rw [e1, ← e2] at this
        rwa [← List.drop_drop, List.take_append_drop] at this
theorem kA_read {e : TypeId} {a : List Kd} (ha : ∀ (fuel : Nat) (cs : List Value) (x : DataW H × List MemPlace), DataW.trod enc P w base spare held fuel e cs = some x → S x.1 → RC F own w a cs)
    (fuel : Nat) : ∀ (m : Nat) (cs : List Value), cs.length = m * a.length → (∀ i, i < m → ∃ x, DataW.trod enc P w base spare held fuel e ((cs.drop (i * a.length)).take a.length) = some x ∧ S x.1) → RC F own w (kindsA a m) cs
  | 0, cs, h, _ => by
    have : cs = [] := by simpa using h
    subst this
    exact RC.nil
  | m + 1, cs, h, hx => by
    obtain ⟨x, hx1, hs1⟩ := hx 0 (by omega)
    rw [Nat.zero_mul, List.drop_zero] at hx1
    have h3 := ha _ _ _ hx1 hs1
    have h4 := kA_read ha fuel m (cs.drop a.length) (by rw [List.length_drop, h, Nat.succ_mul]; omega) fun i hi => by
      obtain ⟨x, hx2, hs2⟩ := hx (i + 1) (by omega)
      refine ⟨x, ?_, hs2⟩
      rw [List.drop_drop]
      rwa [Nat.succ_mul, Nat.add_comm] at hx2
    have := h3.app h4
    rwa [List.take_append_drop] at this
structure Small (S : DataW H → Prop) : Prop where
  agg : ∀ l, S (.agg l) → ∀ d ∈ l, S d
  slice : ∀ l m, S (.slice l m) → l.length ≤ maxL ∧ ∀ d ∈ l, S d
theorem kinds_read (hS : Small S) (hown : ∀ b, ¬ ownB F own b) : ∀ (n : Nat) (t : TypeId) (ks : List Kd), kindsT P n t = some ks → ∀ (fuel : Nat) (cs : List Value) (x : DataW H × List MemPlace), DataW.trod enc P w base spare held fuel t cs = some x → S x.1 → RC F own w ks cs
  | 0, _, _, h, _, _, _, _, _ => by cases h
  | n + 1, t, ks, h, fuel, cs, x, hx, hs => by
    unfold kindsT at h
    split at h
    · rename_i ht
      cases h
      obtain ⟨b, rfl, rfl⟩ := DataW.trod_bool ht hx
      exact RC.one (s := .v (.bool b)) rfl (.v _)
    · rename_i k ht
      cases h
      obtain ⟨m, rfl, rfl, _⟩ := DataW.trod_int ht hx
      exact RC.one (s := .v (.int k m)) (by simp [fit]) (.v _)
    · rename_i ht
      cases h
      obtain ⟨b, rfl, rfl, _⟩ := DataW.trod_string ht hx
      exact RC.one (s := .v (.string b)) rfl (.v _)
    · rename_i e ht
      split at h
      · rename_i k ks2 hk hks
        cases hb : eqKs ks2 (kindsOf k) && Nat.beq (P.cellsOf e) (sizeOfTag k) && Nat.ble 1 (sizeOfTag k) with
        | false => rw [hb] at h; cases h
        | true =>
          rw [hb] at h
          cases h
          simp only [Bool.and_eq_true] at hb
          have e1 := eqKs_ok hb.1.1
          have e2 : P.cellsOf e = sizeOfTag k := Nat.eq_of_beq_eq_true hb.1.2
          have e3 : 1 ≤ sizeOfTag k := Nat.le_of_ble_eq_true hb.2
          subst e1
          rcases open_slice ht hx with ⟨rfl, rfl⟩ | ⟨a, len, cap, m, f2, D, Pl, rfl, hb1, hl, hm, hmm, rfl, hel⟩
          · exact RC.one (s := .rs k []) (by simp [fit]) .rs0
          · have hlm : len ≤ m := by subst hmm; split <;> omega
            obtain ⟨hs1, hs2⟩ := hS.slice _ _ hs
            simp only [List.length_map, List.length_range] at hs1
            have helt : ∀ i, i < len → ∃ cs', cs'.length = sizeOfTag k ∧ (∀ j v, cs'[j]? = some v → w.cell? ((a.add (i * sizeOfTag k)).add j) = some v) ∧ RC F own w (kindsOf k) cs' := fun i hi => by
              obtain ⟨cs', h1, h2⟩ := hel i (by omega)
              have h3 := kinds_read hS hown n e (kindsOf k) hks f2 cs' _ h2 (hs2 _ (List.mem_map_of_mem (List.mem_range.2 hi)))
              unfold World.cells? at h1
              split at h1
              · refine ⟨cs', by rw [mapM_some_length h1, List.length_range, e2], fun j v hj => ?_, h3⟩
                have hlt : j < P.cellsOf e := by
                  have := (List.getElem?_eq_some_iff.1 hj).1
                  rwa [mapM_some_length h1, List.length_range] at this
                have := mapM_some_get h1 j j (by simp [hlt])
                rw [e2] at this
                rw [this, hj]
              · cases h1
            by_cases h0 : len = 0
            · subst h0
              exact RC.one (s := .rs k []) (by simp [fit]) .rs0
            · have hsp : a.spot = none := by
                obtain ⟨cs', h1, h2, _⟩ := helt 0 (by omega)
                have := h2 0 (cs'[0]'(by omega)) (by rw [List.getElem?_eq_getElem])
                rw [Nat.zero_mul] at this
                simp only [Addr.add, if_true] at this
                unfold World.cell? at this
                split at this
                · cases hsp : a.spot with
                  | none => rfl
                  | some q => rw [hsp] at this; simp at this
                · cases this
              obtain ⟨ab, ao, asp⟩ := a
              dsimp only at hsp
              subst hsp
              haveI : Inhabited k.T := ⟨dflt k⟩
              obtain ⟨X, hX⟩ := choose_lt (p := fun i (x : k.T) => ∀ (j : Nat) (s : SV), (cellsOf k x)[j]? = some s → ∃ v, w.cell? ⟨ab, ao + i * sizeOfTag k + j, none⟩ = some v ∧ Rel F own w s v) (n := len) fun i hi => by
                obtain ⟨cs', h1, h2, l, h3, h4, h5⟩ := helt i hi
                refine ⟨mkE k l, fun j s hj => ?_⟩
                rw [elemO_cells (k := k) (l := l) (x := mkE k l) (by unfold elemO; rw [h3]; rfl)] at hj
                have hlt : j < cs'.length := by
                  have := (List.getElem?_eq_some_iff.1 hj).1
                  omega
                refine ⟨cs'[j], ?_, h5 j s _ hj (List.getElem?_eq_getElem hlt)⟩
                have := h2 j cs'[j] (List.getElem?_eq_getElem hlt)
                have hadd : ∀ p q, ((⟨ab, ao, none⟩ : Addr).add p).add q = ⟨ab, ao + p + q, none⟩ := fun p q => by
                  unfold Addr.add
                  by_cases hp : p = 0 <;> by_cases hq : q = 0 <;> simp [hp, hq]
                rwa [hadd] at this
              have hL : ((List.range len).map X).length = len := by simp
              refine RC.one (s := .rs k ((List.range len).map X)) (by simp [fit]) ?_
              have hget : ∀ (i : Nat) (x : k.T), ((List.range len).map X)[i]? = some x → i < len ∧ x = X i := fun i x hi => by
                obtain ⟨h1, h2⟩ := List.getElem?_eq_some_iff.1 hi
                rw [hL] at h1
                simp only [List.getElem_map, List.getElem_range] at h2
                subst h2
                exact ⟨h1, rfl⟩
              have := Rel.rs (F := F) (own := own) (w := w) (k := k) (l := (List.range len).map X) (b := ab) (o := ao) (cap := cap) (fun i j => (w.cell? ⟨ab, ao + i * sizeOfTag k + j, none⟩).getD undef) (by rw [hL]; exact hl) (by rw [hL]; exact hs1)
                (fun i x hi j s hj => by
                  obtain ⟨h1, rfl⟩ := hget i x hi
                  obtain ⟨v, h2, _⟩ := hX i h1 j s hj
                  exact ⟨hown _, by rw [h2]; rfl⟩)
                (fun i x hi j s hj => by
                  obtain ⟨h1, rfl⟩ := hget i x hi
                  obtain ⟨v, h2, h3⟩ := hX i h1 j s hj
                  rw [h2]; exact h3)
              rwa [hL] at this
      · cases h
    · rename_i fs ht
      obtain ⟨xs, m, rfl, rfl, hl, hlen, hf⟩ := DataW.trod_struct ht hx
      rw [← hl] at h
      have := kF_read (kinds_read hS hown n) m cs fs.toList 0 ks h fun f hfm => by
        obtain ⟨i, hi, rfl⟩ := List.getElem_of_mem hfm
        have hi' : i < fs.size := by simpa using hi
        have h1 := hf i fs[i] (by simp [hi'])
        rw [List.getElem?_eq_getElem (by omega)] at h1
        refine ⟨_, by simpa using h1, hS.agg _ hs _ (List.mem_map_of_mem (List.getElem_mem _))⟩
      simpa using this
    · rename_i m e ht
      split at h
      · rename_i a ha
        cases hb : Nat.beq a.length (P.cellsOf e) && Nat.beq (P.cellsOf t) (m * a.length) with
        | false => rw [hb] at h; cases h
        | true =>
          rw [hb] at h
          cases h
          rw [Bool.and_eq_true] at hb
          have e1 : a.length = P.cellsOf e := Nat.eq_of_beq_eq_true hb.1
          have e2 : P.cellsOf t = m * a.length := Nat.eq_of_beq_eq_true hb.2
          obtain ⟨xs, f2, rfl, rfl, hl, hlen, hf⟩ := DataW.trod_array ht hx
          refine kA_read (kinds_read hS hown n e a ha) f2 m cs (by rw [hl, e2]) fun i hi => ?_
          have h1 := hf i hi
          rw [List.getElem?_eq_getElem (by omega), ← e1] at h1
          exact ⟨_, h1, hS.agg _ hs _ (List.mem_map_of_mem (List.getElem_mem _))⟩
      · cases h
    · cases h
end
end Go.Sx
end
section
namespace Go.Sx
open Go.Proofs
section
variable {F : Nat → Prop} {own : Own} {w : World}
theorem agg_rel {k : Tag} {cs : Array Value} (h : RC F own w (kindsOf k) cs.toList) : ∃ x : k.T, Rel F own w (.agg (cellsOf k x)) (.agg cs) := by
  obtain ⟨l, h3, h4, h5⟩ := h
  refine ⟨mkE k l, ?_⟩
  rw [elemO_cells (k := k) (l := l) (x := mkE k l) (by unfold elemO; rw [h3]; rfl)]
  refine .agg (by simpa using h4.symm) fun j s hj => ?_
  have hlt : j < cs.size := by
    have := (List.getElem?_eq_some_iff.1 hj).1
    simpa [h4] using this
  exact h5 j s _ hj (by simp [Array.getD, hlt])
end
end Go.Sx
end
section
namespace Go.Sx
open Go.RowKit Go.WideShapes Go.ChangeShapes
section
variable {H : Type} {enc : TypeId × Value → H} {P : Program}
def okTs (P : Program) : List TypeId → Bool
  | [] => true
  | t :: r => P.readableRec t && Nat.blt t P.types.size && okTs P r
theorem all_stays (hl : laidOutB P = true) {W W' : World} (hg : Below W.heap.size W W') : ∀ {ts : List TypeId} {vs : List Value} {ds : List (DataW H)} {ps : List MemPlace}, okTs P ts = true →
    DataW.TrodAll enc P W 0 (fun _ => true) true ts vs ds ps → (∀ x ∈ ps, x.block < W.heap.size) → DataW.TrodAll enc P W' 0 (fun b => decide (b < W.heap.size)) true ts vs ds ps
  | [], vs, ds, ps, _, h, _ => by
    obtain ⟨rfl, rfl, rfl⟩ := trodAll_nil h
    exact trodAll_mk0
  | t :: ts, vs, ds, ps, hk, h, hlt => by
    unfold okTs at hk
    rw [Bool.and_eq_true, Bool.and_eq_true] at hk
    obtain ⟨v, vs', d, ds', p, q, rfl, rfl, rfl, h1, h2⟩ := trodAll_cons h
    refine trodAll_cons_mk (WideElems.Trod_stays hl hk.1.1 (by simpa [Nat.blt_eq] using hk.1.2) h1 (fun x hx => hg.same (hlt x (List.mem_append_left _ hx))) (fun x hx => by simpa using hlt x (List.mem_append_left _ hx))) ?_
    exact all_stays hl hg hk.2 h2 fun x hx => hlt x (List.mem_append_right _ hx)
theorem law_post (hl : laidOutB P = true) {f : Func} {s : ChangeSpec} {W W' : World} {args : Array Value} {ds gs : List (DataW H)} {before : List MemPlace} {t : TypeId}
    (hk : okTs P f.params.toList = true) (hW : DataW.Whole enc P f.params.toList s.vars false W args.toList ds gs before)
    (hr : f.resultTypes = #[t]) (ht : P.underlying t = some .bool) (hv : s.vars = []) (h1 : (s.fn H (ds ++ gs)).results = [.lit (.bool true)]) (h2 : (s.fn H (ds ++ gs)).args = ds) (h3 : (s.fn H (ds ++ gs)).vars = [])
    (hg : Below W.heap.size W W') : s.post enc P f false true false false W args (.bool true) W' := by
  have hlt := hW.lt
  have hW0 := hW
  obtain ⟨p, q, hA, hV, rfl, _, _⟩ := hW
  rw [hv] at hV
  obtain ⟨rfl, rfl⟩ := trodVars_none hV
  refine ⟨ds, [], p ++ [], [], p, [], hW0, ?_, ?_, ?_, ?_, fun h => by cases h⟩
  · rw [h1, hr]
    exact trodAll_cons_mk (shut_bool ht _) trodAll_mk0
  · rw [h2]
    exact all_stays hl hg hk hA fun x hx => hlt x (by simpa using hx)
  · rw [h3, hv]
    rfl
  · exact World.keptBut_mono (fun x hx => ⟨hx, .inr (.inl (by simpa using hx))⟩) (hg.frame (· ∈ p ++ []))
end
end Go.Sx
end
section
namespace Go.Proofs.YtkblpdepdncnmaaGreat.bulks
theorem one_le {H : Type} (d : DataW H) : 1 ≤ Rows.uptoBulk d := by
  cases d with
  | lit l => cases l <;> simp [Rows.uptoBulk]
  | nil => simp [Rows.uptoBulk]
  | ptr d => simp [Rows.uptoBulk]
  | slice elems spare => simp [Rows.uptoBulk]
  | agg parts => simp [Rows.uptoBulk]
  | iface t d => simp [Rows.uptoBulk]
  | map entries => simp [Rows.uptoBulk]
  | held h => simp [Rows.uptoBulk]
theorem part_le {H : Type} {d : DataW H} {l : List (DataW H)} (h : d ∈ l) : Rows.uptoBulk d ≤ Rows.uptoBulkAll l := by
  induction l with
  | nil => cases h
  | cons x r ih =>
    simp only [Rows.uptoBulkAll]
    cases List.mem_cons.1 h with
    | inl e => subst e; omega
    | inr e => have := ih e; omega
theorem append {H : Type} (l r : List (DataW H)) : Rows.uptoBulkAll (l ++ r) = Rows.uptoBulkAll l + Rows.uptoBulkAll r := by
  induction l with
  | nil => simp [Rows.uptoBulkAll]
  | cons x l ih => simp only [List.cons_append, Rows.uptoBulkAll, ih]; omega
theorem length_le {H : Type} (l : List (DataW H)) : l.length ≤ Rows.uptoBulkAll l := by
  induction l with
  | nil => simp [Rows.uptoBulkAll]
  | cons x r ih => have := one_le x; simp only [Rows.uptoBulkAll, List.length_cons]; omega
theorem slice_le {H : Type} (elems spare : List (DataW H)) : elems.length + spare.length + 1 ≤ Rows.uptoBulk (.slice elems spare) := by
  have h1 := length_le elems
  have h2 := length_le spare
  simp only [Rows.uptoBulk]
  omega
theorem slice_elems {H : Type} (elems spare : List (DataW H)) : Rows.uptoBulkAll elems + 1 ≤ Rows.uptoBulk (.slice elems spare) := by
  simp only [Rows.uptoBulk]
  omega
theorem bound {H : Type} {l : List (DataW H)} (hk : Rows.uptoSmall H l = true) : Rows.uptoBulkAll l ≤ 1048576 := by
  simpa [Rows.uptoSmall] using hk
theorem room {n b : Nat} (hn : n ≤ 2097152) (hb : b ≤ 4096) : (n + n / 4 + 192) * b ≤ 281474976710656 := by
  have h : (n + n / 4 + 192) * b ≤ 2621632 * 4096 := Nat.mul_le_mul (by omega) hb
  omega
end Go.Proofs.YtkblpdepdncnmaaGreat.bulks
end
section
namespace Go.Proofs.YtkblpdepdncnmaaGreat.routingSpec
open Go.ChangeShapes Go.WideShapes Go.ChangeAt Go.RowKit Go.Sx
set_option linter.unusedVariables false
theorem con_eq (x0 : Tag.district.T) (x1 : Int) (x2 : Int) (x3 : Int) : C_law22_RoutingSpec [.agg (cellsOf .district x0), .v (.int .i64 x1), .v (.int .i64 x2), .v (.int .i64 x3)] = some (.det (law22_RoutingSpec_p x0 x1 x2 x3) (.v (.bool (law22_RoutingSpec x0 x1 x2 x3)))) := by
  unfold C_law22_RoutingSpec
  simp only [go_sem, Nat.reduceBEq]
theorem call_true {W : World} {cs0 : Array Value} (h0 : RC (fun _ => False) own0 W (kindsOf .district) cs0.toList) (x1 : Int) (h1 : (-9223372036854775808) ≤ x1 ∧ x1 ≤ 9223372036854775807) (x2 : Int) (h2 : (-9223372036854775808) ≤ x2 ∧ x2 ≤ 9223372036854775807) (x3 : Int) (h3 : (-9223372036854775808) ≤ x3 ∧ x3 ≤ 9223372036854775807) :
    Calls Tryz.prog 3 #[.agg cs0, .int .i64 x1, .int .i64 x2, .int .i64 x3] W (fun e W' => e = .returned (.bool true) ∧ Below W.heap.size W W') := by
  obtain ⟨x0, r0⟩ := agg_rel h0
  refine (ok_law22_RoutingSpec.calls _ _ (con_eq x0 x1 x2 x3) (rspec_p x0 x1 x2 x3 h1 h2 h3) (fun _ => False) W _ (fun b h => h.elim) ⟨rfl, fun j s hj => ?_⟩).mono fun e W' he => ?_
  · match j, hj with
    | 0, hj => cases hj; exact r0
    | 1, hj => cases hj; exact .v _
    | 2, hj => cases hj; exact .v _
    | 3, hj => cases hj; exact .v _
  · rcases he with ⟨s, u, own', hs, rfl, hh, hb⟩ | ⟨x, hx, _⟩
    · simp only [conPost] at hs
      subst hs
      rw [rspec_t x0 x1 x2 x3 h1 h2 h3] at hh
      have := hh.val
      simp only [HandV] at this
      rw [rel_v this]
      exact ⟨rfl, hb⟩
    · exact hx.elim
theorem own : ownKnob Tryz.prog.godebug = none := by kernel_rfl
theorem small (H : Type) : Small (fun d : DataW H => Rows.uptoBulk d ≤ 1048576) where
  agg l h d hd := by
    have h1 := bulks.part_le hd
    simp only [Rows.uptoBulk] at h
    omega
  slice l m h := by
    have h1 := bulks.slice_le l m
    have h2 := bulks.slice_elems l m
    refine ⟨by unfold maxL; omega, fun d hd => ?_⟩
    have := bulks.part_le hd
    omega
theorem laid : laidOutB Tryz.prog = true := by kernel_rfl
set_option maxRecDepth 100000 in
theorem contract (H : Type) (enc : TypeId × Value → H) (W : World) (base : Nat) (args : Array Value) (ds gs : List (DataW H)) (before : List MemPlace)
    (hval : ∀ (j : Nat) t v, Tryz.f3.params[j]? = some t → args[j]? = some v → Value.okWide Tryz.prog W .any base t v)
    (hW : DataW.Whole enc Tryz.prog Tryz.f3.params.toList Rows.routingSpecSpec.vars false W args.toList ds gs before) (hk : Rows.uptoSmall H (ds ++ gs) = true) :
    Calls Tryz.prog 3 args W fun e W' => ∃ v, e = .returned v ∧ Rows.routingSpecSpec.post enc Tryz.prog Tryz.f3 false true false false W args v W' := by
  have hW' := hW
  obtain ⟨p, q, hA0, hV, rfl, hfz, hnd⟩ := hW
  have hA : DataW.TrodAll enc Tryz.prog W 0 (fun _ => true) true Tryz.f3.params.toList args.toList ds p := hA0
  rw [Tryz.params3] at hA hval
  obtain ⟨v0, vs0, d0, ds0, p0, q0, hargs, rfl, rfl, h0, r0⟩ := trodAll_cons hA
  obtain ⟨v1, vs1, d1, ds1, p1, q1, rfl, rfl, rfl, h1, r1⟩ := trodAll_cons r0
  obtain ⟨v2, vs2, d2, ds2, p2, q2, rfl, rfl, rfl, h2, r2⟩ := trodAll_cons r1
  obtain ⟨v3, vs3, d3, ds3, p3, q3, rfl, rfl, rfl, h3, r3⟩ := trodAll_cons r2
  obtain ⟨rfl, rfl, rfl⟩ := trodAll_nil r3
  obtain rfl : args = #[v0, v1, v2, v3] := by cases args; simp_all
  obtain ⟨rfl, rfl⟩ := trodVars_none hV
  have hb := bulks.bound hk
  simp only [Rows.uptoBulkAll, List.append_nil, List.cons_append, List.nil_append] at hb
  have ho : ∀ b, ¬ ownB (fun _ => False) own0 b := fun b h => by
    rcases h with h | ⟨_, _, h, _⟩
    · exact h
    · cases h
  have s0 : ∃ cs, v0 = .agg cs := by
    have := hval 0 31 v0 rfl rfl
    simp only [Value.okWide, Tryz.underlying31] at this
    exact ⟨_, this.choose_spec.1⟩
  obtain ⟨cs0, rfl⟩ := s0
  obtain ⟨a1, rfl, rfl, rfl, w1⟩ := open_int Tryz.underlying3 (hval 1 3 v1 rfl rfl) h1
  have R1 : (-9223372036854775808) ≤ a1 ∧ a1 ≤ 9223372036854775807 := by simpa [Lit.wf, IntKind.min, IntKind.max, IntKind.signed, IntKind.bits] using w1
  obtain ⟨a2, rfl, rfl, rfl, w2⟩ := open_int Tryz.underlying3 (hval 2 3 v2 rfl rfl) h2
  have R2 : (-9223372036854775808) ≤ a2 ∧ a2 ≤ 9223372036854775807 := by simpa [Lit.wf, IntKind.min, IntKind.max, IntKind.signed, IntKind.bits] using w2
  obtain ⟨a3, rfl, rfl, rfl, w3⟩ := open_int Tryz.underlying3 (hval 3 3 v3 rfl rfl) h3
  have R3 : (-9223372036854775808) ≤ a3 ∧ a3 ≤ 9223372036854775807 := by simpa [Lit.wf, IntKind.min, IntKind.max, IntKind.signed, IntKind.bits] using w3
  have R0 : RC (fun _ => False) own0 W (kindsOf .district) cs0.toList := by
    obtain ⟨f, hf⟩ := h0
    exact kinds_read (n := 6) (t := 31) (small H) ho _ (by kernel_rfl) f _ _ hf (by show Rows.uptoBulk d0 ≤ _; omega)
  refine (call_true R0 _ R1 _ R2 _ R3).mono fun e W' ⟨he, hg⟩ => ?_
  subst he
  exact ⟨_, rfl, law_post laid (by kernel_rfl) hW' (by kernel_rfl) Tryz.underlying4 rfl rfl rfl rfl hg⟩
def zeroV : Kd → Value
  | .n k => .int k 0
  | .b => .bool false
  | .s => .string (ByteArray.mk #[])
  | .r _ => .slice none 0 0
  | .m _ _ => .map none
def wit : Array Value := #[.agg ((kindsOf .district).map zeroV).toArray, .int .i64 0, .int .i64 0, .int .i64 0]
set_option maxRecDepth 100000 in
theorem lifted (os : Os) (started : os.Started) (H : Type) (enc : TypeId × Value → H) (F : Stop.Interp) :
    ReturnsInHanded {} Tryz.checked os 3 .any ((Rows.OpenSpec.upto Rows.routingSpecSpec).pre6 enc Tryz.prog Tryz.f3 Rows.routingSpecUptoRow.domain false) (((Rows.OpenSpec.upto Rows.routingSpecSpec).at F).post enc Tryz.prog Tryz.f3 false true false false) := by
  refine returnsInHanded_of_cond (C := Tryz.checked) (s := Rows.OpenSpec.upto Rows.routingSpecSpec) (k := Rows.uptoSmall) rfl own started (by kernel_rfl) Tryz.func3
    (OpenSpec.witness (enc := enc) (C := Tryz.checked) (s := Rows.OpenSpec.upto Rows.routingSpecSpec) (k := Rows.uptoSmall) rfl false ⟨#[], wit, []⟩ 8 (by kernel_rfl) (by kernel_rfl) (by kernel_rfl)
      (x := (DataW.whole enc Tryz.prog (World.plainHolding Tryz.prog os ⟨#[], wit, []⟩).memory Tryz.f3.params.toList Rows.routingSpecSpec.vars false wit.toList 8).getD ([], [], [])) (by kernel_rfl) rfl (by kernel_rfl)) ?_
  intro W base args ds gs before hval hW _ hk _
  exact contract H enc W base args ds gs before hval hW hk
theorem over : Rows.routingSpecUptoRow.holds Tryz.pinned (Rows.OpenSpec.upto Rows.routingSpecSpec) :=
  OpenClaim.holds_of_cond 3 Tryz.f3 rfl rfl rfl rfl rfl rfl rfl ⟨rfl, rfl, rfl, rfl, rfl⟩ rfl rfl rfl rfl rfl (by kernel_rfl) Tryz.func3 (by kernel_rfl)
    (of_decide_eq_true (by kernel_rfl)) (by unfold Func.isWrapper; first | (rw [if_pos (by decide +kernel)]; kernel_rfl) | (rw [if_neg (by decide +kernel)]; exact ⟨rfl, rfl⟩))
    (fun os started H enc _ F => lifted os started H enc F)
theorem proved : Rows.RoutingSpecUptoSaid := over
end Go.Proofs.YtkblpdepdncnmaaGreat.routingSpec
end
