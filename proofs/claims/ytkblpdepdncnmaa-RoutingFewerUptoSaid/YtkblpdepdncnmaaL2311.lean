/- Part of the proof that the law RoutingFewer returns true and leaves its arguments as they were, for all arguments of bulk at most 1048576 (the Upto form). -/
import Derived.Test.YtkblpdepdncnmaaL2310
import Derived.Test.YtkblpdepdncnmaaL2307
import Derived.Test.YtkblpdepdncnmaaL2308
import Derived.Test.YtkblpdepdncnmaaL2306
import Derived.Deep.Slices
import Derived.OpenShut
import Derived.ChangeSame
import Derived.WideKeyArgs
import Derived.Below
import Derived.Test.YtkblpdepdncnmaaRows
import Derived.WalkKit
import Derived.ProofKit
import Derived.JoinedCond
import Derived.Carry
set_option linter.all false
section
namespace Go.Sx
open Go.Proofs
theorem runL_unit_iff {ρ τ : Type} {step : τ → Unit → ρ ⊕ Unit} : ∀ {L : List τ}, runL step L () = .inr () ↔ ∀ x ∈ L, step x () = .inr ()
  | [] => by simp [runL]
  | x :: r => by
    simp only [runL, List.mem_cons, forall_eq_or_imp]
    cases h : step x () with
    | inl y => simp
    | inr y => simp only [true_and]; exact runL_unit_iff
theorem runL_unit_inl {τ : Type} {step : τ → Unit → Unit ⊕ Unit} {L : List τ} (h : ¬ ∀ x ∈ L, step x () = .inr ()) : runL step L () = .inl () := by
  cases hr : runL step L () with
  | inl y => rfl
  | inr y => exact absurd (runL_unit_iff.1 hr) h
theorem okM_unit {τ : Type} {step : τ → Unit → Unit ⊕ Unit} {p : τ → Unit → Prop} {l : List τ} (hp : ∀ x ∈ l, p x ()) : okM step p l () := fun L hL => by
  refine ⟨?_, okL_all _ _ fun x hx _ => hp x (hL.mem_iff.1 hx)⟩
  by_cases h : ∀ x ∈ l, step x () = .inr ()
  · rw [runL_unit_iff.2 h, runL_unit_iff.2 fun x hx => h x (hL.mem_iff.1 hx)]
  · rw [runL_unit_inl h, runL_unit_inl fun q => h fun x hx => q x (hL.mem_iff.2 hx)]
section
variable {κ υ : Type} [DecidableEq κ]
theorem mem_mupd : ∀ (l : List (κ × υ)) (x : κ) (y : υ) (e : κ × υ), e ∈ mupd l x y → e = (x, y) ∨ e ∈ l
  | [], x, y, e, h => by simp [mupd] at h; exact .inl h
  | (a, b) :: r, x, y, e, h => by
    unfold mupd at h
    by_cases q : x = a
    · rw [if_pos q] at h
      rcases List.mem_cons.1 h with h | h
      · exact .inl h
      · exact .inr (List.mem_cons_of_mem _ h)
    · rw [if_neg q] at h
      rcases List.mem_cons.1 h with h | h
      · exact .inr (h ▸ List.mem_cons_self)
      · rcases mem_mupd r x y e h with h | h
        · exact .inl h
        · exact .inr (List.mem_cons_of_mem _ h)
theorem nodup_mupd {l : List (κ × υ)} (h : (l.map Prod.fst).Nodup) (x : κ) (y : υ) : ((mupd l x y).map Prod.fst).Nodup := by
  rw [keys_mupd]
  split
  · exact h
  · rename_i hn
    rw [List.nodup_append]
    exact ⟨h, by simp, fun a ha b hb e => by
      rw [List.mem_singleton] at hb
      subst hb; subst e
      exact hn ha⟩
end
structure SM (k : Tag) (f : k.T → Int) (m : List (k.T × Int)) : Prop where
  get : ∀ p, mgetT k .int m p = f p
  nd : (m.map Prod.fst).Nodup
  pos : ∀ e ∈ m, 1 ≤ e.2
theorem SM.nil {k : Tag} : SM k (fun _ => 0) [] := ⟨fun _ => rfl, List.nodup_nil, fun _ h => by cases h⟩
theorem SM.put {k : Tag} {f : k.T → Int} {m : List (k.T × Int)} (h : SM k f m) (x : k.T) {v : Int} (hv : 1 ≤ v) {g : k.T → Int} (hg : ∀ p, g p = if p = x then v else f p) : SM k g (mupdT k .int m x v) := by
  refine ⟨fun p => ?_, nodup_mupd h.nd x v, fun e he => ?_⟩
  · rw [mgetT_mupdT, h.get, hg]
  · rcases mem_mupd (υ := Int) m x v e he with rfl | he
    · exact hv
    · exact h.pos e he
theorem SM.entry {k : Tag} {f : k.T → Int} {m : List (k.T × Int)} (h : SM k f m) {e : k.T × Int} (he : e ∈ m) : e.2 = f e.1 ∧ 1 ≤ f e.1 := by
  have h1 := mem_mget m e h.nd he
  have h2 := h.get e.1
  unfold mgetT at h2
  rw [h1] at h2
  have h3 : e.2 = f e.1 := h2
  exact ⟨h3, h3 ▸ h.pos e he⟩
theorem SM.congr {k : Tag} {f g : k.T → Int} {m : List (k.T × Int)} (h : SM k f m) (e : ∀ p, g p = f p) : SM k g m := ⟨fun p => by rw [h.get, e], h.nd, h.pos⟩
def gP (r h : Int) (x : Order) : Bool := !x.outlet && x.index == r && x.hour == h
def glit (l : List Order) (r h : Int) : Int := osum (gP r h) l
theorem gP_key {r h : Int} {x y : Order} (hx : gP r h x = true) (hy : gP r h y = true) : K x y := by
  unfold gP at hx hy
  simp only [Bool.and_eq_true, Bool.not_eq_true', beq_iff_eq] at hx hy
  exact ⟨by rw [hx.2, hy.2], by rw [hx.1.2, hy.1.2], by rw [hx.1.1, hy.1.1]⟩
theorem osum_single {p : Order → Bool} {l : List Order} (hk : l.Pairwise fun x y => ¬ K x y) (hp : ∀ x y, p x = true → p y = true → K x y) {x : Order} (hx : x ∈ l) (h : p x = true) : osum p l = x.litres := by
  obtain ⟨i, hi, rfl⟩ := List.getElem_of_mem hx
  refine osum_one hi h fun j hj hne => ?_
  cases hq : p l[j] with
  | false => rfl
  | true =>
    rw [List.pairwise_iff_getElem] at hk
    rcases Nat.lt_or_gt_of_ne hne with q | q
    · exact absurd (hp _ _ hq h) (hk j i hj hi q)
    · exact absurd (hp _ _ h hq) (hk i j hi hj q)
theorem glit_mem {l : List Order} (hk : l.Pairwise fun x y => ¬ K x y) {x : Order} (hx : x ∈ l) (ho : x.outlet = false) : glit l x.index x.hour = x.litres :=
  osum_single hk (fun _ _ h1 h2 => gP_key h1 h2) hx (by unfold gP; rw [ho]; simp)
theorem osum_ne {p : Order → Bool} {l : List Order} (h : osum p l ≠ 0) : ∃ x ∈ l, p x = true :=
  Classical.byContradiction fun q => h (osum_none fun x hx => by
    cases hp : p x with
    | false => rfl
    | true => exact absurd ⟨x, hx, hp⟩ q)
theorem glit_ne {l : List Order} (hk : l.Pairwise fun x y => ¬ K x y) {r h : Int} (hg : glit l r h ≠ 0) : ∃ x ∈ l, x.outlet = false ∧ x.index = r ∧ x.hour = h ∧ x.litres = glit l r h := by
  obtain ⟨x, hx, hp⟩ := osum_ne hg
  have := osum_single hk (fun _ _ h1 h2 => gP_key h1 h2) hx hp
  unfold gP at hp
  simp only [Bool.and_eq_true, Bool.not_eq_true', beq_iff_eq] at hp
  exact ⟨x, hx, hp.1.1, hp.1.2, hp.2, this.symm⟩
theorem gates_ok {l : List Order} (hk : l.Pairwise fun x y => ¬ K x y) (hl : ∀ x ∈ l, 1 ≤ x.litres) : SM .acequialaw22Place (fun p => glit l p.reach p.hour) (law22_gates l) := by
  let f : Order → List (Acequialaw22Place × Int) → Empty ⊕ List (Acequialaw22Place × Int) := fun x s => bif !x.outlet then .inr (mupdT .acequialaw22Place .int s { reach := x.index, hour := x.hour } x.litres) else .inr s
  have e : runI (law22_gates_l0 l) l.length 0 [] = runL f l [] := runI_eq_runL f default l []
  have key : ∀ (L pre : List Order) (m : List (Acequialaw22Place × Int)), (pre ++ L).Pairwise (fun x y => ¬ K x y) → (∀ x ∈ L, 1 ≤ x.litres) → SM .acequialaw22Place (fun p => glit pre p.reach p.hour) m → ∃ m', runL f L m = .inr m' ∧ SM .acequialaw22Place (fun p => glit (pre ++ L) p.reach p.hour) m' := by
    intro L
    induction L with
    | nil => intro pre m _ _ hm; exact ⟨m, rfl, by simpa using hm⟩
    | cons x L ih =>
      intro pre m hk hl hm
      have hk' : (pre ++ [x] ++ L).Pairwise (fun x y => ¬ K x y) := by simpa using hk
      have hnone : ∀ r h : Int, x.outlet = false → x.index = r → x.hour = h → glit pre r h = 0 := fun r h q1 q2 q3 => osum_none fun y hy => by
        cases hp : gP r h y with
        | false => rfl
        | true =>
          have : gP r h x = true := by unfold gP; rw [q1, q2, q3]; simp
          exact absurd (gP_key hp this) ((List.pairwise_append.1 hk).2.2 y hy x List.mem_cons_self)
      simp only [runL]
      cases ho : x.outlet with
      | true =>
        have ef : f x m = .inr m := by simp only [f, ho]; rfl
        rw [ef]
        obtain ⟨m', e1, e2⟩ := ih (pre ++ [x]) m hk' (fun y hy => hl y (List.mem_cons_of_mem _ hy)) (hm.congr fun p => by
          unfold glit; rw [osum_app]; simp [osum, gP, ho])
        exact ⟨m', e1, by simpa using e2⟩
      | false =>
        have ef : f x m = .inr (mupdT .acequialaw22Place .int m { reach := x.index, hour := x.hour } x.litres) := by simp only [f, ho]; rfl
        rw [ef]
        obtain ⟨m', e1, e2⟩ := ih (pre ++ [x]) _ hk' (fun y hy => hl y (List.mem_cons_of_mem _ hy)) (hm.put (k := .acequialaw22Place) { reach := x.index, hour := x.hour } (hl x List.mem_cons_self) (g := fun p => glit (pre ++ [x]) p.reach p.hour) fun p => by
          show glit (pre ++ [x]) p.reach p.hour = _
          unfold glit
          rw [osum_app]
          by_cases q : p = { reach := x.index, hour := x.hour }
          · rw [if_pos q]
            subst q
            have := hnone x.index x.hour ho rfl rfl
            unfold glit at this
            rw [this]
            simp [osum, gP, ho]
          · rw [if_neg q]
            have : gP p.reach p.hour x = false := by
              cases hp : gP p.reach p.hour x with
              | false => rfl
              | true =>
                unfold gP at hp
                simp only [Bool.and_eq_true, beq_iff_eq] at hp
                exact absurd (by rw [hp.1.2, hp.2]) q
            simp [osum, this])
        exact ⟨m', e1, by simpa using e2⟩
  obtain ⟨m', e1, e2⟩ := key l [] [] (by simpa using hk) hl (SM.nil.congr fun p => rfl)
  unfold law22_gates
  rw [e, e1]
  simpa using e2
end Go.Sx
end
section
namespace Go.Sx
open Go.Proofs
def Kept (d : District) (l : List Order) : Prop := ∀ r h : Int, 0 ≤ r → 1 ≤ drw d l r h → ∃ w, losses_Worst (rch d r) (glit l r (h - (rch d r).delay)) = (w, 0) ∧ drw d l r h ≤ w
theorem drw_src {d : District} {l : List Order} (hg : Good d l) {r h : Int} (hr : 0 ≤ r) (hd : drw d l r h ≠ 0) : r < (d.reaches.length : Int) ∧ 0 ≤ h ∧ h < d.hours := by
  obtain ⟨x, hx, hp⟩ := osum_ne hd
  have h1 := hg.one x hx
  unfold drawP at hp
  simp only [Bool.and_eq_true, Bool.or_eq_true, Bool.not_eq_true', beq_iff_eq] at hp
  have a1 := h1.hour0; have a2 := h1.hour; have a3 := h1.index0
  refine ⟨?_, by omega, by omega⟩
  rcases hp.2 with ⟨q1, q2⟩ | ⟨q1, q2⟩
  · have := h1.farm q1
    have := hg.right.farm x.index.toNat (by omega)
    omega
  · have := h1.reach q1
    have := up_lt hg.right (r := x.index.toNat) (by omega)
    rw [show ((x.index.toNat : Nat) : Int) = x.index from Int.toNat_of_nonneg a3] at this
    have q2' : (rch d x.index).up = r := q2
    omega
end Go.Sx
end
section
namespace Go.Sx
open Go.Proofs
theorem getDset0 {α : Type} (l : List α) (d r : α) (i k : Nat) (hi : i < l.length) : (l.set i r).getD k d = if k = i then r else l.getD k d := by
  rw [List.getD_eq_getElem?_getD, List.getElem?_set, List.getD_eq_getElem?_getD]
  by_cases h : k = i
  · subst h; simp [hi]
  · rw [if_neg (fun e => h e.symm), if_neg h]
theorem rev_run (l : List Int) (hl : l.length ≤ maxL) : okI (slices_Reverse_int_int_l0 l) (slices_Reverse_int_int_l0_p l) (l.length + 1) 0 (l, 0, (IntKind.i64.wrap ((l.length : Int) - 1))) ∧ runI (slices_Reverse_int_int_l0 l) (l.length + 1) 0 (l, 0, (IntKind.i64.wrap ((l.length : Int) - 1))) = .inl l.reverse := by
  unfold maxL at hl
  rw [wrapI (by omega) (by omega)]
  have key : ∀ (n k : Nat) (s : List Int), n + k = l.length + 1 → s.length = l.length → 2 * k ≤ l.length + 1 → (∀ p, p < l.length → s.getD p 0 = if p < k ∨ l.length ≤ p + k then l.getD (l.length - 1 - p) 0 else l.getD p 0) →
      okI (slices_Reverse_int_int_l0 l) (slices_Reverse_int_int_l0_p l) n k (s, (k : Int), (l.length : Int) - 1 - k) ∧ (1 ≤ n → runI (slices_Reverse_int_int_l0 l) n k (s, (k : Int), (l.length : Int) - 1 - k) = .inl l.reverse) := by
    intro n
    induction n with
    | zero => intro k s _ _ _ _; exact ⟨trivial, fun h => by omega⟩
    | succ n ih =>
      intro k s hn hs hk hp
      have hstep : slices_Reverse_int_int_l0 l k (s, (k : Int), (l.length : Int) - 1 - k) = if (k : Int) < (l.length : Int) - 1 - k then .inr ((s.set k (s.getD (l.length - 1 - k) 0)).set (l.length - 1 - k) (s.getD k 0), ((k + 1 : Nat) : Int), (l.length : Int) - 1 - ((k + 1 : Nat) : Int)) else .inl s := by
        unfold slices_Reverse_int_int_l0
        simp only
        by_cases hlt : (k : Int) < (l.length : Int) - 1 - k
        · rw [decide_eq_true hlt, if_pos hlt, wrapI (by omega) (by omega), wrapI (by omega) (by omega)]
          simp only [cond_true, Int.toNat_natCast]
          have e : ((l.length : Int) - 1 - k).toNat = l.length - 1 - k := by omega
          rw [e]
          congr 2
          congr 1
          omega
        · rw [decide_eq_false hlt, if_neg hlt]; rfl
      by_cases hlt : (k : Int) < (l.length : Int) - 1 - k
      · have hnew : ∀ p, p < l.length → ((s.set k (s.getD (l.length - 1 - k) 0)).set (l.length - 1 - k) (s.getD k 0)).getD p 0 = if p < k + 1 ∨ l.length ≤ p + (k + 1) then l.getD (l.length - 1 - p) 0 else l.getD p 0 := fun p hpl => by
          rw [getDset0 _ _ _ _ _ (by rw [List.length_set, hs]; omega), getDset0 _ _ _ _ _ (by rw [hs]; omega)]
          have h1 := hp k (by omega)
          have h2 := hp (l.length - 1 - k) (by omega)
          rw [if_neg (by omega)] at h1 h2
          by_cases q1 : p = l.length - 1 - k
          · rw [if_pos q1, if_pos (by omega), h1]
            congr 1; omega
          · rw [if_neg q1]
            by_cases q2 : p = k
            · rw [if_pos q2, if_pos (by omega), h2]
              congr 1; omega
            · rw [if_neg q2, hp p hpl]
              by_cases q3 : p < k ∨ l.length ≤ p + k
              · rw [if_pos q3, if_pos (by omega)]
              · rw [if_neg q3, if_neg (by omega)]
        have := ih (k + 1) _ (by omega) (by rw [List.length_set, List.length_set, hs]) (by omega) hnew
        refine ⟨⟨?_, fun s' hs' => ?_⟩, fun _ => ?_⟩
        · unfold slices_Reverse_int_int_l0_p
          simp only
          intro _
          have e1 : (s.set (Int.toNat (k : Int)) (s.getD (Int.toNat ((l.length : Int) - 1 - k)) 0)).length = l.length := by rw [List.length_set, hs]
          rw [hs, e1]
          omega
        · rw [hstep, if_pos hlt] at hs'
          cases hs'
          exact this.1
        · simp only [runI, hstep, if_pos hlt]
          exact this.2 (by omega)
      · refine ⟨⟨?_, fun s' hs' => ?_⟩, fun _ => ?_⟩
        · unfold slices_Reverse_int_int_l0_p
          simp only
          intro h
          rw [decide_eq_true_eq] at h
          exact absurd h hlt
        · rw [hstep, if_neg hlt] at hs'; cases hs'
        · simp only [runI, hstep, if_neg hlt]
          congr 1
          apply List.ext_getElem
          · rw [hs, List.length_reverse]
          · intro p h1 h2
            rw [List.getElem_reverse]
            have := hp p (by omega)
            rw [getD_el s 0 h1, getD_el l 0 (by omega)] at this
            rw [this]
            by_cases q : p < k ∨ l.length ≤ p + k
            · rw [if_pos q]
            · rw [if_neg q, getD_el l 0 (by omega)]
              congr 1; omega
  have h0 := key (l.length + 1) 0 l (by omega) rfl (by omega) (fun p hp => by rw [if_neg (by omega)])
  have e : (l.length : Int) - 1 - (0 : Nat) = (l.length : Int) - 1 := by omega
  rw [e] at h0
  exact ⟨h0.1, h0.2 (by omega)⟩
theorem rev_eq (l : List Int) (hl : l.length ≤ maxL) : slices_Reverse_int_int l = l.reverse := by
  unfold slices_Reverse_int_int
  rw [(rev_run l hl).2]
theorem rev_p (l : List Int) : slices_Reverse_int_int_p l := fun hl => ⟨(rev_run l hl).1, fun z hz => by rw [(rev_run l hl).2] at hz; cases hz⟩
theorem up_facts {d : District} (hr : Right1 d) : ∀ (f : Nat) (n : Int), n < (d.reaches.length : Int) → n < f → upOk d f n ∧ (upL d f n).length ≤ f ∧ ∀ x ∈ upL d f n, 0 ≤ x ∧ x < (d.reaches.length : Int)
  | 0, n, h1, h2 => ⟨by unfold upOk; omega, Nat.le_refl _, fun x hx => by cases hx⟩
  | f + 1, n, h1, h2 => by
    by_cases h0 : 0 ≤ n
    · have hup := up_lt hr (r := n.toNat) (by omega)
      rw [show ((n.toNat : Nat) : Int) = n from Int.toNat_of_nonneg h0] at hup
      have e : (d.reaches.getD n.toNat (dflt .reach)) = rch d n := rfl
      obtain ⟨i1, i2, i3⟩ := up_facts hr f (rch d n).up (by omega) (by omega)
      refine ⟨fun _ => ⟨h1, by rw [e]; exact i1⟩, ?_, fun x hx => ?_⟩
      · rw [upL, if_pos h0, e, List.length_cons]; omega
      · rw [upL, if_pos h0, e] at hx
        rcases List.mem_cons.1 hx with rfl | hx
        · exact ⟨h0, h1⟩
        · exact i3 x hx
    · refine ⟨fun h => absurd h h0, by rw [upL_end h0]; simp, fun x hx => by rw [upL_end h0] at hx; cases hx⟩
theorem canals_check_iff (d : District) (l : List Int) : canals_check d l = 0 ↔ expand_Check d = 0 ∧ ∀ x ∈ l, 0 ≤ x ∧ x < (d.reaches.length : Int) := by
  unfold canals_check
  cases h1 : (expand_Check d != 0) with
  | true => simp at h1; simp [h1]
  | false =>
    simp at h1
    simp only [cond_false, h1, true_and]
    let f : Int → Unit → Unit ⊕ Unit := fun x _ => (bif ((decide (x < 0)) || (decide (x ≥ (d.reaches.length : Int)))) then .inl () else .inr ())
    have e : runI (canals_check_l0 d l) l.length 0 () = runL f l () := runI_eq_runL f 0 l ()
    have key : runL f l () = .inr () ↔ ∀ x ∈ l, 0 ≤ x ∧ x < (d.reaches.length : Int) := by
      rw [runL_unit_iff]
      refine forall_congr' fun x => forall_congr' fun hx => ?_
      simp only [f]
      by_cases q : x < 0
      · rw [decide_eq_true q]; simp; omega
      · by_cases q2 : x ≥ (d.reaches.length : Int)
        · rw [decide_eq_true q2]; simp; omega
        · rw [decide_eq_false q, decide_eq_false q2]; simp; omega
    rw [e, ← key]
    cases h : runL f l () with
    | inl y => simp
    | inr y => simp
structure PathOk (d : District) (reach : Int) : Prop where
  chk : expand_Check d = 0
  r0 : 0 ≤ reach
  r1 : reach < (d.reaches.length : Int)
theorem PathOk.right {d : District} {reach : Int} (h : PathOk d reach) : Right1 d := check_right (by rw [h.chk]; rfl)
theorem path_iff (d : District) (reach : Int) : canals_check d [reach] = 0 ↔ PathOk d reach := by
  rw [canals_check_iff]
  exact ⟨fun ⟨h1, h2⟩ => ⟨h1, (h2 reach (by simp)).1, (h2 reach (by simp)).2⟩, fun h => ⟨h.chk, fun x hx => by rw [List.mem_singleton] at hx; subst hx; exact ⟨h.r0, h.r1⟩⟩⟩
theorem PathOk.up {d : District} {reach : Int} (h : PathOk d reach) : canals_up_p d reach ∧ (canals_up d reach).length ≤ 64 ∧ ∀ x ∈ canals_up d reach, 0 ≤ x ∧ x < (d.reaches.length : Int) := by
  have := up_facts h.right (reach.toNat + 1) reach h.r1 (by have := h.r0; omega)
  have h1 := h.right.reaches
  have h2 := h.r1
  exact ⟨this.1, by have := this.2.1; unfold canals_up; omega, this.2.2⟩
theorem canals_path_p (d : District) (reach : Int) : canals_Path_p d reach := fun h => by
  have hp := (path_iff d reach).1 (by simpa using h)
  have hu := hp.up
  exact ⟨⟨hp.r0, hu.1, by unfold maxB; omega⟩, rev_p _⟩
theorem canals_path_eq {d : District} {reach : Int} (h : PathOk d reach) : canals_Path d reach = ((canals_up d reach).reverse, 0) := by
  unfold canals_Path
  rw [(path_iff d reach).2 h, rev_eq _ (by have := h.up.2.1; unfold maxL; omega)]
  rfl
theorem path_p (d : District) (reach n : Int) : routing_path_p d reach n := canals_path_p d reach
theorem path_cases (d : District) (reach n : Int) : (PathOk d reach ∧ 0 ≤ n ∧ n ≤ 1073741824 ∧ routing_path d reach n = ((canals_up d reach).reverse, 0)) ∨ (PathOk d reach ∧ ¬ (0 ≤ n ∧ n ≤ 1073741824) ∧ routing_path d reach n = ([], 1)) ∨ (¬ PathOk d reach ∧ canals_check d [reach] ≠ 0 ∧ routing_path d reach n = ([], canals_check d [reach])) := by
  unfold routing_path
  by_cases h : PathOk d reach
  · rw [canals_path_eq h]
    simp only [bne_self_eq_false, cond_false]
    by_cases hn : 0 ≤ n ∧ n ≤ 1073741824
    · rw [decide_eq_false (by omega), decide_eq_false (by omega)]
      exact .inl ⟨h, hn.1, hn.2, rfl⟩
    · have : (decide (n < 0) || decide (n > 1073741824)) = true := by rw [Bool.or_eq_true, decide_eq_true_eq, decide_eq_true_eq]; omega
      rw [this]
      exact .inr (.inl ⟨h, hn, rfl⟩)
  · have hc : canals_check d [reach] ≠ 0 := fun e => h ((path_iff d reach).1 e)
    have e : canals_Path d reach = ([], canals_check d [reach]) := by
      unfold canals_Path
      have : (canals_check d [reach] != 0) = true := by simpa using hc
      rw [this]; rfl
    rw [e]
    have : (canals_check d [reach] != 0) = true := by simpa using hc
    simp only [this, cond_true]
    exact .inr (.inr ⟨h, hc, trivial⟩)
theorem worstR_p (d : District) (reach v : Int) : routing_Worst_p d reach v := by
  refine ⟨path_p _ _ _, fun h hl => ?_⟩
  rcases path_cases d reach v with ⟨h1, _, _, e⟩ | ⟨_, _, e⟩ | ⟨_, h2, e⟩
  · refine okI_all _ _ _ fun j s _ hj => ?_
    unfold routing_Worst_l0_p
    rw [e] at hj ⊢
    simp only at hj ⊢
    have := h1.up.2.2 _ (List.mem_reverse.1 (getD_mem' (canals_up d reach).reverse 0 (k := j) (by omega)))
    exact this
  · rw [e] at h; cases h
  · rw [e] at h
    simp only [bne_eq_false_iff_eq] at h
    exact absurd h h2
theorem back_mem (l : List Int) : ∀ (k : Nat), k ≤ l.length → ∀ x ∈ backL l k, x.2 ∈ l
  | 0, _, x, h => by cases h
  | k + 1, hk, x, h => by
    rcases List.mem_cons.1 h with rfl | h
    · exact getD_mem' l 0 (by omega)
    · exact back_mem l k (by omega) x h
theorem needR_p (d : District) (reach w : Int) : routing_Need_p d reach w := by
  refine ⟨path_p _ _ _, fun h => ?_⟩
  rcases path_cases d reach w with ⟨h1, _, _, e⟩ | ⟨_, _, e⟩ | ⟨_, h2, e⟩
  · refine okL_all _ _ fun x hx s => ?_
    rw [e] at hx
    have := h1.up.2.2 _ (List.mem_reverse.1 (back_mem _ _ (Nat.le_refl _) x hx))
    exact ⟨this, intake_p _ _⟩
  · rw [e] at h; cases h
  · rw [e] at h
    simp only [bne_eq_false_iff_eq] at h
    exact absurd h h2
theorem loads_p {d : District} {l : List Order} (h : Good d l) : routing_loads_p d l := fun _ => okI_all _ _ _ fun j s _ hj => fun ho => by
  have h1 := h.one _ (getD_mem' l default (k := j) (by omega))
  have h2 := h1.reach ho
  have h0 := h1.index0
  refine ⟨⟨h0, h2⟩, ?_⟩
  have := delay_pos h.right (r := (l.getD j default).index.toNat) (by omega)
  rw [show (((l.getD j default).index.toNat : Nat) : Int) = (l.getD j default).index from Int.toNat_of_nonneg h0] at this
  have e : (d.reaches.getD (Int.toNat (l.getD j default).index) (default : Reach)).delay = (rch d (l.getD j default).index).delay := rfl
  rw [e]; omega
theorem fits_p (d : District) (l : List Order) : routing_Fits_p d l := ⟨narrow_p _ _, fun h => by
  have hN := (narrow_iff d l).1 (by simpa using h)
  exact ⟨loads_p hN.good, by have := hN.good.right.hours; omega⟩⟩
theorem load_p (d : District) (l : List Order) (r h : Int) : routing_Load_p d l r h := ⟨narrow_p _ _, fun hn _ => loads_p ((narrow_iff d l).1 (by simpa using hn)).good⟩
theorem same_p (a b : List Order) : ref22_Same_p a b := fun _ _ h => okI_all _ _ _ fun j s _ hj => fun _ => by
  simp only [bne_eq_false_iff_eq] at h
  omega
end Go.Sx
end
section
namespace Go.Sx
open Go.Proofs Go.Shelf Go.Sort Go.Lib
theorem srt_eq {l m : List Order} (hp : m.Perm l) (hs : m.Pairwise olt) : srt routing_by_1 l = m := by
  have hk : l.Pairwise fun x y => ¬ K x y := pairwise_perm hp.symm (hs.imp fun {_ _} q => olt_ne q)
  exact List.Perm.eq_of_pairwise (fun a b _ _ h1 h2 => absurd h2 (fun h2 => by unfold olt at h1 h2; omega)) (srt_lt hk) hs ((srt_perm l).trans hp.symm)
theorem s_c11 : law22_sane_c11 = (9, true, 0) := by kernel_rfl
theorem s_c10 : law22_sane_c10 = (5, 0) := by kernel_rfl
theorem s_c9 : law22_sane_c9 = (0, 1) := by kernel_rfl
theorem s_c7 : law22_sane_c7 = ([], false, 0) := by kernel_rfl
theorem s_c5 : law22_sane_c5 = ([], false, 220) := by kernel_rfl
theorem s_c6' : law22_sane_c6 = (srt routing_by_1 [({ hour := 3, index := 0, litres := 5, outlet := true } : Order), ({ hour := 2, index := 1, litres := 7, outlet := false } : Order), ({ hour := 1, index := 0, litres := 9, outlet := false } : Order)], true, 0) := by kernel_rfl
theorem s_c6 : law22_sane_c6 = (law22_sane_c13, true, 0) := by
  rw [s_c6', srt_eq (m := law22_sane_c13) (by unfold law22_sane_c13; exact (List.reverse_perm [({ hour := 3, index := 0, litres := 5, outlet := true } : Order), ({ hour := 2, index := 1, litres := 7, outlet := false } : Order), ({ hour := 1, index := 0, litres := 9, outlet := false } : Order)])) (by
    unfold law22_sane_c13
    simp [olt])]
theorem s_c4 : law22_sane_c4 = law22_sane_c13 := by unfold law22_sane_c4; rw [s_c6]
theorem s_c0 : law22_sane_c0 = (true, 0, 0, 0) := by unfold law22_sane_c0; rw [s_c4]; kernel_rfl
theorem s_c1 : law22_sane_c1 = (12, 0) := by kernel_rfl
theorem s_c3 : law22_sane_c3 = (false, 1, 0, 0) := by kernel_rfl
theorem s_c2 : law22_sane_c2 = 0 := by kernel_rfl
theorem sane_t : law22_sane = true := by
  unfold law22_sane
  rw [s_c11, s_c10, s_c9, s_c7, s_c5, s_c6, s_c0, s_c1, s_c3, s_c2, s_c4]
  kernel_rfl
theorem sane_p : law22_sane_p := ⟨needR_p _ _ _, worstR_p _ _ _, plan_p _ _, plan_p _ _, plan_p _ _, worstR_p _ _ _, fits_p _ _, ⟨Nat.le_refl _, by unfold law22_example; simp⟩, load_p _ _ _ _, fits_p _ _, fun _ => routing_pt _ _, fun _ _ => same_p _ _⟩
theorem osum_perm {P : Order → Bool} {l m : List Order} (h : l.Perm m) : osum P l = osum P m := by
  induction h with
  | nil => rfl
  | cons x _ ih => simp only [osum, ih]
  | swap x y l => simp only [osum]; omega
  | trans _ _ ih1 ih2 => rw [ih1, ih2]
theorem osum_nn {P : Order → Bool} {l : List Order} (h : ∀ x ∈ l, 0 ≤ x.litres) : 0 ≤ osum P l := by
  induction l with
  | nil => exact Int.le_refl _
  | cons x r ih =>
    simp only [osum]
    have h1 := ih fun y hy => h y (List.mem_cons_of_mem _ hy)
    have h2 := h x List.mem_cons_self
    cases P x <;> simp only [cond_true, cond_false] <;> omega
theorem osum_dom {P : Order → Bool} (hP : ∀ x y, K x y → P x = P y) : ∀ (A B : List Order), A.Pairwise (fun x y => ¬ K x y) → (∀ x ∈ A, P x = true → ∃ z ∈ B, K z x ∧ x.litres ≤ z.litres) → (∀ z ∈ B, 0 ≤ z.litres) → osum P A ≤ osum P B
  | [], B, _, _, hB => osum_nn hB
  | x :: A, B, hA, hd, hB => by
    have hA' := (List.pairwise_cons.1 hA)
    simp only [osum]
    cases hx : P x with
    | false =>
      have := osum_dom hP A B hA'.2 (fun y hy hp => hd y (List.mem_cons_of_mem _ hy) hp) hB
      simp only [cond_false]; omega
    | true =>
      obtain ⟨z, hz, hk, hl⟩ := hd x List.mem_cons_self hx
      have hperm := osum_perm (P := P) (List.perm_cons_erase hz)
      have hPz : P z = true := by rw [hP z x hk]; exact hx
      simp only [osum, hPz, cond_true] at hperm
      have := osum_dom hP A (B.erase z) hA'.2 (fun y hy hp => by
        obtain ⟨w, hw, hkw, hlw⟩ := hd y (List.mem_cons_of_mem _ hy) hp
        refine ⟨w, ?_, hkw, hlw⟩
        have hne : w ≠ z := fun e => by
          subst e
          exact hA'.1 y hy ⟨hk.1.symm.trans hkw.1, hk.2.1.symm.trans hkw.2.1, hk.2.2.symm.trans hkw.2.2⟩
        exact (List.mem_erase_of_ne hne).2 hw) (fun w hw => hB w (List.mem_of_mem_erase hw))
      simp only [cond_true]; omega
theorem drawP_key (d : District) (r h : Int) (x y : Order) (hk : K x y) : drawP d r h x = drawP d r h y := by
  unfold drawP; rw [hk.1, hk.2.1, hk.2.2]
structure Keeps (d : District) (l : List Order) : Prop where
  good : Good d l
  sip : ∀ x ∈ l, x.outlet = false → (rch d x.index).siphon ≤ x.litres
  kept : Kept d l
theorem keeps_use {d : District} {l : List Order} (h : Keeps d l) {r hh : Int} (r0 : 0 ≤ r) (h1 : 1 ≤ drw d l r hh) : ∃ z ∈ l, z.outlet = false ∧ z.index = r ∧ z.hour = hh - (rch d r).delay ∧ drw d l r hh ≤ wst (rch d r) z.litres ∧ 1 ≤ z.litres ∧ z.litres ≤ 1073741824 ∧ (rch d r).siphon ≤ z.litres ∧ r < (d.reaches.length : Int) := by
  obtain ⟨w, e1, e2⟩ := h.kept r hh r0 h1
  obtain ⟨q1, _, _⟩ := drw_src h.good r0 (by omega : drw d l r hh ≠ 0)
  have hx : expand_reach (r.toNat : Int) (rch d r) = true := h.good.right.reach r.toNat (by omega)
  by_cases hg : glit l r (hh - (rch d r).delay) = 0
  · exfalso
    rw [hg, losses_worst hx (Int.le_refl 0) (by omega), wst_zero hx] at e1
    cases e1; omega
  · obtain ⟨z, hz, z1, z2, z3, z4⟩ := glit_ne h.good.keys hg
    have hl := h.good.orders.lit z hz
    rw [← z4, losses_worst hx (by omega) hl.2] at e1
    cases e1
    have := h.sip z hz z1
    rw [z2] at this
    exact ⟨z, hz, z1, z2, z3, e2, hl.1, hl.2, this, q1⟩
theorem least_dom {d : District} {out gs l : List Order} (hr : Right1 d) (hk : (out ++ gs).Pairwise fun x y => ¬ K x y) (hg : ∀ x ∈ gs, PG d (out ++ gs) x) (hout : ∀ x ∈ out, ∃ z ∈ l, K z x ∧ x.litres ≤ z.litres) (hl : Keeps d l) :
    ∀ (n : Nat) (x : Order), x ∈ gs → (d.reaches.length : Int) - x.index ≤ n → ∃ z ∈ l, K z x ∧ x.litres ≤ z.litres := by
  intro n
  induction n with
  | zero => intro x hx hn; have := (hg x hx).i1; omega
  | succ n ih =>
    intro x hx hn
    have g := hg x hx
    have hD : drw d (out ++ gs) x.index (x.hour + (rch d x.index).delay) ≤ drw d l x.index (x.hour + (rch d x.index).delay) := by
      refine osum_dom (drawP_key d _ _) _ _ hk (fun y hy hp => ?_) fun z hz => by have := hl.good.orders.lit z hz; omega
      rcases List.mem_append.1 hy with hy | hy
      · exact hout y hy
      · have gy := hg y hy
        refine ih y hy ?_
        unfold drawP at hp
        rw [gy.out] at hp
        simp only [Bool.false_and, Bool.not_false, Bool.true_and, Bool.false_or, Bool.and_eq_true, beq_iff_eq] at hp
        have i0 := gy.i0; have i1 := gy.i1
        have := up_lt hr (r := y.index.toNat) (by omega)
        rw [show ((y.index.toNat : Nat) : Int) = y.index from Int.toNat_of_nonneg i0] at this
        have e : (rch d y.index).up = x.index := hp.2
        omega
    have h1 := g.w
    obtain ⟨z, hz, z1, z2, z3, z4, z5, z6, z7, _⟩ := keeps_use hl g.i0 (by omega : 1 ≤ drw d l x.index (x.hour + (rch d x.index).delay))
    refine ⟨z, hz, ⟨by rw [z3]; omega, z2, by rw [z1, g.out]⟩, ?_⟩
    exact (gate_lit hr g).2.2.2.2 z.litres (by omega) z6 z7 (by omega)
theorem out_keys {d : District} {out gs : List Order} (ho : Good d out) (hall : ∀ x ∈ out, x.outlet = true) (hg : ∀ x ∈ gs, x.outlet = false) (hu : gs.Pairwise fun x y => ¬ (x.index = y.index ∧ x.hour = y.hour)) : (out ++ gs).Pairwise fun x y => ¬ K x y := by
  rw [List.pairwise_append]
  refine ⟨ho.keys, hu.imp fun {x y} q k => q ⟨k.2.1, k.1⟩, fun x hx y hy k => ?_⟩
  have := k.2.2
  rw [hall x hx, hg y hy] at this
  cases this
theorem no_fail {d : District} {out gs l : List Order} {r h : Nat} (ho : Good d out) (hall : ∀ x ∈ out, x.outlet = true) (hx : PX d out gs r h) (hout : ∀ x ∈ out, ∃ z ∈ l, K z x ∧ x.litres ≤ z.litres) (hl : Keeps d l) : False := by
  obtain ⟨m, p⟩ := hx.part
  have hr := ho.right
  have hk := out_keys ho hall (fun x hx => (p.gate x hx).1.out) p.uniq
  have hdom := least_dom hr hk (fun x hx => (p.gate x hx).1) hout hl
  have hD : drw d (out ++ gs) r h ≤ drw d l r h := by
    refine osum_dom (drawP_key d _ _) _ _ hk (fun y hy hp => ?_) fun z hz => by have := hl.good.orders.lit z hz; omega
    rcases List.mem_append.1 hy with hy | hy
    · exact hout y hy
    · exact hdom d.reaches.length y hy (by have := (p.gate y hy).1.i0; omega)
  have hw := hx.w
  obtain ⟨z, hz, z1, z2, z3, z4, z5, z6, z7, _⟩ := keeps_use hl (by omega : (0 : Int) ≤ r) (by omega : 1 ≤ drw d l r h)
  rcases hx.no with q | q
  · rcases intake_ok (i := (r : Int)) (by omega) (hr.reach r hx.r1) hw with ⟨v, e, _⟩ | ⟨_, e⟩
    · have : (routing_intake (rch d r) (drw d (out ++ gs) r h)).2 = true := by
        have e' : routing_intake (rch d r) (drw d (out ++ gs) r h) = (v, true) := e
        rw [e']
      rw [this] at q; cases q
    · have := e z.litres (by omega) z6
      have e' : wst (d.reaches.getD r default) z.litres = wst (rch d r) z.litres := rfl
      omega
  · have := (hl.good.one z hz).hour0
    omega
theorem plan_keeps {d : District} {out gs : List Order} (ho : Good d out) (hall : ∀ x ∈ out, x.outlet = true) (h : PL d out gs) : Keeps d (srt routing_by_1 (out ++ gs)) := by
  have hr := ho.right
  have hperm := srt_perm (out ++ gs)
  have hk := fin_keys ho hall h.fin
  refine ⟨h.good, fun x hx hxo => ?_, fun r hh r0 h1 => ?_⟩
  · rcases List.mem_append.1 (hperm.mem_iff.1 hx) with q | q
    · rw [hall x q] at hxo; cases hxo
    · exact (gate_lit hr (h.fin.gate x q)).2.2.1
  · have hd : drw d (srt routing_by_1 (out ++ gs)) r hh = drw d (out ++ gs) r hh := osum_perm hperm
    obtain ⟨q1, q2, q3⟩ := drw_src h.good r0 (by omega : drw d (srt routing_by_1 (out ++ gs)) r hh ≠ 0)
    obtain ⟨x, hx, e1, e2⟩ := h.fin.all r hh r0 q1 q2 q3 (by omega)
    have g := h.fin.gate x hx
    have gl := gate_lit hr g
    rw [e1, e2] at gl
    have hxr : expand_reach (r.toNat : Int) (rch d r) = true := hr.reach r.toNat (by omega)
    have hg : glit (srt routing_by_1 (out ++ gs)) r (hh - (rch d r).delay) = x.litres := by
      have e : glit (srt routing_by_1 (out ++ gs)) x.index x.hour = x.litres := glit_mem h.good.keys (hperm.mem_iff.2 (List.mem_append_right _ hx)) g.out
      rw [e1, show x.hour = hh - (rch d r).delay by omega] at e
      exact e
    refine ⟨wst (rch d r) x.litres, ?_, by rw [hd]; exact gl.2.2.2.1⟩
    rw [hg]
    exact losses_worst hxr (by omega) gl.2.1
end Go.Sx
end
section
namespace Go.Sx
open Go.Proofs Go.Shelf Go.Sort Go.Lib
theorem gates_of {d : District} {l : List Order} (h : Good d l) : SM .acequialaw22Place (fun p => glit l p.reach p.hour) (law22_gates l) := gates_ok h.keys fun x hx => (h.orders.lit x hx).1
end Go.Sx
end
section
namespace Go.Sx
open Go.Proofs Go.Shelf Go.Sort Go.Lib
theorem runI_J {ρ σ : Type} {step : Nat → σ → ρ ⊕ σ} (J : Nat → σ → Prop) : ∀ (n i : Nat) (s : σ), J i s → (∀ j s, i ≤ j → j < i + n → J j s → ∃ s', step j s = .inr s' ∧ J (j + 1) s') → ∃ s', runI step n i s = .inr s' ∧ J (i + n) s'
  | 0, i, s, h, _ => ⟨s, rfl, h⟩
  | n + 1, i, s, h, hs => by
    obtain ⟨s1, e1, h1⟩ := hs i s (Nat.le_refl _) (by omega) h
    obtain ⟨s2, e2, h2⟩ := runI_J J n (i + 1) s1 h1 fun j s a b => hs j s (by omega) (by omega)
    exact ⟨s2, by simp only [runI, e1]; exact e2, by rwa [show i + (n + 1) = i + 1 + n by omega]⟩
def loadP (d : District) (r h : Int) (x : Order) : Bool := !x.outlet && x.index == r && decide (x.hour ≤ h) && decide (h < x.hour + (rch d r).delay)
def lod (d : District) (l : List Order) (r h : Int) : Int := osum (loadP d r h) l
theorem loadP_key (d : District) (r h : Int) (x y : Order) (hk : K x y) : loadP d r h x = loadP d r h y := by
  unfold loadP; rw [hk.1, hk.2.1, hk.2.2]
theorem gP_key2 (r h : Int) (x y : Order) (hk : K x y) : gP r h x = gP r h y := by
  unfold gP; rw [hk.1, hk.2.1, hk.2.2]
theorem glit_app (l : List Order) (x : Order) (r h : Int) : glit (l ++ [x]) r h = glit l r h + (bif gP r h x then x.litres else 0) := by
  unfold glit; rw [osum_app]; simp [osum]
theorem lod_app (d : District) (l : List Order) (x : Order) (r h : Int) : lod d (l ++ [x]) r h = lod d l r h + (bif loadP d r h x then x.litres else 0) := by
  unfold lod; rw [osum_app]; simp [osum]
theorem load_inner {d : District} {l : List Order} {k : Nat} {x : Order} (hx : l.getD k default = x) (h0 : 0 ≤ x.hour) (h1 : x.hour ≤ 4096) (l0 : 0 ≤ x.litres) (l1 : x.litres ≤ 1073741824) {m : Mp} {B : Int} (hB : B ≤ 4611686018427387904) (hm : ∀ a b, 0 ≤ mgetT .int2 .int m (a, b) ∧ mgetT .int2 .int m (a, b) ≤ B) (n : Nat) (hn : n ≤ 16) :
    ∃ m', runI (routing_loads_l1 d l k) n 0 m = .inr m' ∧ ∀ a b, mgetT .int2 .int m' (a, b) = mgetT .int2 .int m (a, b) + (if a = x.index ∧ x.hour ≤ b ∧ b < x.hour + n then x.litres else 0) := by
  obtain ⟨m', e, h⟩ := runI_J (step := routing_loads_l1 d l k) (fun j s => ∀ a b, mgetT .int2 .int s (a, b) = mgetT .int2 .int m (a, b) + (if a = x.index ∧ x.hour ≤ b ∧ b < x.hour + j then x.litres else 0)) n 0 m (fun a b => by rw [if_neg (by omega)]; exact (Int.add_zero _).symm) fun j s _ hj hJ => by
    refine ⟨_, rfl, fun a b => ?_⟩
    have hb := hm x.index (x.hour + j)
    have w1 : IntKind.i64.wrap (x.hour + (j : Int)) = x.hour + j := wrapI (by omega) (by omega)
    have e0 : mgetT .int2 .int s (x.index, x.hour + (j : Int)) = mgetT .int2 .int m (x.index, x.hour + (j : Int)) := by
      rw [hJ, if_neg (by omega)]; exact Int.add_zero _
    have w2 : IntKind.i64.wrap (mgetT .int2 .int m (x.index, x.hour + (j : Int)) + x.litres) = mgetT .int2 .int m (x.index, x.hour + (j : Int)) + x.litres := wrapI (by
      have := hb.1; have := Int.add_nonneg hb.1 l0; exact Int.le_trans (by omega) this) (by have := hb.2; exact Int.lt_of_le_of_lt (Int.add_le_add hb.2 l1) (by omega))
    rw [hx, w1, e0, w2, mgetT_mupdT (k := .int2), hJ]
    by_cases e : (a, b) = (x.index, x.hour + (j : Int))
    · rw [if_pos e]; cases e
      rw [if_pos (by omega)]
    · rw [if_neg e]
      have : ¬ (a = x.index ∧ b = x.hour + (j : Int)) := fun q => e (by rw [q.1, q.2])
      congr 1
      by_cases q : a = x.index ∧ x.hour ≤ b ∧ b < x.hour + j
      · rw [if_pos q, if_pos (by omega)]
      · rw [if_neg q, if_neg (by omega)]
  rw [Nat.zero_add] at h
  exact ⟨m', e, h⟩
theorem loads_ok {d : District} {l : List Order} (hg : Good d l) : (∀ a b, mgetT .int2 .int (routing_loads d l).1 (a, b) = glit l a b) ∧ ∀ a b, mgetT .int2 .int (routing_loads d l).2 (a, b) = lod d l a b := by
  have ho := hg.orders
  have hlen := hg.len
  obtain ⟨s, e, h1, h2⟩ := runI_J (step := routing_loads_l0 d l) (fun k s => (∀ a b, mgetT .int2 .int s.1 (a, b) = glit (l.take k) a b) ∧ ∀ a b, mgetT .int2 .int s.2 (a, b) = lod d (l.take k) a b) l.length 0 ([], []) ⟨fun a b => by rw [List.take_zero]; rfl, fun a b => by rw [List.take_zero]; rfl⟩ fun k s _ hk ⟨hJ1, hJ2⟩ => by
    have hk : k < l.length := by omega
    have hx := ho.one k hk
    have hel := getD_el l default hk
    rw [List.take_succ_eq_append_getElem hk, ← hel]
    have hlit : ∀ y ∈ l.take k, 1 ≤ y.litres ∧ y.litres ≤ 1073741824 := fun y hy => ho.lit y (List.mem_of_mem_take hy)
    have htl : (l.take k).length ≤ 4096 := by rw [List.length_take]; omega
    have hpw : (l.take k ++ [l.getD k default]).Pairwise fun x y => ¬ K x y := by
      rw [hel, ← List.take_succ_eq_append_getElem hk]
      exact hg.keys.sublist (List.take_sublist _ _)
    generalize hxe : l.getD k default = x at hx hpw ⊢
    unfold routing_loads_l0
    rw [hxe]
    cases hout : x.outlet with
    | true =>
      simp only [cond_true]
      exact ⟨_, rfl, fun a b => by rw [hJ1, glit_app]; unfold gP; rw [hout]; simp, fun a b => by rw [hJ2, lod_app]; unfold loadP; rw [hout]; simp⟩
    | false =>
      simp only [cond_false]
      have hi := hx.reach hout
      have hi0 := hx.index0
      have hh := hx.hour0
      have hh1 := hx.hour
      have hH := hg.right.hours
      have hl1 := hx.litres1
      have hl2 := hx.litres
      have hd := delay_pos hg.right (r := x.index.toNat) (by omega)
      rw [show ((x.index.toNat : Nat) : Int) = x.index from Int.toNat_of_nonneg hi0] at hd
      obtain ⟨m', e', hm'⟩ := load_inner (d := d) hxe hh (by omega) (by omega) hl2 (m := s.2) (B := 4398046511104) (by omega) (fun a b => by
        rw [hJ2]
        have := osum_bound (p := loadP d a b) hlit
        have h2 : osum (loadP d a b) (l.take k) ≤ 4398046511104 := by omega
        exact ⟨this.1, h2⟩) (rch d x.index).delay.toNat (by omega)
      rw [e']
      refine ⟨_, rfl, fun a b => ?_, fun a b => ?_⟩
      · rw [mgetT_mupdT (k := .int2), hJ1, glit_app]
        by_cases q : (a, b) = (x.index, x.hour)
        · rw [if_pos q]
          cases q
          have : glit (l.take k) x.index x.hour = 0 := osum_none fun y hy => by
            cases hp : gP x.index x.hour y with
            | false => rfl
            | true =>
              have hk' : K y x := gP_key hp (by unfold gP; rw [hout]; simp)
              exact absurd hk' ((List.pairwise_append.1 hpw).2.2 y hy x (by simp))
          rw [this]
          unfold gP; rw [hout]; simp
        · rw [if_neg q]
          have : gP a b x = false := by
            unfold gP
            cases e1 : (x.index == a) with
            | false => simp
            | true =>
              cases e2 : (x.hour == b) with
              | false => simp
              | true => rw [beq_iff_eq] at e1 e2; exact absurd (by rw [e1, e2]) q
          rw [this]; exact (Int.add_zero _).symm
      · rw [hm', hJ2, lod_app]
        congr 1
        unfold loadP
        rw [hout]
        have hdn : (((rch d x.index).delay.toNat : Nat) : Int) = (rch d x.index).delay := Int.toNat_of_nonneg (by omega)
        rw [hdn]
        by_cases q : a = x.index
        · subst q
          by_cases q2 : x.hour ≤ b ∧ b < x.hour + (rch d x.index).delay
          · rw [if_pos ⟨rfl, q2⟩]; simp only [Bool.not_false, beq_self_eq_true, Bool.true_and, decide_eq_true q2.1, decide_eq_true q2.2, Bool.and_self, cond_true]
          · rw [if_neg (fun q3 => q2 q3.2)]
            have : (decide (x.hour ≤ b) && decide (b < x.hour + (rch d x.index).delay)) = false := by
              rw [Bool.and_eq_false_iff, decide_eq_false_iff_not, decide_eq_false_iff_not]; omega
            simp only [Bool.not_false, beq_self_eq_true, Bool.true_and, this, cond_false]
        · rw [if_neg (fun q3 => q q3.1)]
          have : (x.index == a) = false := by rw [beq_eq_false_iff_ne]; exact fun e => q e.symm
          simp [this]
  rw [Nat.zero_add, List.take_length] at h1 h2
  unfold routing_loads
  rw [e]
  exact ⟨h1, h2⟩
theorem Nar.keep {d : District} {l m : List Order} (h : Nar d l) (hm : Good d m) : Nar d m := ⟨hm, h.wide⟩
theorem fits_ok {d : District} {l : List Order} (h : Nar d l) : (routing_Fits d l).2.2.2 = 0 ∧ ((routing_Fits d l).1 = true ↔ ∀ k r : Nat, k < d.hours.toNat → r < d.reaches.length → glit l r k ≤ (d.reaches.getD r default).cap ∧ lod d l r k ≤ (d.reaches.getD r default).bank) := by
  obtain ⟨h1, h2⟩ := loads_ok h.good
  unfold routing_Fits
  rw [(narrow_iff d l).2 h]
  simp only [bne_self_eq_false, cond_false]
  have hin : ∀ k, runI (routing_Fits_l1 d l k) d.reaches.length 0 () = .inr () ↔ ∀ r, r < d.reaches.length → glit l r k ≤ (d.reaches.getD r default).cap ∧ lod d l r k ≤ (d.reaches.getD r default).bank := fun k => by
    constructor
    · intro hr r hr1
      have := runI_unitG hr r (by omega) (by omega)
      unfold routing_Fits_l1 at this
      rw [h1, h2] at this
      by_cases q : glit l r k ≤ (d.reaches.getD r default).cap ∧ lod d l r k ≤ (d.reaches.getD r default).bank
      · exact q
      · have e : (decide (glit l r k > (d.reaches.getD r default).cap) || decide (lod d l r k > (d.reaches.getD r default).bank)) = true := by
          rw [Bool.or_eq_true, decide_eq_true_eq, decide_eq_true_eq]; omega
        rw [e] at this; cases this
    · intro hr
      obtain ⟨_, e, _⟩ := runI_J (step := routing_Fits_l1 d l k) (fun _ _ => True) d.reaches.length 0 () trivial fun r s _ hr1 _ => by
        have q := hr r (by omega)
        refine ⟨(), ?_, trivial⟩
        unfold routing_Fits_l1
        rw [h1, h2]
        have e : (decide (glit l r k > (d.reaches.getD r default).cap) || decide (lod d l r k > (d.reaches.getD r default).bank)) = false := by
          rw [Bool.or_eq_false_iff, decide_eq_false_iff_not, decide_eq_false_iff_not]; omega
        rw [e]; rfl
      exact e
  have hout : runI (routing_Fits_l0 d l) d.hours.toNat 0 () = .inr () ↔ ∀ k r : Nat, k < d.hours.toNat → r < d.reaches.length → glit l r k ≤ (d.reaches.getD r default).cap ∧ lod d l r k ≤ (d.reaches.getD r default).bank := by
    constructor
    · intro hr k r hk hr1
      have := runI_unitG hr k (by omega) (by omega)
      unfold routing_Fits_l0 at this
      cases hq : runI (routing_Fits_l1 d l k) d.reaches.length 0 () with
      | inl y => rw [hq] at this; cases this
      | inr y => exact (hin k).1 hq r hr1
    · intro hr
      obtain ⟨_, e, _⟩ := runI_J (step := routing_Fits_l0 d l) (fun _ _ => True) d.hours.toNat 0 () trivial fun k s _ hk _ => by
        refine ⟨(), ?_, trivial⟩
        unfold routing_Fits_l0
        rw [(hin k).2 fun r hr1 => hr k r (by omega) hr1]
      exact e
  cases hq : runI (routing_Fits_l0 d l) d.hours.toNat 0 () with
  | inl y =>
    refine ⟨rfl, fun e => (by cases e), fun e => ?_⟩
    rw [hout.2 e] at hq; cases hq
  | inr y => exact ⟨rfl, fun _ => hout.1 hq, fun _ => rfl⟩
end Go.Sx
end
section
namespace Go.Sx
universe u
section
variable {α : Type u}
def pV (k : Int → List SV → Option α) : List SV → Option α
  | .v (.int .u8 n) :: r => k n r
  | _ => none
@[go_sem] theorem pV_cons {k : Int → List SV → Option α} {n : Int} {r : List SV} : pV k (.v (.int .u8 n) :: r) = k n r := (rfl)
def pW (k : Int → List SV → Option α) : List SV → Option α
  | .v (.int .u16 n) :: r => k n r
  | _ => none
@[go_sem] theorem pW_cons {k : Int → List SV → Option α} {n : Int} {r : List SV} : pW k (.v (.int .u16 n) :: r) = k n r := (rfl)
theorem pW_inv {k : Int → List SV → Option α} {l : List SV} {c : α} (h : pW k l = some c) : ∃ n r, l = .v (.int .u16 n) :: r ∧ k n r = some c := by
  unfold pW at h
  split at h
  · exact ⟨_, _, rfl, h⟩
  · cases h
theorem pW_all {G : List SV → α → Prop} {k : Int → List SV → Option α} (h : ∀ n l c, k n l = some c → G (.v (.int .u16 n) :: l) c) : ∀ l c, pW k l = some c → G l c := fun l c hc => by
  obtain ⟨n, r, rfl, h1⟩ := pW_inv hc; exact h n r c h1
end
end Go.Sx
end
section
namespace Go.Sx
open Go.Proofs
set_option maxRecDepth 100000
set_option linter.unusedSimpArgs false
theorem crSxR9_0 {p : Prop} (h : p := by (first | done | (repeat' (first | with_reducible refine And.intro ?_ ?_ | ((with_reducible show _ ≠ _); first | assumption | omega | (simp_all [outR, outL]; done) | grind) | with_reducible intro _)) <;> (first | done | exact Empty.elim ‹Empty› | assumption | rfl | omega | decide | exact fk [0, 1, 2, 3, 4, 5, 6, 7, 8, 9, 10] | (simp only [*, cond_true, cond_false, Bool.not_true, Bool.not_false, go_sem, Nat.reduceBEq, Nat.reduceLeDiff, Nat.reduceLT, decide_true, Nat.reduceAdd, Nat.reduceSub, Nat.reduceMul, Int.reduceLE, Int.reduceLT, Int.reduceToNat, Int.reduceNeg, reduceCtorEq]; done) | (simp only [*, cond_true, cond_false, Bool.not_true, Bool.not_false, go_sem, Nat.reduceBEq, Nat.reduceLeDiff, Nat.reduceLT, decide_true, Nat.reduceAdd, Nat.reduceSub, Nat.reduceMul, Int.reduceLE, Int.reduceLT, Int.reduceToNat, Int.reduceNeg, reduceCtorEq]; (repeat' (first | with_reducible refine And.intro ?_ ?_ | ((with_reducible show _ ≠ _); first | assumption | omega | (simp_all [outR, outL]; done) | grind) | with_reducible intro _)) <;> (first | done | assumption | rfl | omega | decide | exact fk [0, 1, 2, 3, 4, 5, 6, 7, 8, 9, 10] | (simp_all [outR, outL]; done))) | (simp_all [okI, outR, outL]; done) | (simp_all [outR, outL]; (first | done | exact fk2 [0, 1, 2, 3, 4, 5, 6, 7, 8, 9, 10])) | exact fk2 [0, 1, 2, 3, 4, 5, 6, 7, 8, 9, 10]))) : p := h
theorem crSxR9_1 {p : Prop} (h : p := by (first | done | (repeat' (first | with_reducible refine And.intro ?_ ?_ | ((with_reducible show _ ≠ _); first | assumption | omega | (simp_all [outR, outL]; done) | grind) | with_reducible intro _)) <;> (first | done | exact Empty.elim ‹Empty› | assumption | rfl | omega | decide | exact fk [0, 1, 2, 3, 4, 5, 6, 7] | (simp only [*, cond_true, cond_false, Bool.not_true, Bool.not_false, go_sem, Nat.reduceBEq, Nat.reduceLeDiff, Nat.reduceLT, decide_true, Nat.reduceAdd, Nat.reduceSub, Nat.reduceMul, Int.reduceLE, Int.reduceLT, Int.reduceToNat, Int.reduceNeg, reduceCtorEq]; done) | (simp only [*, cond_true, cond_false, Bool.not_true, Bool.not_false, go_sem, Nat.reduceBEq, Nat.reduceLeDiff, Nat.reduceLT, decide_true, Nat.reduceAdd, Nat.reduceSub, Nat.reduceMul, Int.reduceLE, Int.reduceLT, Int.reduceToNat, Int.reduceNeg, reduceCtorEq]; (repeat' (first | with_reducible refine And.intro ?_ ?_ | ((with_reducible show _ ≠ _); first | assumption | omega | (simp_all [outR, outL]; done) | grind) | with_reducible intro _)) <;> (first | done | assumption | rfl | omega | decide | exact fk [0, 1, 2, 3, 4, 5, 6, 7] | (simp_all [outR, outL]; done))) | (simp_all [okI, outR, outL]; done) | (simp_all [outR, outL]; (first | done | exact fk2 [0, 1, 2, 3, 4, 5, 6, 7])) | exact fk2 [0, 1, 2, 3, 4, 5, 6, 7]))) : p := h
@[go_sem] def law22_RoutingFewer_l0 (a0 : District) (a1 : List Order) (a2 : Int) (a3 : Int) (k_0 : Acequialaw22Place × Int) (s_0 : Unit) : Unit ⊕ Unit := (bif (decide ((mgetT .acequialaw22Place .int (law22_gates ((routing_Plan a0 a1).1)) k_0.1) < k_0.2)) then .inl () else .inr ())
def law22_RoutingFewer_l0_p (a0 : District) (a1 : List Order) (a2 : Int) (a3 : Int) (k_0 : Acequialaw22Place × Int) (s_0 : Unit) : Prop := True
@[go_sem] def law22_RoutingFewer_l1 (a0 : District) (a1 : List Order) (a2 : Int) (k_1 : Acequialaw22Place × Int) (s_1 : Unit) : Unit ⊕ Unit := (bif (decide ((mgetT .acequialaw22Place .int (law22_gates ((routing_Plan a0 a1).1)) k_1.1) < k_1.2)) then .inl () else .inr ())
def law22_RoutingFewer_l1_p (a0 : District) (a1 : List Order) (a2 : Int) (k_1 : Acequialaw22Place × Int) (s_1 : Unit) : Prop := True
def law22_RoutingFewer (a0 : District) (a1 : List Order) (a2 : Int) (a3 : Int) : Bool := (bif (!law22_sane) then false else (bif ((!(ref22_Few a0 a1)) || ((a1.length : Int) == 0)) then true else (bif (((routing_Plan a0 a1).2.2 != 0) || (!(routing_Plan a0 a1).2.1)) then true else (bif ((decide (a3 > 0)) && (decide (a3 < (a1.getD (Int.toNat (Int.tmod (IntKind.i64.wrap a2) (a1.length : Int))) (default : Order)).litres))) then (bif (((routing_Plan a0 (((([]) ++ ((a1.take (Int.toNat (Int.tmod (IntKind.i64.wrap a2) (a1.length : Int)))).drop 0)) ++ ([({ hour := (a1.getD (Int.toNat (Int.tmod (IntKind.i64.wrap a2) (a1.length : Int))) (default : Order)).hour, index := (a1.getD (Int.toNat (Int.tmod (IntKind.i64.wrap a2) (a1.length : Int))) (default : Order)).index, litres := (IntKind.i64.wrap ((a1.getD (Int.toNat (Int.tmod (IntKind.i64.wrap a2) (a1.length : Int))) (default : Order)).litres - a3)), outlet := (a1.getD (Int.toNat (Int.tmod (IntKind.i64.wrap a2) (a1.length : Int))) (default : Order)).outlet } : Order)])) ++ ((a1.take (Int.toNat (a1.length : Int))).drop (Int.toNat (IntKind.i64.wrap ((Int.tmod (IntKind.i64.wrap a2) (a1.length : Int)) + 1)))))).2.2 != 0) || (!(routing_Plan a0 (((([]) ++ ((a1.take (Int.toNat (Int.tmod (IntKind.i64.wrap a2) (a1.length : Int)))).drop 0)) ++ ([({ hour := (a1.getD (Int.toNat (Int.tmod (IntKind.i64.wrap a2) (a1.length : Int))) (default : Order)).hour, index := (a1.getD (Int.toNat (Int.tmod (IntKind.i64.wrap a2) (a1.length : Int))) (default : Order)).index, litres := (IntKind.i64.wrap ((a1.getD (Int.toNat (Int.tmod (IntKind.i64.wrap a2) (a1.length : Int))) (default : Order)).litres - a3)), outlet := (a1.getD (Int.toNat (Int.tmod (IntKind.i64.wrap a2) (a1.length : Int))) (default : Order)).outlet } : Order)])) ++ ((a1.take (Int.toNat (a1.length : Int))).drop (Int.toNat (IntKind.i64.wrap ((Int.tmod (IntKind.i64.wrap a2) (a1.length : Int)) + 1)))))).2.1)) then false else (match runL (law22_RoutingFewer_l0 a0 a1 a2 a3) (law22_gates ((routing_Plan a0 (((([]) ++ ((a1.take (Int.toNat (Int.tmod (IntKind.i64.wrap a2) (a1.length : Int)))).drop 0)) ++ ([({ hour := (a1.getD (Int.toNat (Int.tmod (IntKind.i64.wrap a2) (a1.length : Int))) (default : Order)).hour, index := (a1.getD (Int.toNat (Int.tmod (IntKind.i64.wrap a2) (a1.length : Int))) (default : Order)).index, litres := (IntKind.i64.wrap ((a1.getD (Int.toNat (Int.tmod (IntKind.i64.wrap a2) (a1.length : Int))) (default : Order)).litres - a3)), outlet := (a1.getD (Int.toNat (Int.tmod (IntKind.i64.wrap a2) (a1.length : Int))) (default : Order)).outlet } : Order)])) ++ ((a1.take (Int.toNat (a1.length : Int))).drop (Int.toNat (IntKind.i64.wrap ((Int.tmod (IntKind.i64.wrap a2) (a1.length : Int)) + 1)))))).1)) () with | .inl x_0_0 => false | .inr s_0 => ((((routing_Fits a0 ((routing_Plan a0 a1).1)).2.2.2 == 0) && ((routing_Fits a0 ((routing_Plan a0 (((([]) ++ ((a1.take (Int.toNat (Int.tmod (IntKind.i64.wrap a2) (a1.length : Int)))).drop 0)) ++ ([({ hour := (a1.getD (Int.toNat (Int.tmod (IntKind.i64.wrap a2) (a1.length : Int))) (default : Order)).hour, index := (a1.getD (Int.toNat (Int.tmod (IntKind.i64.wrap a2) (a1.length : Int))) (default : Order)).index, litres := (IntKind.i64.wrap ((a1.getD (Int.toNat (Int.tmod (IntKind.i64.wrap a2) (a1.length : Int))) (default : Order)).litres - a3)), outlet := (a1.getD (Int.toNat (Int.tmod (IntKind.i64.wrap a2) (a1.length : Int))) (default : Order)).outlet } : Order)])) ++ ((a1.take (Int.toNat (a1.length : Int))).drop (Int.toNat (IntKind.i64.wrap ((Int.tmod (IntKind.i64.wrap a2) (a1.length : Int)) + 1)))))).1)).2.2.2 == 0)) && ((!(routing_Fits a0 ((routing_Plan a0 a1).1)).1) || (routing_Fits a0 ((routing_Plan a0 (((([]) ++ ((a1.take (Int.toNat (Int.tmod (IntKind.i64.wrap a2) (a1.length : Int)))).drop 0)) ++ ([({ hour := (a1.getD (Int.toNat (Int.tmod (IntKind.i64.wrap a2) (a1.length : Int))) (default : Order)).hour, index := (a1.getD (Int.toNat (Int.tmod (IntKind.i64.wrap a2) (a1.length : Int))) (default : Order)).index, litres := (IntKind.i64.wrap ((a1.getD (Int.toNat (Int.tmod (IntKind.i64.wrap a2) (a1.length : Int))) (default : Order)).litres - a3)), outlet := (a1.getD (Int.toNat (Int.tmod (IntKind.i64.wrap a2) (a1.length : Int))) (default : Order)).outlet } : Order)])) ++ ((a1.take (Int.toNat (a1.length : Int))).drop (Int.toNat (IntKind.i64.wrap ((Int.tmod (IntKind.i64.wrap a2) (a1.length : Int)) + 1)))))).1)).1)))) else (bif (((routing_Plan a0 ((([]) ++ ((a1.take (Int.toNat (Int.tmod (IntKind.i64.wrap a2) (a1.length : Int)))).drop 0)) ++ ((a1.take (Int.toNat (a1.length : Int))).drop (Int.toNat (IntKind.i64.wrap ((Int.tmod (IntKind.i64.wrap a2) (a1.length : Int)) + 1)))))).2.2 != 0) || (!(routing_Plan a0 ((([]) ++ ((a1.take (Int.toNat (Int.tmod (IntKind.i64.wrap a2) (a1.length : Int)))).drop 0)) ++ ((a1.take (Int.toNat (a1.length : Int))).drop (Int.toNat (IntKind.i64.wrap ((Int.tmod (IntKind.i64.wrap a2) (a1.length : Int)) + 1)))))).2.1)) then false else (match runL (law22_RoutingFewer_l1 a0 a1 a2) (law22_gates ((routing_Plan a0 ((([]) ++ ((a1.take (Int.toNat (Int.tmod (IntKind.i64.wrap a2) (a1.length : Int)))).drop 0)) ++ ((a1.take (Int.toNat (a1.length : Int))).drop (Int.toNat (IntKind.i64.wrap ((Int.tmod (IntKind.i64.wrap a2) (a1.length : Int)) + 1)))))).1)) () with | .inl x_1_0 => false | .inr s_1 => ((((routing_Fits a0 ((routing_Plan a0 a1).1)).2.2.2 == 0) && ((routing_Fits a0 ((routing_Plan a0 ((([]) ++ ((a1.take (Int.toNat (Int.tmod (IntKind.i64.wrap a2) (a1.length : Int)))).drop 0)) ++ ((a1.take (Int.toNat (a1.length : Int))).drop (Int.toNat (IntKind.i64.wrap ((Int.tmod (IntKind.i64.wrap a2) (a1.length : Int)) + 1)))))).1)).2.2.2 == 0)) && ((!(routing_Fits a0 ((routing_Plan a0 a1).1)).1) || (routing_Fits a0 ((routing_Plan a0 ((([]) ++ ((a1.take (Int.toNat (Int.tmod (IntKind.i64.wrap a2) (a1.length : Int)))).drop 0)) ++ ((a1.take (Int.toNat (a1.length : Int))).drop (Int.toNat (IntKind.i64.wrap ((Int.tmod (IntKind.i64.wrap a2) (a1.length : Int)) + 1)))))).1)).1))))))))
def law22_RoutingFewer_p (a0 : District) (a1 : List Order) (a2 : Int) (a3 : Int) : Prop := ((law22_sane_p) ∧ ((!law22_sane) = false → (((!(ref22_Few a0 a1)) || ((a1.length : Int) == 0)) = false → ((routing_Plan_p a0 a1) ∧ ((((routing_Plan a0 a1).2.2 != 0) || (!(routing_Plan a0 a1).2.1)) = false → (a1.length ≤ maxL → ((a1.length : Int) ≠ 0 ∧ ((0 ≤ 0 ∧ 0 ≤ (Int.tmod (IntKind.i64.wrap a2) (a1.length : Int)) ∧ (Int.tmod (IntKind.i64.wrap a2) (a1.length : Int)) ≤ (a1.length : Int)) ∧ (((([]) ++ ((a1.take (Int.toNat (Int.tmod (IntKind.i64.wrap a2) (a1.length : Int)))).drop 0)).length * 32 ≤ maxB) ∧ ((([]) ++ ((a1.take (Int.toNat (Int.tmod (IntKind.i64.wrap a2) (a1.length : Int)))).drop 0)).length ≤ maxL → (((decide (a3 > 0)) = true → (0 ≤ (Int.tmod (IntKind.i64.wrap a2) (a1.length : Int)) ∧ (Int.tmod (IntKind.i64.wrap a2) (a1.length : Int)) < (a1.length : Int))) ∧ ((((decide (a3 > 0)) && (decide (a3 < (a1.getD (Int.toNat (Int.tmod (IntKind.i64.wrap a2) (a1.length : Int))) (default : Order)).litres))) = true → ((0 ≤ (Int.tmod (IntKind.i64.wrap a2) (a1.length : Int)) ∧ (Int.tmod (IntKind.i64.wrap a2) (a1.length : Int)) < (a1.length : Int)) ∧ ((((([]) ++ ((a1.take (Int.toNat (Int.tmod (IntKind.i64.wrap a2) (a1.length : Int)))).drop 0)) ++ ([({ hour := (a1.getD (Int.toNat (Int.tmod (IntKind.i64.wrap a2) (a1.length : Int))) (default : Order)).hour, index := (a1.getD (Int.toNat (Int.tmod (IntKind.i64.wrap a2) (a1.length : Int))) (default : Order)).index, litres := (IntKind.i64.wrap ((a1.getD (Int.toNat (Int.tmod (IntKind.i64.wrap a2) (a1.length : Int))) (default : Order)).litres - a3)), outlet := (a1.getD (Int.toNat (Int.tmod (IntKind.i64.wrap a2) (a1.length : Int))) (default : Order)).outlet } : Order)])).length * 32 ≤ maxB) ∧ (((([]) ++ ((a1.take (Int.toNat (Int.tmod (IntKind.i64.wrap a2) (a1.length : Int)))).drop 0)) ++ ([({ hour := (a1.getD (Int.toNat (Int.tmod (IntKind.i64.wrap a2) (a1.length : Int))) (default : Order)).hour, index := (a1.getD (Int.toNat (Int.tmod (IntKind.i64.wrap a2) (a1.length : Int))) (default : Order)).index, litres := (IntKind.i64.wrap ((a1.getD (Int.toNat (Int.tmod (IntKind.i64.wrap a2) (a1.length : Int))) (default : Order)).litres - a3)), outlet := (a1.getD (Int.toNat (Int.tmod (IntKind.i64.wrap a2) (a1.length : Int))) (default : Order)).outlet } : Order)])).length ≤ maxL → ((0 ≤ (IntKind.i64.wrap ((Int.tmod (IntKind.i64.wrap a2) (a1.length : Int)) + 1)) ∧ (IntKind.i64.wrap ((Int.tmod (IntKind.i64.wrap a2) (a1.length : Int)) + 1)) ≤ (a1.length : Int) ∧ (a1.length : Int) ≤ (a1.length : Int)) ∧ (((((([]) ++ ((a1.take (Int.toNat (Int.tmod (IntKind.i64.wrap a2) (a1.length : Int)))).drop 0)) ++ ([({ hour := (a1.getD (Int.toNat (Int.tmod (IntKind.i64.wrap a2) (a1.length : Int))) (default : Order)).hour, index := (a1.getD (Int.toNat (Int.tmod (IntKind.i64.wrap a2) (a1.length : Int))) (default : Order)).index, litres := (IntKind.i64.wrap ((a1.getD (Int.toNat (Int.tmod (IntKind.i64.wrap a2) (a1.length : Int))) (default : Order)).litres - a3)), outlet := (a1.getD (Int.toNat (Int.tmod (IntKind.i64.wrap a2) (a1.length : Int))) (default : Order)).outlet } : Order)])) ++ ((a1.take (Int.toNat (a1.length : Int))).drop (Int.toNat (IntKind.i64.wrap ((Int.tmod (IntKind.i64.wrap a2) (a1.length : Int)) + 1))))).length * 32 ≤ maxB) ∧ ((((([]) ++ ((a1.take (Int.toNat (Int.tmod (IntKind.i64.wrap a2) (a1.length : Int)))).drop 0)) ++ ([({ hour := (a1.getD (Int.toNat (Int.tmod (IntKind.i64.wrap a2) (a1.length : Int))) (default : Order)).hour, index := (a1.getD (Int.toNat (Int.tmod (IntKind.i64.wrap a2) (a1.length : Int))) (default : Order)).index, litres := (IntKind.i64.wrap ((a1.getD (Int.toNat (Int.tmod (IntKind.i64.wrap a2) (a1.length : Int))) (default : Order)).litres - a3)), outlet := (a1.getD (Int.toNat (Int.tmod (IntKind.i64.wrap a2) (a1.length : Int))) (default : Order)).outlet } : Order)])) ++ ((a1.take (Int.toNat (a1.length : Int))).drop (Int.toNat (IntKind.i64.wrap ((Int.tmod (IntKind.i64.wrap a2) (a1.length : Int)) + 1))))).length ≤ maxL → ((routing_Plan_p a0 (((([]) ++ ((a1.take (Int.toNat (Int.tmod (IntKind.i64.wrap a2) (a1.length : Int)))).drop 0)) ++ ([({ hour := (a1.getD (Int.toNat (Int.tmod (IntKind.i64.wrap a2) (a1.length : Int))) (default : Order)).hour, index := (a1.getD (Int.toNat (Int.tmod (IntKind.i64.wrap a2) (a1.length : Int))) (default : Order)).index, litres := (IntKind.i64.wrap ((a1.getD (Int.toNat (Int.tmod (IntKind.i64.wrap a2) (a1.length : Int))) (default : Order)).litres - a3)), outlet := (a1.getD (Int.toNat (Int.tmod (IntKind.i64.wrap a2) (a1.length : Int))) (default : Order)).outlet } : Order)])) ++ ((a1.take (Int.toNat (a1.length : Int))).drop (Int.toNat (IntKind.i64.wrap ((Int.tmod (IntKind.i64.wrap a2) (a1.length : Int)) + 1)))))) ∧ ((((routing_Plan a0 (((([]) ++ ((a1.take (Int.toNat (Int.tmod (IntKind.i64.wrap a2) (a1.length : Int)))).drop 0)) ++ ([({ hour := (a1.getD (Int.toNat (Int.tmod (IntKind.i64.wrap a2) (a1.length : Int))) (default : Order)).hour, index := (a1.getD (Int.toNat (Int.tmod (IntKind.i64.wrap a2) (a1.length : Int))) (default : Order)).index, litres := (IntKind.i64.wrap ((a1.getD (Int.toNat (Int.tmod (IntKind.i64.wrap a2) (a1.length : Int))) (default : Order)).litres - a3)), outlet := (a1.getD (Int.toNat (Int.tmod (IntKind.i64.wrap a2) (a1.length : Int))) (default : Order)).outlet } : Order)])) ++ ((a1.take (Int.toNat (a1.length : Int))).drop (Int.toNat (IntKind.i64.wrap ((Int.tmod (IntKind.i64.wrap a2) (a1.length : Int)) + 1)))))).2.2 != 0) || (!(routing_Plan a0 (((([]) ++ ((a1.take (Int.toNat (Int.tmod (IntKind.i64.wrap a2) (a1.length : Int)))).drop 0)) ++ ([({ hour := (a1.getD (Int.toNat (Int.tmod (IntKind.i64.wrap a2) (a1.length : Int))) (default : Order)).hour, index := (a1.getD (Int.toNat (Int.tmod (IntKind.i64.wrap a2) (a1.length : Int))) (default : Order)).index, litres := (IntKind.i64.wrap ((a1.getD (Int.toNat (Int.tmod (IntKind.i64.wrap a2) (a1.length : Int))) (default : Order)).litres - a3)), outlet := (a1.getD (Int.toNat (Int.tmod (IntKind.i64.wrap a2) (a1.length : Int))) (default : Order)).outlet } : Order)])) ++ ((a1.take (Int.toNat (a1.length : Int))).drop (Int.toNat (IntKind.i64.wrap ((Int.tmod (IntKind.i64.wrap a2) (a1.length : Int)) + 1)))))).2.1)) = false → (okM (law22_RoutingFewer_l0 a0 a1 a2 a3) (law22_RoutingFewer_l0_p a0 a1 a2 a3) (law22_gates ((routing_Plan a0 (((([]) ++ ((a1.take (Int.toNat (Int.tmod (IntKind.i64.wrap a2) (a1.length : Int)))).drop 0)) ++ ([({ hour := (a1.getD (Int.toNat (Int.tmod (IntKind.i64.wrap a2) (a1.length : Int))) (default : Order)).hour, index := (a1.getD (Int.toNat (Int.tmod (IntKind.i64.wrap a2) (a1.length : Int))) (default : Order)).index, litres := (IntKind.i64.wrap ((a1.getD (Int.toNat (Int.tmod (IntKind.i64.wrap a2) (a1.length : Int))) (default : Order)).litres - a3)), outlet := (a1.getD (Int.toNat (Int.tmod (IntKind.i64.wrap a2) (a1.length : Int))) (default : Order)).outlet } : Order)])) ++ ((a1.take (Int.toNat (a1.length : Int))).drop (Int.toNat (IntKind.i64.wrap ((Int.tmod (IntKind.i64.wrap a2) (a1.length : Int)) + 1)))))).1)) () ∧ (∀ s_0, runL (law22_RoutingFewer_l0 a0 a1 a2 a3) (law22_gates ((routing_Plan a0 (((([]) ++ ((a1.take (Int.toNat (Int.tmod (IntKind.i64.wrap a2) (a1.length : Int)))).drop 0)) ++ ([({ hour := (a1.getD (Int.toNat (Int.tmod (IntKind.i64.wrap a2) (a1.length : Int))) (default : Order)).hour, index := (a1.getD (Int.toNat (Int.tmod (IntKind.i64.wrap a2) (a1.length : Int))) (default : Order)).index, litres := (IntKind.i64.wrap ((a1.getD (Int.toNat (Int.tmod (IntKind.i64.wrap a2) (a1.length : Int))) (default : Order)).litres - a3)), outlet := (a1.getD (Int.toNat (Int.tmod (IntKind.i64.wrap a2) (a1.length : Int))) (default : Order)).outlet } : Order)])) ++ ((a1.take (Int.toNat (a1.length : Int))).drop (Int.toNat (IntKind.i64.wrap ((Int.tmod (IntKind.i64.wrap a2) (a1.length : Int)) + 1)))))).1)) () = .inr s_0 → ((routing_Fits_p a0 ((routing_Plan a0 a1).1)) ∧ (routing_Fits_p a0 ((routing_Plan a0 (((([]) ++ ((a1.take (Int.toNat (Int.tmod (IntKind.i64.wrap a2) (a1.length : Int)))).drop 0)) ++ ([({ hour := (a1.getD (Int.toNat (Int.tmod (IntKind.i64.wrap a2) (a1.length : Int))) (default : Order)).hour, index := (a1.getD (Int.toNat (Int.tmod (IntKind.i64.wrap a2) (a1.length : Int))) (default : Order)).index, litres := (IntKind.i64.wrap ((a1.getD (Int.toNat (Int.tmod (IntKind.i64.wrap a2) (a1.length : Int))) (default : Order)).litres - a3)), outlet := (a1.getD (Int.toNat (Int.tmod (IntKind.i64.wrap a2) (a1.length : Int))) (default : Order)).outlet } : Order)])) ++ ((a1.take (Int.toNat (a1.length : Int))).drop (Int.toNat (IntKind.i64.wrap ((Int.tmod (IntKind.i64.wrap a2) (a1.length : Int)) + 1)))))).1)))))))))))))) ∧ (((decide (a3 > 0)) && (decide (a3 < (a1.getD (Int.toNat (Int.tmod (IntKind.i64.wrap a2) (a1.length : Int))) (default : Order)).litres))) = false → ((0 ≤ (IntKind.i64.wrap ((Int.tmod (IntKind.i64.wrap a2) (a1.length : Int)) + 1)) ∧ (IntKind.i64.wrap ((Int.tmod (IntKind.i64.wrap a2) (a1.length : Int)) + 1)) ≤ (a1.length : Int) ∧ (a1.length : Int) ≤ (a1.length : Int)) ∧ ((((([]) ++ ((a1.take (Int.toNat (Int.tmod (IntKind.i64.wrap a2) (a1.length : Int)))).drop 0)) ++ ((a1.take (Int.toNat (a1.length : Int))).drop (Int.toNat (IntKind.i64.wrap ((Int.tmod (IntKind.i64.wrap a2) (a1.length : Int)) + 1))))).length * 32 ≤ maxB) ∧ (((([]) ++ ((a1.take (Int.toNat (Int.tmod (IntKind.i64.wrap a2) (a1.length : Int)))).drop 0)) ++ ((a1.take (Int.toNat (a1.length : Int))).drop (Int.toNat (IntKind.i64.wrap ((Int.tmod (IntKind.i64.wrap a2) (a1.length : Int)) + 1))))).length ≤ maxL → ((routing_Plan_p a0 ((([]) ++ ((a1.take (Int.toNat (Int.tmod (IntKind.i64.wrap a2) (a1.length : Int)))).drop 0)) ++ ((a1.take (Int.toNat (a1.length : Int))).drop (Int.toNat (IntKind.i64.wrap ((Int.tmod (IntKind.i64.wrap a2) (a1.length : Int)) + 1)))))) ∧ ((((routing_Plan a0 ((([]) ++ ((a1.take (Int.toNat (Int.tmod (IntKind.i64.wrap a2) (a1.length : Int)))).drop 0)) ++ ((a1.take (Int.toNat (a1.length : Int))).drop (Int.toNat (IntKind.i64.wrap ((Int.tmod (IntKind.i64.wrap a2) (a1.length : Int)) + 1)))))).2.2 != 0) || (!(routing_Plan a0 ((([]) ++ ((a1.take (Int.toNat (Int.tmod (IntKind.i64.wrap a2) (a1.length : Int)))).drop 0)) ++ ((a1.take (Int.toNat (a1.length : Int))).drop (Int.toNat (IntKind.i64.wrap ((Int.tmod (IntKind.i64.wrap a2) (a1.length : Int)) + 1)))))).2.1)) = false → (okM (law22_RoutingFewer_l1 a0 a1 a2) (law22_RoutingFewer_l1_p a0 a1 a2) (law22_gates ((routing_Plan a0 ((([]) ++ ((a1.take (Int.toNat (Int.tmod (IntKind.i64.wrap a2) (a1.length : Int)))).drop 0)) ++ ((a1.take (Int.toNat (a1.length : Int))).drop (Int.toNat (IntKind.i64.wrap ((Int.tmod (IntKind.i64.wrap a2) (a1.length : Int)) + 1)))))).1)) () ∧ (∀ s_1, runL (law22_RoutingFewer_l1 a0 a1 a2) (law22_gates ((routing_Plan a0 ((([]) ++ ((a1.take (Int.toNat (Int.tmod (IntKind.i64.wrap a2) (a1.length : Int)))).drop 0)) ++ ((a1.take (Int.toNat (a1.length : Int))).drop (Int.toNat (IntKind.i64.wrap ((Int.tmod (IntKind.i64.wrap a2) (a1.length : Int)) + 1)))))).1)) () = .inr s_1 → ((routing_Fits_p a0 ((routing_Plan a0 a1).1)) ∧ (routing_Fits_p a0 ((routing_Plan a0 ((([]) ++ ((a1.take (Int.toNat (Int.tmod (IntKind.i64.wrap a2) (a1.length : Int)))).drop 0)) ++ ((a1.take (Int.toNat (a1.length : Int))).drop (Int.toNat (IntKind.i64.wrap ((Int.tmod (IntKind.i64.wrap a2) (a1.length : Int)) + 1)))))).1)))))))))))))))))))))))
@[go_sem] def C_law22_RoutingFewer : List SV → Option Con := (pD .district fun a0 => (pR .order fun a1 => (pW fun a2 => (pI fun a3 => (pE (.det (law22_RoutingFewer_p a0 a1 a2 a3) (.v (.bool (law22_RoutingFewer a0 a1 a2 a3)))))))))
set_option maxHeartbeats 4000000 in
theorem ok_law22_RoutingFewer : FnOk Try.prog 4 C_law22_RoutingFewer := by
  have hG : ConsOk Try.prog (mkG [(7, C_law22_sane), (8, fun l => C_ref22_Few (nrmA [.st .district, .sl .order] l)), (9, fun l => C_routing_Plan (nrmA [.st .district, .sl .order] l)), (14, fun l => C_law22_gates (nrmA [.sl .order] l)), (15, fun l => C_routing_Fits (nrmA [.st .district, .sl .order] l))] []) := mkG_ok (cgc ok_law22_sane (cgc (ok_ref22_Few.norm [.st .district, .sl .order]) (cgc (ok_routing_Plan.norm [.st .district, .sl .order]) (cgc (ok_law22_gates.norm [.sl .order]) (cgc (ok_routing_Fits.norm [.st .district, .sl .order]) cg0))))) cg0
  refine fn_okN [.o] mixed ts_ok hG (fn := Try.f4) (c := bodyOf Try.f4) (by kernel_rfl) (by kernel_rfl) (by kernel_rfl) (by kernel_rfl) (pD_all fun a0 => (pR_all fun a1 => (pW_all fun a2 => (pI_all fun a3 => (pE_all (fun hp => ?_))))))
  dsimp only [conPre] at hp
  unfold law22_RoutingFewer_p at hp
  rcases Bool.eq_false_or_eq_true ((decide (a3 > 0)) && (decide (a3 < (a1.getD (Int.toNat (Int.tmod (IntKind.i64.wrap a2) (a1.length : Int))) (default : Order)).litres))) with hs0 | hs0
  · have hsp : True := trivial
    refine ⟨Nat.le_of_ble_eq_true rfl, (fun id st => bif Nat.beq id 0 then some (LCM (τ := Acequialaw22Place × Int) (ρ := Unit) (σ := Unit) 11 [] [0, 1, 2, 3, 4, 5, 6, 7, 8, 9, 10] (fun left_0 cur_0 s_0 => ⟨[(4, .ptr 0 0), (9, .os 1), (15, .os 7), (18, .os 8), (110, .ptr 10 0)], [.cells (cellsOf .district a0), .row .order ((routing_Plan a0 a1).1), .dead, .dead, .dead, .dead, .dead, .row .order ((routing_Plan a0 (((([]) ++ ((a1.take (Int.toNat (Int.tmod (IntKind.i64.wrap a2) (a1.length : Int)))).drop 0)) ++ ([({ hour := (a1.getD (Int.toNat (Int.tmod (IntKind.i64.wrap a2) (a1.length : Int))) (default : Order)).hour, index := (a1.getD (Int.toNat (Int.tmod (IntKind.i64.wrap a2) (a1.length : Int))) (default : Order)).index, litres := (IntKind.i64.wrap ((a1.getD (Int.toNat (Int.tmod (IntKind.i64.wrap a2) (a1.length : Int))) (default : Order)).litres - a3)), outlet := (a1.getD (Int.toNat (Int.tmod (IntKind.i64.wrap a2) (a1.length : Int))) (default : Order)).outlet } : Order)])) ++ ((a1.take (Int.toNat (a1.length : Int))).drop (Int.toNat (IntKind.i64.wrap ((Int.tmod (IntKind.i64.wrap a2) (a1.length : Int)) + 1)))))).1), .mp .acequialaw22Place .int (law22_gates ((routing_Plan a0 a1).1)) none, .mp .acequialaw22Place .int (law22_gates ((routing_Plan a0 (((([]) ++ ((a1.take (Int.toNat (Int.tmod (IntKind.i64.wrap a2) (a1.length : Int)))).drop 0)) ++ ([({ hour := (a1.getD (Int.toNat (Int.tmod (IntKind.i64.wrap a2) (a1.length : Int))) (default : Order)).hour, index := (a1.getD (Int.toNat (Int.tmod (IntKind.i64.wrap a2) (a1.length : Int))) (default : Order)).index, litres := (IntKind.i64.wrap ((a1.getD (Int.toNat (Int.tmod (IntKind.i64.wrap a2) (a1.length : Int))) (default : Order)).litres - a3)), outlet := (a1.getD (Int.toNat (Int.tmod (IntKind.i64.wrap a2) (a1.length : Int))) (default : Order)).outlet } : Order)])) ++ ((a1.take (Int.toNat (a1.length : Int))).drop (Int.toNat (IntKind.i64.wrap ((Int.tmod (IntKind.i64.wrap a2) (a1.length : Int)) + 1)))))).1)) none, .mi (some 9) ((law22_gates ((routing_Plan a0 (((([]) ++ ((a1.take (Int.toNat (Int.tmod (IntKind.i64.wrap a2) (a1.length : Int)))).drop 0)) ++ ([({ hour := (a1.getD (Int.toNat (Int.tmod (IntKind.i64.wrap a2) (a1.length : Int))) (default : Order)).hour, index := (a1.getD (Int.toNat (Int.tmod (IntKind.i64.wrap a2) (a1.length : Int))) (default : Order)).index, litres := (IntKind.i64.wrap ((a1.getD (Int.toNat (Int.tmod (IntKind.i64.wrap a2) (a1.length : Int))) (default : Order)).litres - a3)), outlet := (a1.getD (Int.toNat (Int.tmod (IntKind.i64.wrap a2) (a1.length : Int))) (default : Order)).outlet } : Order)])) ++ ((a1.take (Int.toNat (a1.length : Int))).drop (Int.toNat (IntKind.i64.wrap ((Int.tmod (IntKind.i64.wrap a2) (a1.length : Int)) + 1)))))).1)).length) left_0 cur_0]⟩) (law22_RoutingFewer_l0 a0 a1 a2 a3) (law22_RoutingFewer_l0_p a0 a1 a2 a3) (law22_gates ((routing_Plan a0 (((([]) ++ ((a1.take (Int.toNat (Int.tmod (IntKind.i64.wrap a2) (a1.length : Int)))).drop 0)) ++ ([({ hour := (a1.getD (Int.toNat (Int.tmod (IntKind.i64.wrap a2) (a1.length : Int))) (default : Order)).hour, index := (a1.getD (Int.toNat (Int.tmod (IntKind.i64.wrap a2) (a1.length : Int))) (default : Order)).index, litres := (IntKind.i64.wrap ((a1.getD (Int.toNat (Int.tmod (IntKind.i64.wrap a2) (a1.length : Int))) (default : Order)).litres - a3)), outlet := (a1.getD (Int.toNat (Int.tmod (IntKind.i64.wrap a2) (a1.length : Int))) (default : Order)).outlet } : Order)])) ++ ((a1.take (Int.toNat (a1.length : Int))).drop (Int.toNat (IntKind.i64.wrap ((Int.tmod (IntKind.i64.wrap a2) (a1.length : Int)) + 1)))))).1)) () (fun _ => .ret) (fun x_0_0 => ⟨[(8, .v (.bool false))], [.dead, .dead, .dead, .dead, .dead, .dead, .dead, .dead, .dead, .dead, .dead]⟩) (fun s_0 => ⟨[(4, .ptr 0 0), (9, .os 1), (15, .os 7)], [.cells (cellsOf .district a0), .row .order ((routing_Plan a0 a1).1), .dead, .dead, .dead, .dead, .dead, .row .order ((routing_Plan a0 (((([]) ++ ((a1.take (Int.toNat (Int.tmod (IntKind.i64.wrap a2) (a1.length : Int)))).drop 0)) ++ ([({ hour := (a1.getD (Int.toNat (Int.tmod (IntKind.i64.wrap a2) (a1.length : Int))) (default : Order)).hour, index := (a1.getD (Int.toNat (Int.tmod (IntKind.i64.wrap a2) (a1.length : Int))) (default : Order)).index, litres := (IntKind.i64.wrap ((a1.getD (Int.toNat (Int.tmod (IntKind.i64.wrap a2) (a1.length : Int))) (default : Order)).litres - a3)), outlet := (a1.getD (Int.toNat (Int.tmod (IntKind.i64.wrap a2) (a1.length : Int))) (default : Order)).outlet } : Order)])) ++ ((a1.take (Int.toNat (a1.length : Int))).drop (Int.toNat (IntKind.i64.wrap ((Int.tmod (IntKind.i64.wrap a2) (a1.length : Int)) + 1)))))).1), .dead, .dead, .dead]⟩) st) else none), ?_, ?_⟩
    · unfold bodyOf Try.f4
      simp only [loopsOk, true_and, and_true]
      · refine loopM_ok (dflt .acequialaw22Place, dflt .int) 10 mixed ts_ok hG (by kernel_rfl) (fun _ => rfl) fun left_0 cur_0 s_0 hp0 => ⟨L0, loopsOk0 _, ?_⟩
        · by_cases hl0 : left_0 = []
          · subst hl0
            simp only [go_sem, Nat.reduceBEq, Nat.reduceLeDiff, Nat.reduceLT, decide_true, Nat.reduceAdd, Nat.reduceSub, Nat.reduceMul, Int.reduceLE, Int.reduceLT, Int.reduceToNat, Int.reduceNeg, reduceCtorEq, hs0, List.not_mem_nil]
            all_goals exact crSxR9_0
          · simp only [go_sem, Nat.reduceBEq, Nat.reduceLeDiff, Nat.reduceLT, decide_true, Nat.reduceAdd, Nat.reduceSub, Nat.reduceMul, Int.reduceLE, Int.reduceLT, Int.reduceToNat, Int.reduceNeg, reduceCtorEq, hs0, hl0]
            intro j hj0
            obtain ⟨hlt0, hq0⟩ := hp0 j hj0
            unfold law22_RoutingFewer_l0_p at hq0
            all_goals exact crSxR9_0
    · unfold bodyOf Try.f4
      try unfold law22_RoutingFewer
      simp only [go_sem, Nat.reduceBEq, Nat.reduceLeDiff, Nat.reduceLT, decide_true, Nat.reduceAdd, Nat.reduceSub, Nat.reduceMul, Int.reduceLE, Int.reduceLT, Int.reduceToNat, Int.reduceNeg, reduceCtorEq, hs0]
      all_goals exact cl
  · have hsp : True := trivial
    refine ⟨Nat.le_of_ble_eq_true rfl, (fun id st => bif Nat.beq id 0 then some (LCM (τ := Acequialaw22Place × Int) (ρ := Unit) (σ := Unit) 8 [] [0, 1, 2, 3, 4, 5, 6, 7] (fun left_1 cur_1 s_1 => ⟨[(4, .ptr 0 0), (9, .os 1), (15, .os 4), (18, .os 5), (110, .ptr 7 0)], [.cells (cellsOf .district a0), .row .order ((routing_Plan a0 a1).1), .dead, .dead, .row .order ((routing_Plan a0 ((([]) ++ ((a1.take (Int.toNat (Int.tmod (IntKind.i64.wrap a2) (a1.length : Int)))).drop 0)) ++ ((a1.take (Int.toNat (a1.length : Int))).drop (Int.toNat (IntKind.i64.wrap ((Int.tmod (IntKind.i64.wrap a2) (a1.length : Int)) + 1)))))).1), .mp .acequialaw22Place .int (law22_gates ((routing_Plan a0 a1).1)) none, .mp .acequialaw22Place .int (law22_gates ((routing_Plan a0 ((([]) ++ ((a1.take (Int.toNat (Int.tmod (IntKind.i64.wrap a2) (a1.length : Int)))).drop 0)) ++ ((a1.take (Int.toNat (a1.length : Int))).drop (Int.toNat (IntKind.i64.wrap ((Int.tmod (IntKind.i64.wrap a2) (a1.length : Int)) + 1)))))).1)) none, .mi (some 6) ((law22_gates ((routing_Plan a0 ((([]) ++ ((a1.take (Int.toNat (Int.tmod (IntKind.i64.wrap a2) (a1.length : Int)))).drop 0)) ++ ((a1.take (Int.toNat (a1.length : Int))).drop (Int.toNat (IntKind.i64.wrap ((Int.tmod (IntKind.i64.wrap a2) (a1.length : Int)) + 1)))))).1)).length) left_1 cur_1]⟩) (law22_RoutingFewer_l1 a0 a1 a2) (law22_RoutingFewer_l1_p a0 a1 a2) (law22_gates ((routing_Plan a0 ((([]) ++ ((a1.take (Int.toNat (Int.tmod (IntKind.i64.wrap a2) (a1.length : Int)))).drop 0)) ++ ((a1.take (Int.toNat (a1.length : Int))).drop (Int.toNat (IntKind.i64.wrap ((Int.tmod (IntKind.i64.wrap a2) (a1.length : Int)) + 1)))))).1)) () (fun _ => .ret) (fun x_1_0 => ⟨[(8, .v (.bool false))], [.dead, .dead, .dead, .dead, .dead, .dead, .dead, .dead]⟩) (fun s_1 => ⟨[(4, .ptr 0 0), (9, .os 1), (15, .os 4)], [.cells (cellsOf .district a0), .row .order ((routing_Plan a0 a1).1), .dead, .dead, .row .order ((routing_Plan a0 ((([]) ++ ((a1.take (Int.toNat (Int.tmod (IntKind.i64.wrap a2) (a1.length : Int)))).drop 0)) ++ ((a1.take (Int.toNat (a1.length : Int))).drop (Int.toNat (IntKind.i64.wrap ((Int.tmod (IntKind.i64.wrap a2) (a1.length : Int)) + 1)))))).1), .dead, .dead, .dead]⟩) st) else none), ?_, ?_⟩
    · unfold bodyOf Try.f4
      simp only [loopsOk, true_and, and_true]
      · refine loopM_ok (dflt .acequialaw22Place, dflt .int) 7 mixed ts_ok hG (by kernel_rfl) (fun _ => rfl) fun left_1 cur_1 s_1 hp1 => ⟨L0, loopsOk0 _, ?_⟩
        · by_cases hl1 : left_1 = []
          · subst hl1
            simp only [go_sem, Nat.reduceBEq, Nat.reduceLeDiff, Nat.reduceLT, decide_true, Nat.reduceAdd, Nat.reduceSub, Nat.reduceMul, Int.reduceLE, Int.reduceLT, Int.reduceToNat, Int.reduceNeg, reduceCtorEq, hs0, List.not_mem_nil]
            all_goals exact crSxR9_1
          · simp only [go_sem, Nat.reduceBEq, Nat.reduceLeDiff, Nat.reduceLT, decide_true, Nat.reduceAdd, Nat.reduceSub, Nat.reduceMul, Int.reduceLE, Int.reduceLT, Int.reduceToNat, Int.reduceNeg, reduceCtorEq, hs0, hl1]
            intro j hj1
            obtain ⟨hlt1, hq1⟩ := hp1 j hj1
            unfold law22_RoutingFewer_l1_p at hq1
            all_goals exact crSxR9_1
    · unfold bodyOf Try.f4
      try unfold law22_RoutingFewer
      simp only [go_sem, Nat.reduceBEq, Nat.reduceLeDiff, Nat.reduceLT, decide_true, Nat.reduceAdd, Nat.reduceSub, Nat.reduceMul, Int.reduceLE, Int.reduceLT, Int.reduceToNat, Int.reduceNeg, reduceCtorEq, hs0]
      all_goals exact cl
@[go_sem] def law22_RoutingTogether_l0 (a1 : List Order) (a2 : List Int) (k_0 : Nat) (s_0 : List Order × List Order) : Empty ⊕ (List Order × List Order) := (bif (decide ((k_0 : Int) < (a2.length : Int))) then (bif (decide ((if (IntKind.i64.wrap (a2.getD k_0 (0 : Int))) < (a1.getD k_0 (default : Order)).litres then (IntKind.i64.wrap (a2.getD k_0 (0 : Int))) else (a1.getD k_0 (default : Order)).litres) > 0)) then (bif (decide ((if (IntKind.i64.wrap (a2.getD k_0 (0 : Int))) < (a1.getD k_0 (default : Order)).litres then (IntKind.i64.wrap (a2.getD k_0 (0 : Int))) else (a1.getD k_0 (default : Order)).litres) < (a1.getD k_0 (default : Order)).litres)) then .inr ((s_0.1 ++ ([({ hour := (a1.getD k_0 (default : Order)).hour, index := (a1.getD k_0 (default : Order)).index, litres := (if (IntKind.i64.wrap (a2.getD k_0 (0 : Int))) < (a1.getD k_0 (default : Order)).litres then (IntKind.i64.wrap (a2.getD k_0 (0 : Int))) else (a1.getD k_0 (default : Order)).litres), outlet := (a1.getD k_0 (default : Order)).outlet } : Order)])), (s_0.2 ++ ([({ hour := (a1.getD k_0 (default : Order)).hour, index := (a1.getD k_0 (default : Order)).index, litres := (IntKind.i64.wrap ((a1.getD k_0 (default : Order)).litres - (if (IntKind.i64.wrap (a2.getD k_0 (0 : Int))) < (a1.getD k_0 (default : Order)).litres then (IntKind.i64.wrap (a2.getD k_0 (0 : Int))) else (a1.getD k_0 (default : Order)).litres))), outlet := (a1.getD k_0 (default : Order)).outlet } : Order)]))) else .inr ((s_0.1 ++ ([({ hour := (a1.getD k_0 (default : Order)).hour, index := (a1.getD k_0 (default : Order)).index, litres := (if (IntKind.i64.wrap (a2.getD k_0 (0 : Int))) < (a1.getD k_0 (default : Order)).litres then (IntKind.i64.wrap (a2.getD k_0 (0 : Int))) else (a1.getD k_0 (default : Order)).litres), outlet := (a1.getD k_0 (default : Order)).outlet } : Order)])), s_0.2)) else (bif (decide ((if (IntKind.i64.wrap (a2.getD k_0 (0 : Int))) < (a1.getD k_0 (default : Order)).litres then (IntKind.i64.wrap (a2.getD k_0 (0 : Int))) else (a1.getD k_0 (default : Order)).litres) < (a1.getD k_0 (default : Order)).litres)) then .inr (s_0.1, (s_0.2 ++ ([({ hour := (a1.getD k_0 (default : Order)).hour, index := (a1.getD k_0 (default : Order)).index, litres := (IntKind.i64.wrap ((a1.getD k_0 (default : Order)).litres - (if (IntKind.i64.wrap (a2.getD k_0 (0 : Int))) < (a1.getD k_0 (default : Order)).litres then (IntKind.i64.wrap (a2.getD k_0 (0 : Int))) else (a1.getD k_0 (default : Order)).litres))), outlet := (a1.getD k_0 (default : Order)).outlet } : Order)]))) else .inr (s_0.1, s_0.2))) else (bif (decide ((a1.getD k_0 (default : Order)).litres > 0)) then (bif (decide ((a1.getD k_0 (default : Order)).litres < (a1.getD k_0 (default : Order)).litres)) then .inr ((s_0.1 ++ ([(a1.getD k_0 (default : Order))])), (s_0.2 ++ ([({ hour := (a1.getD k_0 (default : Order)).hour, index := (a1.getD k_0 (default : Order)).index, litres := (IntKind.i64.wrap ((a1.getD k_0 (default : Order)).litres - (a1.getD k_0 (default : Order)).litres)), outlet := (a1.getD k_0 (default : Order)).outlet } : Order)]))) else .inr ((s_0.1 ++ ([(a1.getD k_0 (default : Order))])), s_0.2)) else (bif (decide ((a1.getD k_0 (default : Order)).litres < (a1.getD k_0 (default : Order)).litres)) then .inr (s_0.1, (s_0.2 ++ ([({ hour := (a1.getD k_0 (default : Order)).hour, index := (a1.getD k_0 (default : Order)).index, litres := (IntKind.i64.wrap ((a1.getD k_0 (default : Order)).litres - (a1.getD k_0 (default : Order)).litres)), outlet := (a1.getD k_0 (default : Order)).outlet } : Order)]))) else .inr (s_0.1, s_0.2))))
def law22_RoutingTogether_l0_p (a1 : List Order) (a2 : List Int) (k_0 : Nat) (s_0 : List Order × List Order) : Prop := (a2.length ≤ maxL → (((decide ((k_0 : Int) < (a2.length : Int))) = true → ((0 ≤ (k_0 : Int) ∧ (k_0 : Int) < (a2.length : Int)) ∧ (((decide ((if (IntKind.i64.wrap (a2.getD k_0 (0 : Int))) < (a1.getD k_0 (default : Order)).litres then (IntKind.i64.wrap (a2.getD k_0 (0 : Int))) else (a1.getD k_0 (default : Order)).litres) > 0)) = true → (((s_0.1 ++ ([({ hour := (a1.getD k_0 (default : Order)).hour, index := (a1.getD k_0 (default : Order)).index, litres := (if (IntKind.i64.wrap (a2.getD k_0 (0 : Int))) < (a1.getD k_0 (default : Order)).litres then (IntKind.i64.wrap (a2.getD k_0 (0 : Int))) else (a1.getD k_0 (default : Order)).litres), outlet := (a1.getD k_0 (default : Order)).outlet } : Order)])).length * 32 ≤ maxB) ∧ ((s_0.1 ++ ([({ hour := (a1.getD k_0 (default : Order)).hour, index := (a1.getD k_0 (default : Order)).index, litres := (if (IntKind.i64.wrap (a2.getD k_0 (0 : Int))) < (a1.getD k_0 (default : Order)).litres then (IntKind.i64.wrap (a2.getD k_0 (0 : Int))) else (a1.getD k_0 (default : Order)).litres), outlet := (a1.getD k_0 (default : Order)).outlet } : Order)])).length ≤ maxL → ((decide ((if (IntKind.i64.wrap (a2.getD k_0 (0 : Int))) < (a1.getD k_0 (default : Order)).litres then (IntKind.i64.wrap (a2.getD k_0 (0 : Int))) else (a1.getD k_0 (default : Order)).litres) < (a1.getD k_0 (default : Order)).litres)) = true → ((s_0.2 ++ ([({ hour := (a1.getD k_0 (default : Order)).hour, index := (a1.getD k_0 (default : Order)).index, litres := (IntKind.i64.wrap ((a1.getD k_0 (default : Order)).litres - (if (IntKind.i64.wrap (a2.getD k_0 (0 : Int))) < (a1.getD k_0 (default : Order)).litres then (IntKind.i64.wrap (a2.getD k_0 (0 : Int))) else (a1.getD k_0 (default : Order)).litres))), outlet := (a1.getD k_0 (default : Order)).outlet } : Order)])).length * 32 ≤ maxB))))) ∧ ((decide ((if (IntKind.i64.wrap (a2.getD k_0 (0 : Int))) < (a1.getD k_0 (default : Order)).litres then (IntKind.i64.wrap (a2.getD k_0 (0 : Int))) else (a1.getD k_0 (default : Order)).litres) > 0)) = false → ((decide ((if (IntKind.i64.wrap (a2.getD k_0 (0 : Int))) < (a1.getD k_0 (default : Order)).litres then (IntKind.i64.wrap (a2.getD k_0 (0 : Int))) else (a1.getD k_0 (default : Order)).litres) < (a1.getD k_0 (default : Order)).litres)) = true → ((s_0.2 ++ ([({ hour := (a1.getD k_0 (default : Order)).hour, index := (a1.getD k_0 (default : Order)).index, litres := (IntKind.i64.wrap ((a1.getD k_0 (default : Order)).litres - (if (IntKind.i64.wrap (a2.getD k_0 (0 : Int))) < (a1.getD k_0 (default : Order)).litres then (IntKind.i64.wrap (a2.getD k_0 (0 : Int))) else (a1.getD k_0 (default : Order)).litres))), outlet := (a1.getD k_0 (default : Order)).outlet } : Order)])).length * 32 ≤ maxB)))))) ∧ ((decide ((k_0 : Int) < (a2.length : Int))) = false → (((decide ((a1.getD k_0 (default : Order)).litres > 0)) = true → (((s_0.1 ++ ([(a1.getD k_0 (default : Order))])).length * 32 ≤ maxB) ∧ ((s_0.1 ++ ([(a1.getD k_0 (default : Order))])).length ≤ maxL → ((decide ((a1.getD k_0 (default : Order)).litres < (a1.getD k_0 (default : Order)).litres)) = true → ((s_0.2 ++ ([({ hour := (a1.getD k_0 (default : Order)).hour, index := (a1.getD k_0 (default : Order)).index, litres := (IntKind.i64.wrap ((a1.getD k_0 (default : Order)).litres - (a1.getD k_0 (default : Order)).litres)), outlet := (a1.getD k_0 (default : Order)).outlet } : Order)])).length * 32 ≤ maxB))))) ∧ ((decide ((a1.getD k_0 (default : Order)).litres > 0)) = false → ((decide ((a1.getD k_0 (default : Order)).litres < (a1.getD k_0 (default : Order)).litres)) = true → ((s_0.2 ++ ([({ hour := (a1.getD k_0 (default : Order)).hour, index := (a1.getD k_0 (default : Order)).index, litres := (IntKind.i64.wrap ((a1.getD k_0 (default : Order)).litres - (a1.getD k_0 (default : Order)).litres)), outlet := (a1.getD k_0 (default : Order)).outlet } : Order)])).length * 32 ≤ maxB)))))))
@[go_sem] def law22_RoutingTogether_l1 (a0 : District) (s_0 : List Order × List Order) (k_1 : Acequialaw22Place × Int) (s_1 : Unit) : Unit ⊕ Unit := (bif (decide ((IntKind.i64.wrap (k_1.2 + (mgetT .acequialaw22Place .int (law22_gates ((routing_Plan a0 s_0.2).1)) k_1.1))) > 1073741824)) then .inl () else .inr ())
def law22_RoutingTogether_l1_p (a0 : District) (s_0 : List Order × List Order) (k_1 : Acequialaw22Place × Int) (s_1 : Unit) : Prop := True
@[go_sem] def law22_RoutingTogether_l2 (a0 : District) (a1 : List Order) (s_0 : List Order × List Order) (k_2 : Acequialaw22Place × Int) (s_2 : Unit) : Unit ⊕ Unit := (bif (decide (k_2.2 > (IntKind.i64.wrap ((mgetT .acequialaw22Place .int (law22_gates ((routing_Plan a0 s_0.1).1)) k_2.1) + (mgetT .acequialaw22Place .int (law22_gates ((routing_Plan a0 s_0.2).1)) k_2.1))))) then .inl () else .inr ())
def law22_RoutingTogether_l2_p (a0 : District) (a1 : List Order) (s_0 : List Order × List Order) (k_2 : Acequialaw22Place × Int) (s_2 : Unit) : Prop := True
def law22_RoutingTogether (a0 : District) (a1 : List Order) (a2 : List Int) : Bool := (bif (!law22_sane) then false else (bif ((!(ref22_Few a0 a1)) || ((routing_Check a0 a1) != 0)) then true else (match runI (law22_RoutingTogether_l0 a1 a2) a1.length 0 ([], []) with | .inl x => x.elim | .inr s_0 => (bif ((((((routing_Plan a0 s_0.1).2.2 != 0) || ((routing_Plan a0 s_0.2).2.2 != 0)) || ((routing_Plan a0 a1).2.2 != 0)) || (!(routing_Plan a0 s_0.1).2.1)) || (!(routing_Plan a0 s_0.2).2.1)) then true else (bif (!(routing_Plan a0 a1).2.1) then (match runL (law22_RoutingTogether_l1 a0 s_0) (law22_gates ((routing_Plan a0 s_0.1).1)) () with | .inl x_1_0 => true | .inr s_1 => false) else (match runL (law22_RoutingTogether_l2 a0 a1 s_0) (law22_gates ((routing_Plan a0 a1).1)) () with | .inl x_2_0 => false | .inr s_2 => true))))))
def law22_RoutingTogether_p (a0 : District) (a1 : List Order) (a2 : List Int) : Prop := ((law22_sane_p) ∧ ((!law22_sane) = false → (((!(ref22_Few a0 a1)) = false → (routing_Check_p a0 a1)) ∧ (((!(ref22_Few a0 a1)) || ((routing_Check a0 a1) != 0)) = false → (a1.length ≤ maxL → (okI (law22_RoutingTogether_l0 a1 a2) (law22_RoutingTogether_l0_p a1 a2) a1.length 0 ([], []) ∧ (∀ s_0, runI (law22_RoutingTogether_l0 a1 a2) a1.length 0 ([], []) = .inr s_0 → ((routing_Plan_p a0 s_0.1) ∧ ((routing_Plan_p a0 s_0.2) ∧ ((routing_Plan_p a0 a1) ∧ (((((((routing_Plan a0 s_0.1).2.2 != 0) || ((routing_Plan a0 s_0.2).2.2 != 0)) || ((routing_Plan a0 a1).2.2 != 0)) || (!(routing_Plan a0 s_0.1).2.1)) || (!(routing_Plan a0 s_0.2).2.1)) = false → (((!(routing_Plan a0 a1).2.1) = true → okM (law22_RoutingTogether_l1 a0 s_0) (law22_RoutingTogether_l1_p a0 s_0) (law22_gates ((routing_Plan a0 s_0.1).1)) ()) ∧ ((!(routing_Plan a0 a1).2.1) = false → okM (law22_RoutingTogether_l2 a0 a1 s_0) (law22_RoutingTogether_l2_p a0 a1 s_0) (law22_gates ((routing_Plan a0 a1).1)) ())))))))))))))
@[go_sem] def C_law22_RoutingTogether : List SV → Option Con := (pD .district fun a0 => (pR .order fun a1 => (pR .u8 fun a2 => (pE (.det (law22_RoutingTogether_p a0 a1 a2) (.v (.bool (law22_RoutingTogether a0 a1 a2))))))))
end Go.Sx
end
section
namespace Go.Sx
open Go.Proofs Go.Shelf Go.Sort Go.Lib
theorem length_dom : ∀ (A B : List Order), A.Pairwise (fun x y => ¬ K x y) → (∀ x ∈ A, ∃ z ∈ B, K z x) → A.length ≤ B.length
  | [], _, _, _ => Nat.zero_le _
  | x :: A, B, hA, hd => by
    have hA' := List.pairwise_cons.1 hA
    obtain ⟨z, hz, hk⟩ := hd x List.mem_cons_self
    have := length_dom A (B.erase z) hA'.2 fun y hy => by
      obtain ⟨w, hw, hkw⟩ := hd y (List.mem_cons_of_mem _ hy)
      refine ⟨w, ?_, hkw⟩
      have hne : w ≠ z := fun e => by
        subst e
        exact hA'.1 y hy ⟨hk.1.symm.trans hkw.1, hk.2.1.symm.trans hkw.2.1, hk.2.2.symm.trans hkw.2.2⟩
      exact (List.mem_erase_of_ne hne).2 hw
    rw [List.length_erase_of_mem hz] at this
    have : 0 < B.length := List.length_pos_of_mem hz
    rw [List.length_cons]; omega
theorem plan_fewer {d : District} {out gs out' : List Order} (hN : Nar d out) (hall : ∀ x ∈ out, x.outlet = true) (hP : PL d out gs) (hN' : Nar d out') (hdom : ∀ x ∈ out', ∃ z ∈ out, K z x ∧ x.litres ≤ z.litres) :
    ∃ gs', PL d out' gs' ∧ routing_Plan d out' = (srt routing_by_1 (out' ++ gs'), true, 0) ∧ ∀ P : Order → Bool, (∀ x y, K x y → P x = P y) → osum P (srt routing_by_1 (out' ++ gs')) ≤ osum P (srt routing_by_1 (out ++ gs)) := by
  have hall' : ∀ x ∈ out', x.outlet = true := fun x hx => by
    obtain ⟨z, hz, hk, _⟩ := hdom x hx
    rw [← hk.2.2]; exact hall z hz
  have hkp := plan_keeps hN.good hall hP
  have hdom' : ∀ x ∈ out', ∃ z ∈ srt routing_by_1 (out ++ gs), K z x ∧ x.litres ≤ z.litres := fun x hx => by
    obtain ⟨z, hz, hk⟩ := hdom x hx
    exact ⟨z, (srt_perm _).mem_iff.2 (List.mem_append_left _ hz), hk⟩
  have hfin : ∀ gs', PFin d out' gs' → ∀ x ∈ out' ++ gs', ∃ z ∈ srt routing_by_1 (out ++ gs), K z x ∧ x.litres ≤ z.litres := fun gs' hf x hx => by
    rcases List.mem_append.1 hx with hx | hx
    · exact hdom' x hx
    · exact least_dom hN'.good.right (fin_keys hN'.good hall' hf) hf.gate hdom' hkp d.reaches.length x hx (by have := (hf.gate x hx).i0; omega)
  rcases plan_cases d out' with ⟨hn, _⟩ | ⟨_, h, _⟩ | ⟨_, _, ⟨gs', r, h, hx⟩, _⟩ | ⟨_, _, gs', hf, hl, _⟩ | ⟨_, _, gs', hP', e⟩
  · exact absurd ((narrow_iff d out').2 hN') hn
  · exact absurd hall' h
  · exact (no_fail hN'.good hall' hx hdom' hkp).elim
  · exfalso
    have := length_dom _ _ (fin_keys hN'.good hall' hf) fun x hx => by
      obtain ⟨z, hz, hk, _⟩ := hfin gs' hf x hx
      exact ⟨z, hz, hk⟩
    have := hkp.good.len
    omega
  · refine ⟨gs', hP', e, fun P hPk => ?_⟩
    rw [osum_perm (srt_perm (out' ++ gs'))]
    refine osum_dom hPk _ _ (fin_keys hN'.good hall' hP'.fin) (fun x hx _ => hfin gs' hP'.fin x hx) fun z hz => ?_
    have := hkp.good.orders.lit z hz; omega
theorem still_fits {d : District} {l m : List Order} (hl : Nar d l) (hm : Nar d m) (hd : ∀ P : Order → Bool, (∀ x y, K x y → P x = P y) → osum P m ≤ osum P l) : (((routing_Fits d l).2.2.2 == 0) && ((routing_Fits d m).2.2.2 == 0) && ((!(routing_Fits d l).1) || (routing_Fits d m).1)) = true := by
  obtain ⟨a1, a2⟩ := fits_ok hl
  obtain ⟨b1, b2⟩ := fits_ok hm
  rw [a1, b1]
  simp only [beq_self_eq_true, Bool.true_and]
  cases hq : (routing_Fits d l).1 with
  | false => rfl
  | true =>
    have := b2.2 fun k r hk hr => by
      have h1 := a2.1 hq k r hk hr
      have h2 := hd _ (gP_key2 r k)
      have h3 := hd _ (loadP_key d r k)
      unfold glit lod at h1 ⊢
      omega
    rw [this]; rfl
theorem gates_run {d : District} {l m : List Order} (hl : Good d l) (hm : Good d m) (hd : ∀ a b, glit m a b ≤ glit l a b) {step : Acequialaw22Place × Int → Unit → Unit ⊕ Unit} (hs : ∀ k s, step k s = bif decide (mgetT .acequialaw22Place .int (law22_gates l) k.1 < k.2) then .inl () else .inr ()) : runL step (law22_gates m) () = .inr () := by
  refine runL_unit_iff.2 fun x hx => ?_
  obtain ⟨q1, q2⟩ := (gates_of hm).entry hx
  rw [hs, (gates_of hl).get]
  have h1 := hd x.1.reach x.1.hour
  have hle : ¬ glit l x.1.reach x.1.hour < x.2 := by omega
  rw [decide_eq_false hle]; rfl
theorem good_sub {d : District} {l m : List Order} (h : Good d l) (hm : m.Sublist l) : Good d m := ⟨h.chk, Nat.le_trans hm.length_le h.len, fun x hx => h.one x (hm.subset hx), h.asc.sublist hm⟩
theorem good_set {d : District} {A B : List Order} {x y : Order} (h : Good d (A ++ x :: B)) (hk : K y x) (l1 : 1 ≤ y.litres) (l2 : y.litres ≤ 1073741824) : Good d (A ++ y :: B) := by
  have hx := h.one x (by simp)
  have ho : ∀ z, olt z x → olt z y := fun z hz => by
    unfold olt at hz ⊢
    have : oval x = oval y := by unfold oval; rw [hk.2.2]
    rw [hk.1, hk.2.1, ← this]; exact hz
  have ho2 : ∀ z, olt x z → olt y z := fun z hz => by
    unfold olt at hz ⊢
    have : oval x = oval y := by unfold oval; rw [hk.2.2]
    rw [hk.1, hk.2.1, ← this]; exact hz
  refine ⟨h.chk, by have := h.len; simpa using this, fun z hz => ?_, ?_⟩
  · rw [List.mem_append, List.mem_cons] at hz
    rcases hz with hz | rfl | hz
    · exact h.one z (by simp [hz])
    · exact ⟨by rw [hk.1]; exact hx.hour0, by rw [hk.1]; exact hx.hour, by rw [hk.2.1]; exact hx.index0, fun e => by rw [hk.2.1]; exact hx.farm (by rw [← hk.2.2]; exact e), fun e => by rw [hk.2.1]; exact hx.reach (by rw [← hk.2.2]; exact e), l1, l2⟩
    · exact h.one z (by simp [hz])
  · have ha := h.asc
    rw [List.pairwise_append, List.pairwise_cons] at ha ⊢
    refine ⟨ha.1, ⟨fun z hz => ho2 z (ha.2.1.1 z hz), ha.2.1.2⟩, fun a ha' b hb => ?_⟩
    rcases List.mem_cons.1 hb with rfl | hb
    · exact ho a (ha.2.2 a ha' x List.mem_cons_self)
    · exact ha.2.2 a ha' b (List.mem_cons_of_mem _ hb)
end Go.Sx
end
section
namespace Go.Sx
open Go.Proofs Go.Shelf Go.Sort Go.Lib
theorem pick_rng {a n : Int} (h0 : 0 ≤ a) (h1 : a ≤ 65535) (hn : 0 < n) : ∃ k : Nat, Int.tmod (IntKind.i64.wrap a) n = (k : Int) ∧ (k : Int) < n := by
  rw [wrapI (by omega) (by omega), Int.tmod_eq_emod_of_nonneg h0]
  have e0 := Int.emod_nonneg a (by omega : n ≠ 0)
  have e1 := Int.emod_lt_of_pos a hn
  exact ⟨(a % n).toNat, (Int.toNat_of_nonneg e0).symm, by omega⟩
theorem split_at {l : List Order} {k : Nat} (hk : k < l.length) : l = l.take k ++ l.getD k default :: l.drop (k + 1) := by
  rw [getD_el _ _ hk, List.getElem_cons_drop, List.take_append_drop]
theorem plan_ok {d : District} {out : List Order} (h : (((routing_Plan d out).2.2 != 0) || (!(routing_Plan d out).2.1)) = false) : Nar d out ∧ (∀ x ∈ out, x.outlet = true) ∧ ∃ gs, PL d out gs ∧ routing_Plan d out = (srt routing_by_1 (out ++ gs), true, 0) := by
  rcases plan_cases d out with ⟨hn, e⟩ | ⟨_, _, e⟩ | ⟨_, _, _, e⟩ | ⟨_, _, _, _, _, e⟩ | h'
  · rw [e] at h; simp at h
  · rw [e] at h; simp at h
  · rw [e] at h; simp at h
  · rw [e] at h; simp at h
  · exact h'
theorem fewer_last {d : District} {out gs out' : List Order} (hN : Nar d out) (hall : ∀ x ∈ out, x.outlet = true) (hP : PL d out gs) (e : routing_Plan d out = (srt routing_by_1 (out ++ gs), true, 0)) (hg : Good d out') (hdom : ∀ x ∈ out', ∃ z ∈ out, K z x ∧ x.litres ≤ z.litres) {step : Acequialaw22Place × Int → Unit → Unit ⊕ Unit} (hs : ∀ k s, step k s = bif decide (mgetT .acequialaw22Place .int (law22_gates (routing_Plan d out).1) k.1 < k.2) then .inl () else .inr ()) :
    (bif (((routing_Plan d out').2.2 != 0) || (!(routing_Plan d out').2.1)) then false else (match runL step (law22_gates ((routing_Plan d out').1)) () with | .inl x_0_0 => false | .inr s_0 => ((((routing_Fits d ((routing_Plan d out).1)).2.2.2 == 0) && ((routing_Fits d ((routing_Plan d out').1)).2.2.2 == 0)) && ((!(routing_Fits d ((routing_Plan d out).1)).1) || (routing_Fits d ((routing_Plan d out').1)).1)))) = true := by
  obtain ⟨gs', hP', e', hd⟩ := plan_fewer hN hall hP (hN.keep hg) hdom
  rw [e, e'] at *
  simp only [bne_self_eq_false, Bool.not_true, Bool.or_self, cond_false]
  rw [gates_run hP.good hP'.good (fun a b => hd _ (gP_key2 a b)) hs]
  exact still_fits (hN.keep hP.good) (hN.keep hP'.good) hd
theorem fewer_t (d : District) (out : List Order) (w less : Int) (h0 : 0 ≤ w ∧ w ≤ 65535) (h1 : (-9223372036854775808) ≤ less ∧ less ≤ 9223372036854775807) : law22_RoutingFewer d out w less = true := by
  unfold law22_RoutingFewer
  rw [sane_t]
  simp only [Bool.not_true, cond_false]
  cases hf : (!(ref22_Few d out) || ((out.length : Int) == 0)) with
  | true => rfl
  | false =>
    simp only [cond_false]
    cases hp : (((routing_Plan d out).2.2 != 0) || (!(routing_Plan d out).2.1)) with
    | true => rfl
    | false =>
      simp only [cond_false]
      obtain ⟨hN, hall, gs, hP, e⟩ := plan_ok hp
      simp only [Bool.or_eq_false_iff, beq_eq_false_iff_ne] at hf
      obtain ⟨k, hk1, hk2⟩ := pick_rng h0.1 h0.2 (n := (out.length : Int)) (by omega)
      have hlen := hN.good.len
      have hw : IntKind.i64.wrap ((k : Int) + 1) = ((k + 1 : Nat) : Int) := by rw [wrapI (by omega) (by omega)]; omega
      have hk : k < out.length := by omega
      have hsp := split_at hk
      have hx := hN.good.one _ (getD_mem' out default hk)
      rw [hk1]
      simp only [hw, Int.toNat_natCast, List.drop_zero, List.nil_append, List.take_length]
      cases hl : (decide (less > 0) && decide (less < (out.getD k default).litres)) with
      | true =>
        simp only [Bool.and_eq_true, decide_eq_true_eq] at hl
        have hl1 := hx.litres1
        have hl2 := hx.litres
        rw [wrapI (by omega) (by omega)]
        simp only [cond_true, List.append_assoc, List.singleton_append]
        generalize hy : ({ hour := (out.getD k default).hour, index := (out.getD k default).index, litres := (out.getD k default).litres - less, outlet := (out.getD k default).outlet } : Order) = y
        have hky : K y (out.getD k default) := by rw [← hy]; exact ⟨rfl, rfl, rfl⟩
        have hly : y.litres = (out.getD k default).litres - less := by rw [← hy]
        have hg : Good d (out.take k ++ y :: out.drop (k + 1)) := good_set (x := out.getD k default) (by rw [← hsp]; exact hN.good) hky (by omega) (by omega)
        have hdom : ∀ x ∈ out.take k ++ y :: out.drop (k + 1), ∃ z ∈ out, K z x ∧ x.litres ≤ z.litres := fun x hx => by
          rw [List.mem_append, List.mem_cons] at hx
          rcases hx with hx | rfl | hx
          · exact ⟨x, List.mem_of_mem_take hx, ⟨rfl, rfl, rfl⟩, Int.le_refl _⟩
          · exact ⟨out.getD k default, getD_mem' out default hk, hky.symm, by omega⟩
          · exact ⟨x, List.mem_of_mem_drop hx, ⟨rfl, rfl, rfl⟩, Int.le_refl _⟩
        exact fewer_last hN hall hP e hg hdom fun k s => rfl
      | false =>
        simp only [cond_false]
        have hg : Good d (out.take k ++ out.drop (k + 1)) := good_sub hN.good (by
          conv => rhs; rw [hsp]
          exact List.Sublist.append_left (List.sublist_cons_self _ _) _)
        have hdom : ∀ x ∈ out.take k ++ out.drop (k + 1), ∃ z ∈ out, K z x ∧ x.litres ≤ z.litres := fun x hx => by
          rcases List.mem_append.1 hx with hx | hx
          · exact ⟨x, List.mem_of_mem_take hx, ⟨rfl, rfl, rfl⟩, Int.le_refl _⟩
          · exact ⟨x, List.mem_of_mem_drop hx, ⟨rfl, rfl, rfl⟩, Int.le_refl _⟩
        exact fewer_last hN hall hP e hg hdom fun k s => rfl
theorem fewer_p (d : District) (out : List Order) (w less : Int) (h0 : 0 ≤ w ∧ w ≤ 65535) (h1 : (-9223372036854775808) ≤ less ∧ less ≤ 9223372036854775807) : law22_RoutingFewer_p d out w less := by
  refine ⟨sane_p, fun _ hf => ⟨plan_p _ _, fun hp _ => ?_⟩⟩
  obtain ⟨hN, hall, gs, hP, e⟩ := plan_ok hp
  simp only [Bool.or_eq_false_iff, beq_eq_false_iff_ne] at hf
  obtain ⟨k, hk1, hk2⟩ := pick_rng h0.1 h0.2 (n := (out.length : Int)) (by omega)
  have hlen := hN.good.len
  have hw : IntKind.i64.wrap ((k : Int) + 1) = ((k + 1 : Nat) : Int) := by rw [wrapI (by omega) (by omega)]; omega
  rw [hk1]
  simp only [hw, Int.toNat_natCast, List.drop_zero, List.nil_append, List.take_length, List.length_append, List.length_take, List.length_drop, List.length_cons, List.length_nil]
  unfold maxB
  have hn := hf.2
  repeat' first | exact plan_p _ _ | exact fits_p _ _ | exact okM_unit fun _ _ => trivial | omega | apply And.intro | intro _
end Go.Sx
end
section
namespace Go.Sx
open Go.RowKit Go.Deep
section
variable {F : Nat → Prop} {own : Own} {w : World}
def RC (F : Nat → Prop) (own : Own) (w : World) (ks : List Kd) (cs : List Value) : Prop :=
  ∃ l : List SV, fits ks l = true ∧ l.length = cs.length ∧ ∀ (j : Nat) (s : SV) (v : Value), l[j]? = some s → cs[j]? = some v → Rel F own w s v
theorem fits_app : ∀ {a b : List Kd} {l m : List SV}, fits a l = true → fits b m = true → fits (a ++ b) (l ++ m) = true
  | [], b, l, m, h1, h2 => by rw [fits_nil h1]; exact h2
  | k :: a, b, l, m, h1, h2 => by
    obtain ⟨x, r, rfl, e1, e2⟩ := fits_cons h1
    simp only [List.cons_append, fits, e1, fits_app e2 h2, Bool.and_self]
theorem RC.nil : RC F own w [] [] := ⟨[], rfl, rfl, fun j s v h => by cases h⟩
theorem RC.app {a b : List Kd} {c d : List Value} (h1 : RC F own w a c) (h2 : RC F own w b d) : RC F own w (a ++ b) (c ++ d) := by
  obtain ⟨l, f1, n1, r1⟩ := h1
  obtain ⟨m, f2, n2, r2⟩ := h2
  refine ⟨l ++ m, fits_app f1 f2, by simp [n1, n2], fun j s v hs hv => ?_⟩
  by_cases hj : j < l.length
  · rw [List.getElem?_append_left hj] at hs
    rw [List.getElem?_append_left (by omega)] at hv
    exact r1 j s v hs hv
  · rw [List.getElem?_append_right (by omega)] at hs
    rw [List.getElem?_append_right (by omega), ← n1] at hv
    exact r2 _ s v hs hv
theorem RC.one {k : Kd} {s : SV} {v : Value} (h1 : fit k s = true) (h2 : Rel F own w s v) : RC F own w [k] [v] :=
  ⟨[s], by simp [fits, h1], rfl, fun j s' v' hs hv => by
    cases j with
    | zero => simp only [List.getElem?_cons_zero, Option.some.injEq] at hs hv; subst hs; subst hv; exact h2
    | succ j => simp at hs⟩
end
def eqKd : Kd → Kd → Bool
  | .s, .s => true
  | .b, .b => true
  | .n a, .n b => decide (a = b)
  | .r a, .r b => decide (a = b)
  | .m a c, .m b d => decide (a = b) && decide (c = d)
  | _, _ => false
theorem eqKd_ok : ∀ {a b : Kd}, eqKd a b = true → a = b := by
  intro a b h
  cases a <;> cases b <;> simp_all [eqKd]
def eqKs : List Kd → List Kd → Bool
  | [], [] => true
  | a :: l, b :: m => eqKd a b && eqKs l m
  | _, _ => false
theorem eqKs_ok : ∀ {a b : List Kd}, eqKs a b = true → a = b
  | [], [], _ => rfl
  | a :: l, b :: m, h => by
    simp only [eqKs, Bool.and_eq_true] at h
    rw [eqKd_ok h.1, eqKs_ok h.2]
def kindsF (P : Program) (g : TypeId → Option (List Kd)) : List Field → Nat → Nat → Option (List Kd)
  | [], off, tot => bif Nat.beq off tot then some [] else none
  | f :: r, off, tot => match g f.type with
    | some a => bif Nat.beq f.offset off && Nat.beq a.length (P.cellsOf f.type) then (kindsF P g r (off + a.length) tot).map (a ++ ·) else none
    | none => none
def kindsA (a : List Kd) : Nat → List Kd
  | 0 => []
  | n + 1 => a ++ kindsA a n
def kindsT (P : Program) : Nat → TypeId → Option (List Kd)
  | 0, _ => none
  | n + 1, t => match P.underlying t with
    | some .bool => some [.b]
    | some (.int k) => some [.n k]
    | some .string => some [.s]
    | some (.slice e) => match tagT P e, kindsT P n e with
      | some k, some ks => bif eqKs ks (kindsOf k) && Nat.beq (P.cellsOf e) (sizeOfTag k) && Nat.ble 1 (sizeOfTag k) then some [.r k] else none
      | _, _ => none
    | some (.struct fs) => kindsF P (kindsT P n) fs.toList 0 (P.cellsOf t)
    | some (.array m e) => match kindsT P n e with
      | some a => bif Nat.beq a.length (P.cellsOf e) && Nat.beq (P.cellsOf t) (m * a.length) then some (kindsA a m) else none
      | none => none
    | _ => none
section
variable {H : Type} {enc : TypeId × Value → H} {P : Program} {F : Nat → Prop} {own : Own} {w : World} {base : Nat} {spare : Nat → Bool} {held : Bool} {S : DataW H → Prop}
theorem kF_read {g : TypeId → Option (List Kd)} (hg : ∀ t ks, g t = some ks → ∀ (fuel : Nat) (cs : List Value) (x : DataW H × List MemPlace), DataW.trod enc P w base spare held fuel t cs = some x → S x.1 → RC F own w ks cs)
    (fuel : Nat) (cs : List Value) : ∀ (fs : List Field) (off : Nat) (ks : List Kd), kindsF P g fs off cs.length = some ks → (∀ f ∈ fs, ∃ x, DataW.trod enc P w base spare held fuel f.type ((cs.drop f.offset).take (P.cellsOf f.type)) = some x ∧ S x.1) → RC F own w ks (cs.drop off)
  | [], off, ks, h, _ => by
    unfold kindsF at h
    cases hb : Nat.beq off cs.length with
    | false => rw [hb] at h; cases h
    | true =>
      rw [hb] at h
      have : off = cs.length := Nat.eq_of_beq_eq_true hb
      subst this
      cases h
      rw [List.drop_length]
      exact RC.nil
  | f :: r, off, ks, h, hx => by
    unfold kindsF at h
    cases ha : g f.type with
    | none => rw [ha] at h; cases h
    | some a =>
      rw [ha] at h
      dsimp only at h
      cases hb : Nat.beq f.offset off && Nat.beq a.length (P.cellsOf f.type) with
      | false => rw [hb] at h; cases h
      | true =>
        rw [hb] at h
        simp only [cond_true, Option.map_eq_some_iff] at h
        obtain ⟨ks2, h2, rfl⟩ := h
        rw [Bool.and_eq_true] at hb
        have e1 : f.offset = off := Nat.eq_of_beq_eq_true hb.1
        have e2 : a.length = P.cellsOf f.type := Nat.eq_of_beq_eq_true hb.2
        obtain ⟨x, hx1, hs1⟩ := hx f (by simp)
        have h3 := hg _ _ ha _ _ _ hx1 hs1
        have h4 := kF_read hg fuel cs r (off + a.length) ks2 h2 fun f hf => hx f (by simp [hf])
        have := h3.app h4
        rw [e1, ← e2] at this
        rwa [← List.drop_drop, List.take_append_drop] at this
theorem kA_read {e : TypeId} {a : List Kd} (ha : ∀ (fuel : Nat) (cs : List Value) (x : DataW H × List MemPlace), DataW.trod enc P w base spare held fuel e cs = some x → S x.1 → RC F own w a cs)
    (fuel : Nat) : ∀ (m : Nat) (cs : List Value), cs.length = m * a.length → (∀ i, i < m → ∃ x, DataW.trod enc P w base spare held fuel e ((cs.drop (i * a.length)).take a.length) = some x ∧ S x.1) → RC F own w (kindsA a m) cs
  | 0, cs, h, _ => by
    have : cs = [] := by simpa using h
    subst this
    exact RC.nil
  | m + 1, cs, h, hx => by
    obtain ⟨x, hx1, hs1⟩ := hx 0 (by omega)
    rw [Nat.zero_mul, List.drop_zero] at hx1
    have h3 := ha _ _ _ hx1 hs1
    have h4 := kA_read ha fuel m (cs.drop a.length) (by rw [List.length_drop, h, Nat.succ_mul]; omega) fun i hi => by
      obtain ⟨x, hx2, hs2⟩ := hx (i + 1) (by omega)
      refine ⟨x, ?_, hs2⟩
      rw [List.drop_drop]
      rwa [Nat.succ_mul, Nat.add_comm] at hx2
    have := h3.app h4
    rwa [List.take_append_drop] at this
structure Small (S : DataW H → Prop) : Prop where
  agg : ∀ l, S (.agg l) → ∀ d ∈ l, S d
  slice : ∀ l m, S (.slice l m) → l.length ≤ maxL ∧ ∀ d ∈ l, S d
theorem kinds_read (hS : Small S) (hown : ∀ b, ¬ ownB F own b) : ∀ (n : Nat) (t : TypeId) (ks : List Kd), kindsT P n t = some ks → ∀ (fuel : Nat) (cs : List Value) (x : DataW H × List MemPlace), DataW.trod enc P w base spare held fuel t cs = some x → S x.1 → RC F own w ks cs
  | 0, _, _, h, _, _, _, _, _ => by cases h
  | n + 1, t, ks, h, fuel, cs, x, hx, hs => by
    unfold kindsT at h
    split at h
    · rename_i ht
      cases h
      obtain ⟨b, rfl, rfl⟩ := DataW.trod_bool ht hx
      exact RC.one (s := .v (.bool b)) rfl (.v _)
    · rename_i k ht
      cases h
      obtain ⟨m, rfl, rfl, _⟩ := DataW.trod_int ht hx
      exact RC.one (s := .v (.int k m)) (by simp [fit]) (.v _)
    · rename_i ht
      cases h
      obtain ⟨b, rfl, rfl, _⟩ := DataW.trod_string ht hx
      exact RC.one (s := .v (.string b)) rfl (.v _)
    · rename_i e ht
      split at h
      · rename_i k ks2 hk hks
        cases hb : eqKs ks2 (kindsOf k) && Nat.beq (P.cellsOf e) (sizeOfTag k) && Nat.ble 1 (sizeOfTag k) with
        | false => rw [hb] at h; cases h
        | true =>
          rw [hb] at h
          cases h
          simp only [Bool.and_eq_true] at hb
          have e1 := eqKs_ok hb.1.1
          have e2 : P.cellsOf e = sizeOfTag k := Nat.eq_of_beq_eq_true hb.1.2
          have e3 : 1 ≤ sizeOfTag k := Nat.le_of_ble_eq_true hb.2
          subst e1
          rcases open_slice ht hx with ⟨rfl, rfl⟩ | ⟨a, len, cap, m, f2, D, Pl, rfl, hb1, hl, hm, hmm, rfl, hel⟩
          · exact RC.one (s := .rs k []) (by simp [fit]) .rs0
          · have hlm : len ≤ m := by subst hmm; split <;> omega
            obtain ⟨hs1, hs2⟩ := hS.slice _ _ hs
            simp only [List.length_map, List.length_range] at hs1
            have helt : ∀ i, i < len → ∃ cs', cs'.length = sizeOfTag k ∧ (∀ j v, cs'[j]? = some v → w.cell? ((a.add (i * sizeOfTag k)).add j) = some v) ∧ RC F own w (kindsOf k) cs' := fun i hi => by
              obtain ⟨cs', h1, h2⟩ := hel i (by omega)
              have h3 := kinds_read hS hown n e (kindsOf k) hks f2 cs' _ h2 (hs2 _ (List.mem_map_of_mem (List.mem_range.2 hi)))
              unfold World.cells? at h1
              split at h1
              · refine ⟨cs', by rw [mapM_some_length h1, List.length_range, e2], fun j v hj => ?_, h3⟩
                have hlt : j < P.cellsOf e := by
                  have := (List.getElem?_eq_some_iff.1 hj).1
                  rwa [mapM_some_length h1, List.length_range] at this
                have := mapM_some_get h1 j j (by simp [hlt])
                rw [e2] at this
                rw [this, hj]
              · cases h1
            by_cases h0 : len = 0
            · subst h0
              exact RC.one (s := .rs k []) (by simp [fit]) .rs0
            · have hsp : a.spot = none := by
                obtain ⟨cs', h1, h2, _⟩ := helt 0 (by omega)
                have := h2 0 (cs'[0]'(by omega)) (by rw [List.getElem?_eq_getElem])
                rw [Nat.zero_mul] at this
                simp only [Addr.add, if_true] at this
                unfold World.cell? at this
                split at this
                · cases hsp : a.spot with
                  | none => rfl
                  | some q => rw [hsp] at this; simp at this
                · cases this
              obtain ⟨ab, ao, asp⟩ := a
              dsimp only at hsp
              subst hsp
              haveI : Inhabited k.T := ⟨dflt k⟩
              obtain ⟨X, hX⟩ := choose_lt (p := fun i (x : k.T) => ∀ (j : Nat) (s : SV), (cellsOf k x)[j]? = some s → ∃ v, w.cell? ⟨ab, ao + i * sizeOfTag k + j, none⟩ = some v ∧ Rel F own w s v) (n := len) fun i hi => by
                obtain ⟨cs', h1, h2, l, h3, h4, h5⟩ := helt i hi
                refine ⟨mkE k l, fun j s hj => ?_⟩
                rw [elemO_cells (k := k) (l := l) (x := mkE k l) (by unfold elemO; rw [h3]; rfl)] at hj
                have hlt : j < cs'.length := by
                  have := (List.getElem?_eq_some_iff.1 hj).1
                  omega
                refine ⟨cs'[j], ?_, h5 j s _ hj (List.getElem?_eq_getElem hlt)⟩
                have := h2 j cs'[j] (List.getElem?_eq_getElem hlt)
                have hadd : ∀ p q, ((⟨ab, ao, none⟩ : Addr).add p).add q = ⟨ab, ao + p + q, none⟩ := fun p q => by
                  unfold Addr.add
                  by_cases hp : p = 0 <;> by_cases hq : q = 0 <;> simp [hp, hq]
                rwa [hadd] at this
              have hL : ((List.range len).map X).length = len := by simp
              refine RC.one (s := .rs k ((List.range len).map X)) (by simp [fit]) ?_
              have hget : ∀ (i : Nat) (x : k.T), ((List.range len).map X)[i]? = some x → i < len ∧ x = X i := fun i x hi => by
                obtain ⟨h1, h2⟩ := List.getElem?_eq_some_iff.1 hi
                rw [hL] at h1
                simp only [List.getElem_map, List.getElem_range] at h2
                subst h2
                exact ⟨h1, rfl⟩
              have := Rel.rs (F := F) (own := own) (w := w) (k := k) (l := (List.range len).map X) (b := ab) (o := ao) (cap := cap) (fun i j => (w.cell? ⟨ab, ao + i * sizeOfTag k + j, none⟩).getD undef) (by rw [hL]; exact hl) (by rw [hL]; exact hs1)
                (fun i x hi j s hj => by
                  obtain ⟨h1, rfl⟩ := hget i x hi
                  obtain ⟨v, h2, _⟩ := hX i h1 j s hj
                  exact ⟨hown _, by rw [h2]; rfl⟩)
                (fun i x hi j s hj => by
                  obtain ⟨h1, rfl⟩ := hget i x hi
                  obtain ⟨v, h2, h3⟩ := hX i h1 j s hj
                  rw [h2]; exact h3)
              rwa [hL] at this
      · cases h
    · rename_i fs ht
      obtain ⟨xs, m, rfl, rfl, hl, hlen, hf⟩ := DataW.trod_struct ht hx
      rw [← hl] at h
      have := kF_read (kinds_read hS hown n) m cs fs.toList 0 ks h fun f hfm => by
        obtain ⟨i, hi, rfl⟩ := List.getElem_of_mem hfm
        have hi' : i < fs.size := by simpa using hi
        have h1 := hf i fs[i] (by simp [hi'])
        rw [List.getElem?_eq_getElem (by omega)] at h1
        refine ⟨_, by simpa using h1, hS.agg _ hs _ (List.mem_map_of_mem (List.getElem_mem _))⟩
      simpa using this
    · rename_i m e ht
      split at h
      · rename_i a ha
        cases hb : Nat.beq a.length (P.cellsOf e) && Nat.beq (P.cellsOf t) (m * a.length) with
        | false => rw [hb] at h; cases h
        | true =>
          rw [hb] at h
          cases h
          rw [Bool.and_eq_true] at hb
          have e1 : a.length = P.cellsOf e := Nat.eq_of_beq_eq_true hb.1
          have e2 : P.cellsOf t = m * a.length := Nat.eq_of_beq_eq_true hb.2
          obtain ⟨xs, f2, rfl, rfl, hl, hlen, hf⟩ := DataW.trod_array ht hx
          refine kA_read (kinds_read hS hown n e a ha) f2 m cs (by rw [hl, e2]) fun i hi => ?_
          have h1 := hf i hi
          rw [List.getElem?_eq_getElem (by omega), ← e1] at h1
          exact ⟨_, h1, hS.agg _ hs _ (List.mem_map_of_mem (List.getElem_mem _))⟩
      · cases h
    · cases h
end
end Go.Sx
end
section
namespace Go.Sx
open Go.Proofs
section
variable {F : Nat → Prop} {own : Own} {w : World}
theorem agg_rel {k : Tag} {cs : Array Value} (h : RC F own w (kindsOf k) cs.toList) : ∃ x : k.T, Rel F own w (.agg (cellsOf k x)) (.agg cs) := by
  obtain ⟨l, h3, h4, h5⟩ := h
  refine ⟨mkE k l, ?_⟩
  rw [elemO_cells (k := k) (l := l) (x := mkE k l) (by unfold elemO; rw [h3]; rfl)]
  refine .agg (by simpa using h4.symm) fun j s hj => ?_
  have hlt : j < cs.size := by
    have := (List.getElem?_eq_some_iff.1 hj).1
    simpa [h4] using this
  exact h5 j s _ hj (by simp [Array.getD, hlt])
theorem sl_rel {k : Tag} {v : Value} (h : RC F own w [.r k] [v]) : ∃ l : List k.T, Rel F own w (.rs k l) v := by
  obtain ⟨l, h3, h4, h5⟩ := h
  obtain ⟨x, r, rfl, h6, h7⟩ := fits_cons h3
  have h8 := h5 0 x v rfl rfl
  cases x with
  | rs k' l' =>
    have : k = k' := by
      simp only [fit] at h6
      exact tagN_inj h6
    subst this
    exact ⟨l', h8⟩
  | _ => simp [fit] at h6
end
end Go.Sx
end
section
namespace Go.Sx
open Go.RowKit Go.WideShapes Go.ChangeShapes
section
variable {H : Type} {enc : TypeId × Value → H} {P : Program}
def okTs (P : Program) : List TypeId → Bool
  | [] => true
  | t :: r => P.readableRec t && Nat.blt t P.types.size && okTs P r
theorem all_stays (hl : laidOutB P = true) {W W' : World} (hg : Below W.heap.size W W') : ∀ {ts : List TypeId} {vs : List Value} {ds : List (DataW H)} {ps : List MemPlace}, okTs P ts = true →
    DataW.TrodAll enc P W 0 (fun _ => true) true ts vs ds ps → (∀ x ∈ ps, x.block < W.heap.size) → DataW.TrodAll enc P W' 0 (fun b => decide (b < W.heap.size)) true ts vs ds ps
  | [], vs, ds, ps, _, h, _ => by
    obtain ⟨rfl, rfl, rfl⟩ := trodAll_nil h
    exact trodAll_mk0
  | t :: ts, vs, ds, ps, hk, h, hlt => by
    unfold okTs at hk
    rw [Bool.and_eq_true, Bool.and_eq_true] at hk
    obtain ⟨v, vs', d, ds', p, q, rfl, rfl, rfl, h1, h2⟩ := trodAll_cons h
    refine trodAll_cons_mk (WideElems.Trod_stays hl hk.1.1 (by simpa [Nat.blt_eq] using hk.1.2) h1 (fun x hx => hg.same (hlt x (List.mem_append_left _ hx))) (fun x hx => by simpa using hlt x (List.mem_append_left _ hx))) ?_
    exact all_stays hl hg hk.2 h2 fun x hx => hlt x (List.mem_append_right _ hx)
theorem law_post (hl : laidOutB P = true) {f : Func} {s : ChangeSpec} {W W' : World} {args : Array Value} {ds gs : List (DataW H)} {before : List MemPlace} {t : TypeId}
    (hk : okTs P f.params.toList = true) (hW : DataW.Whole enc P f.params.toList s.vars false W args.toList ds gs before)
    (hr : f.resultTypes = #[t]) (ht : P.underlying t = some .bool) (hv : s.vars = []) (h1 : (s.fn H (ds ++ gs)).results = [.lit (.bool true)]) (h2 : (s.fn H (ds ++ gs)).args = ds) (h3 : (s.fn H (ds ++ gs)).vars = [])
    (hg : Below W.heap.size W W') : s.post enc P f false true false false W args (.bool true) W' := by
  have hlt := hW.lt
  have hW0 := hW
  obtain ⟨p, q, hA, hV, rfl, _, _⟩ := hW
  rw [hv] at hV
  obtain ⟨rfl, rfl⟩ := trodVars_none hV
  refine ⟨ds, [], p ++ [], [], p, [], hW0, ?_, ?_, ?_, ?_, fun h => by cases h⟩
  · rw [h1, hr]
    exact trodAll_cons_mk (shut_bool ht _) trodAll_mk0
  · rw [h2]
    exact all_stays hl hg hk hA fun x hx => hlt x (by simpa using hx)
  · rw [h3, hv]
    rfl
  · exact World.keptBut_mono (fun x hx => ⟨hx, .inr (.inl (by simpa using hx))⟩) (hg.frame (· ∈ p ++ []))
end
end Go.Sx
end
section
namespace Go.Proofs.Ytkblpdepdncnmaa.bulks
theorem one_le {H : Type} (d : DataW H) : 1 ≤ Rows.uptoBulk d := by
  cases d with
  | lit l => cases l <;> simp [Rows.uptoBulk]
  | nil => simp [Rows.uptoBulk]
  | ptr d => simp [Rows.uptoBulk]
  | slice elems spare => simp [Rows.uptoBulk]
  | agg parts => simp [Rows.uptoBulk]
  | iface t d => simp [Rows.uptoBulk]
  | map entries => simp [Rows.uptoBulk]
  | held h => simp [Rows.uptoBulk]
theorem part_le {H : Type} {d : DataW H} {l : List (DataW H)} (h : d ∈ l) : Rows.uptoBulk d ≤ Rows.uptoBulkAll l := by
  induction l with
  | nil => cases h
  | cons x r ih =>
    simp only [Rows.uptoBulkAll]
    cases List.mem_cons.1 h with
    | inl e => subst e; omega
    | inr e => have := ih e; omega
theorem append {H : Type} (l r : List (DataW H)) : Rows.uptoBulkAll (l ++ r) = Rows.uptoBulkAll l + Rows.uptoBulkAll r := by
  induction l with
  | nil => simp [Rows.uptoBulkAll]
  | cons x l ih => simp only [List.cons_append, Rows.uptoBulkAll, ih]; omega
theorem length_le {H : Type} (l : List (DataW H)) : l.length ≤ Rows.uptoBulkAll l := by
  induction l with
  | nil => simp [Rows.uptoBulkAll]
  | cons x r ih => have := one_le x; simp only [Rows.uptoBulkAll, List.length_cons]; omega
theorem slice_le {H : Type} (elems spare : List (DataW H)) : elems.length + spare.length + 1 ≤ Rows.uptoBulk (.slice elems spare) := by
  have h1 := length_le elems
  have h2 := length_le spare
  simp only [Rows.uptoBulk]
  omega
theorem slice_elems {H : Type} (elems spare : List (DataW H)) : Rows.uptoBulkAll elems + 1 ≤ Rows.uptoBulk (.slice elems spare) := by
  simp only [Rows.uptoBulk]
  omega
theorem bound {H : Type} {l : List (DataW H)} (hk : Rows.uptoSmall H l = true) : Rows.uptoBulkAll l ≤ 1048576 := by
  simpa [Rows.uptoSmall] using hk
theorem room {n b : Nat} (hn : n ≤ 2097152) (hb : b ≤ 4096) : (n + n / 4 + 192) * b ≤ 281474976710656 := by
  have h : (n + n / 4 + 192) * b ≤ 2621632 * 4096 := Nat.mul_le_mul (by omega) hb
  omega
end Go.Proofs.Ytkblpdepdncnmaa.bulks
end
section
namespace Go.Proofs.Ytkblpdepdncnmaa.routingFewer
open Go.ChangeShapes Go.WideShapes Go.ChangeAt Go.RowKit Go.Sx
set_option linter.unusedVariables false
theorem con_eq (x0 : Tag.district.T) (x1 : List Tag.order.T) (x2 : Int) (x3 : Int) : C_law22_RoutingFewer [.agg (cellsOf .district x0), .rs .order x1, .v (.int .u16 x2), .v (.int .i64 x3)] = some (.det (law22_RoutingFewer_p x0 x1 x2 x3) (.v (.bool (law22_RoutingFewer x0 x1 x2 x3)))) := by
  unfold C_law22_RoutingFewer
  simp only [go_sem, Nat.reduceBEq]
theorem call_true {W : World} {cs0 : Array Value} (h0 : RC (fun _ => False) own0 W (kindsOf .district) cs0.toList) {v1 : Value} (h1 : RC (fun _ => False) own0 W [.r .order] [v1]) (x2 : Int) (h2 : 0 ≤ x2 ∧ x2 ≤ 65535) (x3 : Int) (h3 : (-9223372036854775808) ≤ x3 ∧ x3 ≤ 9223372036854775807) :
    Calls Try.prog 4 #[.agg cs0, v1, .int .u16 x2, .int .i64 x3] W (fun e W' => e = .returned (.bool true) ∧ Below W.heap.size W W') := by
  obtain ⟨x0, r0⟩ := agg_rel h0
  obtain ⟨x1, r1⟩ := sl_rel h1
  refine (ok_law22_RoutingFewer.calls _ _ (con_eq x0 x1 x2 x3) (fewer_p x0 x1 x2 x3 h2 h3) (fun _ => False) W _ (fun b h => h.elim) ⟨rfl, fun j s hj => ?_⟩).mono fun e W' he => ?_
  · match j, hj with
    | 0, hj => cases hj; exact r0
    | 1, hj => cases hj; exact r1
    | 2, hj => cases hj; exact .v _
    | 3, hj => cases hj; exact .v _
  · rcases he with ⟨s, u, own', hs, rfl, hh, hb⟩ | ⟨x, hx, _⟩
    · simp only [conPost] at hs
      subst hs
      rw [fewer_t x0 x1 x2 x3 h2 h3] at hh
      have := hh.val
      simp only [HandV] at this
      rw [rel_v this]
      exact ⟨rfl, hb⟩
    · exact hx.elim
theorem own : ownKnob Try.prog.godebug = none := by kernel_rfl
theorem small (H : Type) : Small (fun d : DataW H => Rows.uptoBulk d ≤ 1048576) where
  agg l h d hd := by
    have h1 := bulks.part_le hd
    simp only [Rows.uptoBulk] at h
    omega
  slice l m h := by
    have h1 := bulks.slice_le l m
    have h2 := bulks.slice_elems l m
    refine ⟨by unfold maxL; omega, fun d hd => ?_⟩
    have := bulks.part_le hd
    omega
theorem laid : laidOutB Try.prog = true := by kernel_rfl
set_option maxRecDepth 100000 in
theorem contract (H : Type) (enc : TypeId × Value → H) (W : World) (base : Nat) (args : Array Value) (ds gs : List (DataW H)) (before : List MemPlace)
    (hval : ∀ (j : Nat) t v, Try.f4.params[j]? = some t → args[j]? = some v → Value.okWide Try.prog W .any base t v)
    (hW : DataW.Whole enc Try.prog Try.f4.params.toList Rows.routingFewerSpec.vars false W args.toList ds gs before) (hk : Rows.uptoSmall H (ds ++ gs) = true) :
    Calls Try.prog 4 args W fun e W' => ∃ v, e = .returned v ∧ Rows.routingFewerSpec.post enc Try.prog Try.f4 false true false false W args v W' := by
  have hW' := hW
  obtain ⟨p, q, hA0, hV, rfl, hfz, hnd⟩ := hW
  have hA : DataW.TrodAll enc Try.prog W 0 (fun _ => true) true Try.f4.params.toList args.toList ds p := hA0
  rw [Try.params4] at hA hval
  obtain ⟨v0, vs0, d0, ds0, p0, q0, hargs, rfl, rfl, h0, r0⟩ := trodAll_cons hA
  obtain ⟨v1, vs1, d1, ds1, p1, q1, rfl, rfl, rfl, h1, r1⟩ := trodAll_cons r0
  obtain ⟨v2, vs2, d2, ds2, p2, q2, rfl, rfl, rfl, h2, r2⟩ := trodAll_cons r1
  obtain ⟨v3, vs3, d3, ds3, p3, q3, rfl, rfl, rfl, h3, r3⟩ := trodAll_cons r2
  obtain ⟨rfl, rfl, rfl⟩ := trodAll_nil r3
  obtain rfl : args = #[v0, v1, v2, v3] := by cases args; simp_all
  obtain ⟨rfl, rfl⟩ := trodVars_none hV
  have hb := bulks.bound hk
  simp only [Rows.uptoBulkAll, List.append_nil, List.cons_append, List.nil_append] at hb
  have ho : ∀ b, ¬ ownB (fun _ => False) own0 b := fun b h => by
    rcases h with h | ⟨_, _, h, _⟩
    · exact h
    · cases h
  have s0 : ∃ cs, v0 = .agg cs := by
    have := hval 0 31 v0 rfl rfl
    simp only [Value.okWide, Try.underlying31] at this
    exact ⟨_, this.choose_spec.1⟩
  obtain ⟨cs0, rfl⟩ := s0
  obtain ⟨a1, l1, c1, rfl⟩ := okWide_slice Try.underlying32 (hval 1 32 v1 rfl rfl)
  obtain ⟨a2, rfl, rfl, rfl, w2⟩ := open_int Try.underlying45 (hval 2 45 v2 rfl rfl) h2
  have R2 : 0 ≤ a2 ∧ a2 ≤ 65535 := by simpa [Lit.wf, IntKind.min, IntKind.max, IntKind.signed, IntKind.bits] using w2
  obtain ⟨a3, rfl, rfl, rfl, w3⟩ := open_int Try.underlying3 (hval 3 3 v3 rfl rfl) h3
  have R3 : (-9223372036854775808) ≤ a3 ∧ a3 ≤ 9223372036854775807 := by simpa [Lit.wf, IntKind.min, IntKind.max, IntKind.signed, IntKind.bits] using w3
  have R0 : RC (fun _ => False) own0 W (kindsOf .district) cs0.toList := by
    obtain ⟨f, hf⟩ := h0
    exact kinds_read (n := 6) (t := 31) (small H) ho _ (by kernel_rfl) f _ _ hf (by show Rows.uptoBulk d0 ≤ _; omega)
  have R1 : RC (fun _ => False) own0 W [.r .order] [.slice a1 l1 c1] := by
    obtain ⟨f, hf⟩ := h1
    exact kinds_read (n := 6) (t := 32) (small H) ho _ (by kernel_rfl) f _ _ hf (by show Rows.uptoBulk d1 ≤ _; omega)
  refine (call_true R0 R1 _ R2 _ R3).mono fun e W' ⟨he, hg⟩ => ?_
  subst he
  exact ⟨_, rfl, law_post laid (by kernel_rfl) hW' (by kernel_rfl) Try.underlying4 rfl rfl rfl rfl hg⟩
def zeroV : Kd → Value
  | .n k => .int k 0
  | .b => .bool false
  | .s => .string (ByteArray.mk #[])
  | .r _ => .slice none 0 0
  | .m _ _ => .map none
def wit : Array Value := #[.agg ((kindsOf .district).map zeroV).toArray, .slice none 0 0, .int .u16 0, .int .i64 0]
set_option maxRecDepth 100000 in
theorem lifted (os : Os) (started : os.Started) (H : Type) (enc : TypeId × Value → H) (F : Stop.Interp) :
    ReturnsInHanded {} Try.checked os 4 .any ((Rows.OpenSpec.upto Rows.routingFewerSpec).pre6 enc Try.prog Try.f4 Rows.routingFewerUptoRow.domain false) (((Rows.OpenSpec.upto Rows.routingFewerSpec).at F).post enc Try.prog Try.f4 false true false false) := by
  refine returnsInHanded_of_cond (C := Try.checked) (s := Rows.OpenSpec.upto Rows.routingFewerSpec) (k := Rows.uptoSmall) rfl own started (by kernel_rfl) Try.func4
    (OpenSpec.witness (enc := enc) (C := Try.checked) (s := Rows.OpenSpec.upto Rows.routingFewerSpec) (k := Rows.uptoSmall) rfl false ⟨#[], wit, []⟩ 8 (by kernel_rfl) (by kernel_rfl) (by kernel_rfl)
      (x := (DataW.whole enc Try.prog (World.plainHolding Try.prog os ⟨#[], wit, []⟩).memory Try.f4.params.toList Rows.routingFewerSpec.vars false wit.toList 8).getD ([], [], [])) (by kernel_rfl) rfl (by kernel_rfl)) ?_
  intro W base args ds gs before hval hW _ hk _
  exact contract H enc W base args ds gs before hval hW hk
theorem over : Rows.routingFewerUptoRow.holds Try.pinned (Rows.OpenSpec.upto Rows.routingFewerSpec) :=
  OpenClaim.holds_of_cond 4 Try.f4 rfl rfl rfl rfl rfl rfl rfl ⟨rfl, rfl, rfl, rfl, rfl⟩ rfl rfl rfl rfl rfl (by kernel_rfl) Try.func4 (by kernel_rfl)
    (of_decide_eq_true (by kernel_rfl)) (by unfold Func.isWrapper; first | (rw [if_pos (by decide +kernel)]; kernel_rfl) | (rw [if_neg (by decide +kernel)]; exact ⟨rfl, rfl⟩))
    (fun os started H enc _ F => lifted os started H enc F)
theorem proved : Rows.RoutingFewerUptoSaid := over
end Go.Proofs.Ytkblpdepdncnmaa.routingFewer
end
