/- Part of the proof that the law RoutingTogether returns true and leaves its arguments as they were, for all arguments of bulk at most 1048576 (the Upto form). -/
import Derived.Test.YtkblpdepdncnmaaL2410
import Derived.Test.YtkblpdepdncnmaaL2407
import Derived.Test.YtkblpdepdncnmaaL2408
import Derived.Test.YtkblpdepdncnmaaL2406
import Derived.Deep.Slices
import Derived.OpenShut
import Derived.ChangeSame
import Derived.WideKeyArgs
import Derived.Below
import Derived.Test.YtkblpdepdncnmaaRows
set_option linter.all false
section
namespace Go.Sx
open Go.Proofs
theorem runL_unit_iff {ρ τ : Type} {step : τ → Unit → ρ ⊕ Unit} : ∀ {L : List τ}, runL step L () = .inr () ↔ ∀ x ∈ L, step x () = .inr ()
  | [] => by simp [runL]
  | x :: r => by
    simp only [runL, List.mem_cons, forall_eq_or_imp]
    cases h : step x () with
    | inl y => simp
    | inr y => simp only [true_and]; exact runL_unit_iff
theorem runL_unit_inl {τ : Type} {step : τ → Unit → Unit ⊕ Unit} {L : List τ} (h : ¬ ∀ x ∈ L, step x () = .inr ()) : runL step L () = .inl () := by
  cases hr : runL step L () with
  | inl y => rfl
  | inr y => exact absurd (runL_unit_iff.1 hr) h
theorem okM_unit {τ : Type} {step : τ → Unit → Unit ⊕ Unit} {p : τ → Unit → Prop} {l : List τ} (hp : ∀ x ∈ l, p x ()) : okM step p l () := fun L hL => by
  refine ⟨?_, okL_all _ _ fun x hx _ => hp x (hL.mem_iff.1 hx)⟩
  by_cases h : ∀ x ∈ l, step x () = .inr ()
  · rw [runL_unit_iff.2 h, runL_unit_iff.2 fun x hx => h x (hL.mem_iff.1 hx)]
  · rw [runL_unit_inl h, runL_unit_inl fun q => h fun x hx => q x (hL.mem_iff.2 hx)]
section
variable {κ υ : Type} [DecidableEq κ]
theorem mem_mupd : ∀ (l : List (κ × υ)) (x : κ) (y : υ) (e : κ × υ), e ∈ mupd l x y → e = (x, y) ∨ e ∈ l
  | [], x, y, e, h => by simp [mupd] at h; exact .inl h
  | (a, b) :: r, x, y, e, h => by
    unfold mupd at h
    by_cases q : x = a
    · rw [if_pos q] at h
      rcases List.mem_cons.1 h with h | h
      · exact .inl h
      · exact .inr (List.mem_cons_of_mem _ h)
    · rw [if_neg q] at h
      rcases List.mem_cons.1 h with h | h
      · exact .inr (h ▸ List.mem_cons_self)
      · rcases mem_mupd r x y e h with h | h
        · exact .inl h
        · exact .inr (List.mem_cons_of_mem _ h)
theorem mget_mem : ∀ (l : List (κ × υ)) (x : κ) (y : υ), mget l x = some y → (x, y) ∈ l
  | (a, b) :: r, x, y, h => by
    unfold mget at h
    by_cases q : x = a
    · rw [if_pos q] at h; cases h; subst q; exact List.mem_cons_self
    · rw [if_neg q] at h; exact List.mem_cons_of_mem _ (mget_mem r x y h)
theorem nodup_mupd {l : List (κ × υ)} (h : (l.map Prod.fst).Nodup) (x : κ) (y : υ) : ((mupd l x y).map Prod.fst).Nodup := by
  rw [keys_mupd]
  split
  · exact h
  · rename_i hn
    rw [List.nodup_append]
    exact ⟨h, by simp, fun a ha b hb e => by
      rw [List.mem_singleton] at hb
      subst hb; subst e
      exact hn ha⟩
end
structure SM (k : Tag) (f : k.T → Int) (m : List (k.T × Int)) : Prop where
  get : ∀ p, mgetT k .int m p = f p
  nd : (m.map Prod.fst).Nodup
  pos : ∀ e ∈ m, 1 ≤ e.2
theorem SM.nil {k : Tag} : SM k (fun _ => 0) [] := ⟨fun _ => rfl, List.nodup_nil, fun _ h => by cases h⟩
theorem SM.put {k : Tag} {f : k.T → Int} {m : List (k.T × Int)} (h : SM k f m) (x : k.T) {v : Int} (hv : 1 ≤ v) {g : k.T → Int} (hg : ∀ p, g p = if p = x then v else f p) : SM k g (mupdT k .int m x v) := by
  refine ⟨fun p => ?_, nodup_mupd h.nd x v, fun e he => ?_⟩
  · rw [mgetT_mupdT, h.get, hg]
  · rcases mem_mupd (υ := Int) m x v e he with rfl | he
    · exact hv
    · exact h.pos e he
theorem SM.entry {k : Tag} {f : k.T → Int} {m : List (k.T × Int)} (h : SM k f m) {e : k.T × Int} (he : e ∈ m) : e.2 = f e.1 ∧ 1 ≤ f e.1 := by
  have h1 := mem_mget m e h.nd he
  have h2 := h.get e.1
  unfold mgetT at h2
  rw [h1] at h2
  have h3 : e.2 = f e.1 := h2
  exact ⟨h3, h3 ▸ h.pos e he⟩
theorem SM.mem {k : Tag} {f : k.T → Int} {m : List (k.T × Int)} (h : SM k f m) {p : k.T} (hp : f p ≠ 0) : (p, f p) ∈ m := by
  have h2 := h.get p
  unfold mgetT at h2
  cases hm : mget m p with
  | none => rw [hm] at h2; exact absurd h2.symm hp
  | some v =>
    rw [hm] at h2
    have h3 : v = f p := h2
    exact h3 ▸ mget_mem m p v hm
theorem SM.congr {k : Tag} {f g : k.T → Int} {m : List (k.T × Int)} (h : SM k f m) (e : ∀ p, g p = f p) : SM k g m := ⟨fun p => by rw [h.get, e], h.nd, h.pos⟩
def gP (r h : Int) (x : Order) : Bool := !x.outlet && x.index == r && x.hour == h
def glit (l : List Order) (r h : Int) : Int := osum (gP r h) l
theorem gP_key {r h : Int} {x y : Order} (hx : gP r h x = true) (hy : gP r h y = true) : K x y := by
  unfold gP at hx hy
  simp only [Bool.and_eq_true, Bool.not_eq_true', beq_iff_eq] at hx hy
  exact ⟨by rw [hx.2, hy.2], by rw [hx.1.2, hy.1.2], by rw [hx.1.1, hy.1.1]⟩
theorem osum_single {p : Order → Bool} {l : List Order} (hk : l.Pairwise fun x y => ¬ K x y) (hp : ∀ x y, p x = true → p y = true → K x y) {x : Order} (hx : x ∈ l) (h : p x = true) : osum p l = x.litres := by
  obtain ⟨i, hi, rfl⟩ := List.getElem_of_mem hx
  refine osum_one hi h fun j hj hne => ?_
  cases hq : p l[j] with
  | false => rfl
  | true =>
    rw [List.pairwise_iff_getElem] at hk
    rcases Nat.lt_or_gt_of_ne hne with q | q
    · exact absurd (hp _ _ hq h) (hk j i hj hi q)
    · exact absurd (hp _ _ h hq) (hk i j hi hj q)
theorem glit_mem {l : List Order} (hk : l.Pairwise fun x y => ¬ K x y) {x : Order} (hx : x ∈ l) (ho : x.outlet = false) : glit l x.index x.hour = x.litres :=
  osum_single hk (fun _ _ h1 h2 => gP_key h1 h2) hx (by unfold gP; rw [ho]; simp)
theorem osum_ne {p : Order → Bool} {l : List Order} (h : osum p l ≠ 0) : ∃ x ∈ l, p x = true :=
  Classical.byContradiction fun q => h (osum_none fun x hx => by
    cases hp : p x with
    | false => rfl
    | true => exact absurd ⟨x, hx, hp⟩ q)
theorem glit_ne {l : List Order} (hk : l.Pairwise fun x y => ¬ K x y) {r h : Int} (hg : glit l r h ≠ 0) : ∃ x ∈ l, x.outlet = false ∧ x.index = r ∧ x.hour = h ∧ x.litres = glit l r h := by
  obtain ⟨x, hx, hp⟩ := osum_ne hg
  have := osum_single hk (fun _ _ h1 h2 => gP_key h1 h2) hx hp
  unfold gP at hp
  simp only [Bool.and_eq_true, Bool.not_eq_true', beq_iff_eq] at hp
  exact ⟨x, hx, hp.1.1, hp.1.2, hp.2, this.symm⟩
theorem gates_ok {l : List Order} (hk : l.Pairwise fun x y => ¬ K x y) (hl : ∀ x ∈ l, 1 ≤ x.litres) : SM .acequialaw22Place (fun p => glit l p.reach p.hour) (law22_gates l) := by
  let f : Order → List (Acequialaw22Place × Int) → Empty ⊕ List (Acequialaw22Place × Int) := fun x s => bif !x.outlet then .inr (mupdT .acequialaw22Place .int s { reach := x.index, hour := x.hour } x.litres) else .inr s
  have e : runI (law22_gates_l0 l) l.length 0 [] = runL f l [] := runI_eq_runL f default l []
  have key : ∀ (L pre : List Order) (m : List (Acequialaw22Place × Int)), (pre ++ L).Pairwise (fun x y => ¬ K x y) → (∀ x ∈ L, 1 ≤ x.litres) → SM .acequialaw22Place (fun p => glit pre p.reach p.hour) m → ∃ m', runL f L m = .inr m' ∧ SM .acequialaw22Place (fun p => glit (pre ++ L) p.reach p.hour) m' := by
    intro L
    induction L with
    | nil => intro pre m _ _ hm; exact ⟨m, rfl, by simpa using hm⟩
    | cons x L ih =>
      intro pre m hk hl hm
      have hk' : (pre ++ [x] ++ L).Pairwise (fun x y => ¬ K x y) := by simpa using hk
      have hnone : ∀ r h : Int, x.outlet = false → x.index = r → x.hour = h → glit pre r h = 0 := fun r h q1 q2 q3 => osum_none fun y hy => by
        cases hp : gP r h y with
        | false => rfl
        | true =>
          have : gP r h x = true := by unfold gP; rw [q1, q2, q3]; simp
          exact absurd (gP_key hp this) ((List.pairwise_append.1 hk).2.2 y hy x List.mem_cons_self)
      simp only [runL]
      cases ho : x.outlet with
      | true =>
        have ef : f x m = .inr m := by simp only [f, ho]; rfl
        rw [ef]
        obtain ⟨m', e1, e2⟩ := ih (pre ++ [x]) m hk' (fun y hy => hl y (List.mem_cons_of_mem _ hy)) (hm.congr fun p => by
          unfold glit; rw [osum_app]; simp [osum, gP, ho])
        exact ⟨m', e1, by simpa using e2⟩
      | false =>
        have ef : f x m = .inr (mupdT .acequialaw22Place .int m { reach := x.index, hour := x.hour } x.litres) := by simp only [f, ho]; rfl
        rw [ef]
        obtain ⟨m', e1, e2⟩ := ih (pre ++ [x]) _ hk' (fun y hy => hl y (List.mem_cons_of_mem _ hy)) (hm.put (k := .acequialaw22Place) { reach := x.index, hour := x.hour } (hl x List.mem_cons_self) (g := fun p => glit (pre ++ [x]) p.reach p.hour) fun p => by
          show glit (pre ++ [x]) p.reach p.hour = _
          unfold glit
          rw [osum_app]
          by_cases q : p = { reach := x.index, hour := x.hour }
          · rw [if_pos q]
            subst q
            have := hnone x.index x.hour ho rfl rfl
            unfold glit at this
            rw [this]
            simp [osum, gP, ho]
          · rw [if_neg q]
            have : gP p.reach p.hour x = false := by
              cases hp : gP p.reach p.hour x with
              | false => rfl
              | true =>
                unfold gP at hp
                simp only [Bool.and_eq_true, beq_iff_eq] at hp
                exact absurd (by rw [hp.1.2, hp.2]) q
            simp [osum, this])
        exact ⟨m', e1, by simpa using e2⟩
  obtain ⟨m', e1, e2⟩ := key l [] [] (by simpa using hk) hl (SM.nil.congr fun p => rfl)
  unfold law22_gates
  rw [e, e1]
  simpa using e2
end Go.Sx
end
section
namespace Go.Sx
open Go.Proofs
def Kept (d : District) (l : List Order) : Prop := ∀ r h : Int, 0 ≤ r → 1 ≤ drw d l r h → ∃ w, losses_Worst (rch d r) (glit l r (h - (rch d r).delay)) = (w, 0) ∧ drw d l r h ≤ w
theorem drw_src {d : District} {l : List Order} (hg : Good d l) {r h : Int} (hr : 0 ≤ r) (hd : drw d l r h ≠ 0) : r < (d.reaches.length : Int) ∧ 0 ≤ h ∧ h < d.hours := by
  obtain ⟨x, hx, hp⟩ := osum_ne hd
  have h1 := hg.one x hx
  unfold drawP at hp
  simp only [Bool.and_eq_true, Bool.or_eq_true, Bool.not_eq_true', beq_iff_eq] at hp
  have a1 := h1.hour0; have a2 := h1.hour; have a3 := h1.index0
  refine ⟨?_, by omega, by omega⟩
  rcases hp.2 with ⟨q1, q2⟩ | ⟨q1, q2⟩
  · have := h1.farm q1
    have := hg.right.farm x.index.toNat (by omega)
    omega
  · have := h1.reach q1
    have := up_lt hg.right (r := x.index.toNat) (by omega)
    rw [show ((x.index.toNat : Nat) : Int) = x.index from Int.toNat_of_nonneg a3] at this
    have q2' : (rch d x.index).up = r := q2
    omega
end Go.Sx
end
section
namespace Go.Sx
open Go.Proofs
theorem getDset0 {α : Type} (l : List α) (d r : α) (i k : Nat) (hi : i < l.length) : (l.set i r).getD k d = if k = i then r else l.getD k d := by
  rw [List.getD_eq_getElem?_getD, List.getElem?_set, List.getD_eq_getElem?_getD]
  by_cases h : k = i
  · subst h; simp [hi]
  · rw [if_neg (fun e => h e.symm), if_neg h]
theorem rev_run (l : List Int) (hl : l.length ≤ maxL) : okI (slices_Reverse_int_int_l0 l) (slices_Reverse_int_int_l0_p l) (l.length + 1) 0 (l, 0, (IntKind.i64.wrap ((l.length : Int) - 1))) ∧ runI (slices_Reverse_int_int_l0 l) (l.length + 1) 0 (l, 0, (IntKind.i64.wrap ((l.length : Int) - 1))) = .inl l.reverse := by
  unfold maxL at hl
  rw [wrapI (by omega) (by omega)]
  have key : ∀ (n k : Nat) (s : List Int), n + k = l.length + 1 → s.length = l.length → 2 * k ≤ l.length + 1 → (∀ p, p < l.length → s.getD p 0 = if p < k ∨ l.length ≤ p + k then l.getD (l.length - 1 - p) 0 else l.getD p 0) →
      okI (slices_Reverse_int_int_l0 l) (slices_Reverse_int_int_l0_p l) n k (s, (k : Int), (l.length : Int) - 1 - k) ∧ (1 ≤ n → runI (slices_Reverse_int_int_l0 l) n k (s, (k : Int), (l.length : Int) - 1 - k) = .inl l.reverse) := by
    intro n
    induction n with
    | zero => intro k s _ _ _ _; exact ⟨trivial, fun h => by omega⟩
    | succ n ih =>
      intro k s hn hs hk hp
      have hstep : slices_Reverse_int_int_l0 l k (s, (k : Int), (l.length : Int) - 1 - k) = if (k : Int) < (l.length : Int) - 1 - k then .inr ((s.set k (s.getD (l.length - 1 - k) 0)).set (l.length - 1 - k) (s.getD k 0), ((k + 1 : Nat) : Int), (l.length : Int) - 1 - ((k + 1 : Nat) : Int)) else .inl s := by
        unfold slices_Reverse_int_int_l0
        simp only
        by_cases hlt : (k : Int) < (l.length : Int) - 1 - k
        · rw [decide_eq_true hlt, if_pos hlt, wrapI (by omega) (by omega), wrapI (by omega) (by omega)]
          simp only [cond_true, Int.toNat_natCast]
          have e : ((l.length : Int) - 1 - k).toNat = l.length - 1 - k := by omega
          rw [e]
          congr 2
          congr 1
          omega
        · rw [decide_eq_false hlt, if_neg hlt]; rfl
      by_cases hlt : (k : Int) < (l.length : Int) - 1 - k
      · have hnew : ∀ p, p < l.length → ((s.set k (s.getD (l.length - 1 - k) 0)).set (l.length - 1 - k) (s.getD k 0)).getD p 0 = if p < k + 1 ∨ l.length ≤ p + (k + 1) then l.getD (l.length - 1 - p) 0 else l.getD p 0 := fun p hpl => by
          rw [getDset0 _ _ _ _ _ (by rw [List.length_set, hs]; omega), getDset0 _ _ _ _ _ (by rw [hs]; omega)]
          have h1 := hp k (by omega)
          have h2 := hp (l.length - 1 - k) (by omega)
          rw [if_neg (by omega)] at h1 h2
          by_cases q1 : p = l.length - 1 - k
          · rw [if_pos q1, if_pos (by omega), h1]
            congr 1; omega
          · rw [if_neg q1]
            by_cases q2 : p = k
            · rw [if_pos q2, if_pos (by omega), h2]
              congr 1; omega
            · rw [if_neg q2, hp p hpl]
              by_cases q3 : p < k ∨ l.length ≤ p + k
              · rw [if_pos q3, if_pos (by omega)]
              · rw [if_neg q3, if_neg (by omega)]
        have := ih (k + 1) _ (by omega) (by rw [List.length_set, List.length_set, hs]) (by omega) hnew
        refine ⟨⟨?_, fun s' hs' => ?_⟩, fun _ => ?_⟩
        · unfold slices_Reverse_int_int_l0_p
          simp only
          intro _
          have e1 : (s.set (Int.toNat (k : Int)) (s.getD (Int.toNat ((l.length : Int) - 1 - k)) 0)).length = l.length := by rw [List.length_set, hs]
          rw [hs, e1]
          omega
        · rw [hstep, if_pos hlt] at hs'
          cases hs'
          exact this.1
        · simp only [runI, hstep, if_pos hlt]
          exact this.2 (by omega)
      · refine ⟨⟨?_, fun s' hs' => ?_⟩, fun _ => ?_⟩
        · unfold slices_Reverse_int_int_l0_p
          simp only
          intro h
          rw [decide_eq_true_eq] at h
          exact absurd h hlt
        · rw [hstep, if_neg hlt] at hs'; cases hs'
        · simp only [runI, hstep, if_neg hlt]
          congr 1
          apply List.ext_getElem
          · rw [hs, List.length_reverse]
          · intro p h1 h2
            rw [List.getElem_reverse]
            have := hp p (by omega)
            rw [getD_el s 0 h1, getD_el l 0 (by omega)] at this
            rw [this]
            by_cases q : p < k ∨ l.length ≤ p + k
            · rw [if_pos q]
            · rw [if_neg q, getD_el l 0 (by omega)]
              congr 1; omega
  have h0 := key (l.length + 1) 0 l (by omega) rfl (by omega) (fun p hp => by rw [if_neg (by omega)])
  have e : (l.length : Int) - 1 - (0 : Nat) = (l.length : Int) - 1 := by omega
  rw [e] at h0
  exact ⟨h0.1, h0.2 (by omega)⟩
theorem rev_eq (l : List Int) (hl : l.length ≤ maxL) : slices_Reverse_int_int l = l.reverse := by
  unfold slices_Reverse_int_int
  rw [(rev_run l hl).2]
theorem rev_p (l : List Int) : slices_Reverse_int_int_p l := fun hl => ⟨(rev_run l hl).1, fun z hz => by rw [(rev_run l hl).2] at hz; cases hz⟩
theorem up_facts {d : District} (hr : Right1 d) : ∀ (f : Nat) (n : Int), n < (d.reaches.length : Int) → n < f → upOk d f n ∧ (upL d f n).length ≤ f ∧ ∀ x ∈ upL d f n, 0 ≤ x ∧ x < (d.reaches.length : Int)
  | 0, n, h1, h2 => ⟨by unfold upOk; omega, Nat.le_refl _, fun x hx => by cases hx⟩
  | f + 1, n, h1, h2 => by
    by_cases h0 : 0 ≤ n
    · have hup := up_lt hr (r := n.toNat) (by omega)
      rw [show ((n.toNat : Nat) : Int) = n from Int.toNat_of_nonneg h0] at hup
      have e : (d.reaches.getD n.toNat (dflt .reach)) = rch d n := rfl
      obtain ⟨i1, i2, i3⟩ := up_facts hr f (rch d n).up (by omega) (by omega)
      refine ⟨fun _ => ⟨h1, by rw [e]; exact i1⟩, ?_, fun x hx => ?_⟩
      · rw [upL, if_pos h0, e, List.length_cons]; omega
      · rw [upL, if_pos h0, e] at hx
        rcases List.mem_cons.1 hx with rfl | hx
        · exact ⟨h0, h1⟩
        · exact i3 x hx
    · refine ⟨fun h => absurd h h0, by rw [upL_end h0]; simp, fun x hx => by rw [upL_end h0] at hx; cases hx⟩
theorem canals_check_iff (d : District) (l : List Int) : canals_check d l = 0 ↔ expand_Check d = 0 ∧ ∀ x ∈ l, 0 ≤ x ∧ x < (d.reaches.length : Int) := by
  unfold canals_check
  cases h1 : (expand_Check d != 0) with
  | true => simp at h1; simp [h1]
  | false =>
    simp at h1
    simp only [cond_false, h1, true_and]
    let f : Int → Unit → Unit ⊕ Unit := fun x _ => (bif ((decide (x < 0)) || (decide (x ≥ (d.reaches.length : Int)))) then .inl () else .inr ())
    have e : runI (canals_check_l0 d l) l.length 0 () = runL f l () := runI_eq_runL f 0 l ()
    have key : runL f l () = .inr () ↔ ∀ x ∈ l, 0 ≤ x ∧ x < (d.reaches.length : Int) := by
      rw [runL_unit_iff]
      refine forall_congr' fun x => forall_congr' fun hx => ?_
      simp only [f]
      by_cases q : x < 0
      · rw [decide_eq_true q]; simp; omega
      · by_cases q2 : x ≥ (d.reaches.length : Int)
        · rw [decide_eq_true q2]; simp; omega
        · rw [decide_eq_false q, decide_eq_false q2]; simp; omega
    rw [e, ← key]
    cases h : runL f l () with
    | inl y => simp
    | inr y => simp
structure PathOk (d : District) (reach : Int) : Prop where
  chk : expand_Check d = 0
  r0 : 0 ≤ reach
  r1 : reach < (d.reaches.length : Int)
theorem PathOk.right {d : District} {reach : Int} (h : PathOk d reach) : Right1 d := check_right (by rw [h.chk]; rfl)
theorem path_iff (d : District) (reach : Int) : canals_check d [reach] = 0 ↔ PathOk d reach := by
  rw [canals_check_iff]
  exact ⟨fun ⟨h1, h2⟩ => ⟨h1, (h2 reach (by simp)).1, (h2 reach (by simp)).2⟩, fun h => ⟨h.chk, fun x hx => by rw [List.mem_singleton] at hx; subst hx; exact ⟨h.r0, h.r1⟩⟩⟩
theorem PathOk.up {d : District} {reach : Int} (h : PathOk d reach) : canals_up_p d reach ∧ (canals_up d reach).length ≤ 64 ∧ ∀ x ∈ canals_up d reach, 0 ≤ x ∧ x < (d.reaches.length : Int) := by
  have := up_facts h.right (reach.toNat + 1) reach h.r1 (by have := h.r0; omega)
  have h1 := h.right.reaches
  have h2 := h.r1
  exact ⟨this.1, by have := this.2.1; unfold canals_up; omega, this.2.2⟩
theorem canals_path_p (d : District) (reach : Int) : canals_Path_p d reach := fun h => by
  have hp := (path_iff d reach).1 (by simpa using h)
  have hu := hp.up
  exact ⟨⟨hp.r0, hu.1, by unfold maxB; omega⟩, rev_p _⟩
theorem canals_path_eq {d : District} {reach : Int} (h : PathOk d reach) : canals_Path d reach = ((canals_up d reach).reverse, 0) := by
  unfold canals_Path
  rw [(path_iff d reach).2 h, rev_eq _ (by have := h.up.2.1; unfold maxL; omega)]
  rfl
theorem path_p (d : District) (reach n : Int) : routing_path_p d reach n := canals_path_p d reach
theorem path_cases (d : District) (reach n : Int) : (PathOk d reach ∧ 0 ≤ n ∧ n ≤ 1073741824 ∧ routing_path d reach n = ((canals_up d reach).reverse, 0)) ∨ (PathOk d reach ∧ ¬ (0 ≤ n ∧ n ≤ 1073741824) ∧ routing_path d reach n = ([], 1)) ∨ (¬ PathOk d reach ∧ canals_check d [reach] ≠ 0 ∧ routing_path d reach n = ([], canals_check d [reach])) := by
  unfold routing_path
  by_cases h : PathOk d reach
  · rw [canals_path_eq h]
    simp only [bne_self_eq_false, cond_false]
    by_cases hn : 0 ≤ n ∧ n ≤ 1073741824
    · rw [decide_eq_false (by omega), decide_eq_false (by omega)]
      exact .inl ⟨h, hn.1, hn.2, rfl⟩
    · have : (decide (n < 0) || decide (n > 1073741824)) = true := by rw [Bool.or_eq_true, decide_eq_true_eq, decide_eq_true_eq]; omega
      rw [this]
      exact .inr (.inl ⟨h, hn, rfl⟩)
  · have hc : canals_check d [reach] ≠ 0 := fun e => h ((path_iff d reach).1 e)
    have e : canals_Path d reach = ([], canals_check d [reach]) := by
      unfold canals_Path
      have : (canals_check d [reach] != 0) = true := by simpa using hc
      rw [this]; rfl
    rw [e]
    have : (canals_check d [reach] != 0) = true := by simpa using hc
    simp only [this, cond_true]
    exact .inr (.inr ⟨h, hc, trivial⟩)
theorem worstR_p (d : District) (reach v : Int) : routing_Worst_p d reach v := by
  refine ⟨path_p _ _ _, fun h hl => ?_⟩
  rcases path_cases d reach v with ⟨h1, _, _, e⟩ | ⟨_, _, e⟩ | ⟨_, h2, e⟩
  · refine okI_all _ _ _ fun j s _ hj => ?_
    unfold routing_Worst_l0_p
    rw [e] at hj ⊢
    simp only at hj ⊢
    have := h1.up.2.2 _ (List.mem_reverse.1 (getD_mem' (canals_up d reach).reverse 0 (k := j) (by omega)))
    exact this
  · rw [e] at h; cases h
  · rw [e] at h
    simp only [bne_eq_false_iff_eq] at h
    exact absurd h h2
theorem back_mem (l : List Int) : ∀ (k : Nat), k ≤ l.length → ∀ x ∈ backL l k, x.2 ∈ l
  | 0, _, x, h => by cases h
  | k + 1, hk, x, h => by
    rcases List.mem_cons.1 h with rfl | h
    · exact getD_mem' l 0 (by omega)
    · exact back_mem l k (by omega) x h
theorem needR_p (d : District) (reach w : Int) : routing_Need_p d reach w := by
  refine ⟨path_p _ _ _, fun h => ?_⟩
  rcases path_cases d reach w with ⟨h1, _, _, e⟩ | ⟨_, _, e⟩ | ⟨_, h2, e⟩
  · refine okL_all _ _ fun x hx s => ?_
    rw [e] at hx
    have := h1.up.2.2 _ (List.mem_reverse.1 (back_mem _ _ (Nat.le_refl _) x hx))
    exact ⟨this, intake_p _ _⟩
  · rw [e] at h; cases h
  · rw [e] at h
    simp only [bne_eq_false_iff_eq] at h
    exact absurd h h2
theorem loads_p {d : District} {l : List Order} (h : Good d l) : routing_loads_p d l := fun _ => okI_all _ _ _ fun j s _ hj => fun ho => by
  have h1 := h.one _ (getD_mem' l default (k := j) (by omega))
  have h2 := h1.reach ho
  have h0 := h1.index0
  refine ⟨⟨h0, h2⟩, ?_⟩
  have := delay_pos h.right (r := (l.getD j default).index.toNat) (by omega)
  rw [show (((l.getD j default).index.toNat : Nat) : Int) = (l.getD j default).index from Int.toNat_of_nonneg h0] at this
  have e : (d.reaches.getD (Int.toNat (l.getD j default).index) (default : Reach)).delay = (rch d (l.getD j default).index).delay := rfl
  rw [e]; omega
theorem fits_p (d : District) (l : List Order) : routing_Fits_p d l := ⟨narrow_p _ _, fun h => by
  have hN := (narrow_iff d l).1 (by simpa using h)
  exact ⟨loads_p hN.good, by have := hN.good.right.hours; omega⟩⟩
theorem load_p (d : District) (l : List Order) (r h : Int) : routing_Load_p d l r h := ⟨narrow_p _ _, fun hn _ => loads_p ((narrow_iff d l).1 (by simpa using hn)).good⟩
theorem same_p (a b : List Order) : ref22_Same_p a b := fun _ _ h => okI_all _ _ _ fun j s _ hj => fun _ => by
  simp only [bne_eq_false_iff_eq] at h
  omega
end Go.Sx
end
section
namespace Go.Sx
open Go.Proofs Go.Shelf Go.Sort Go.Lib
theorem srt_eq {l m : List Order} (hp : m.Perm l) (hs : m.Pairwise olt) : srt routing_by_1 l = m := by
  have hk : l.Pairwise fun x y => ¬ K x y := pairwise_perm hp.symm (hs.imp fun {_ _} q => olt_ne q)
  exact List.Perm.eq_of_pairwise (fun a b _ _ h1 h2 => absurd h2 (fun h2 => by unfold olt at h1 h2; omega)) (srt_lt hk) hs ((srt_perm l).trans hp.symm)
theorem s_c11 : law22_sane_c11 = (9, true, 0) := by kernel_rfl
theorem s_c10 : law22_sane_c10 = (5, 0) := by kernel_rfl
theorem s_c9 : law22_sane_c9 = (0, 1) := by kernel_rfl
theorem s_c7 : law22_sane_c7 = ([], false, 0) := by kernel_rfl
theorem s_c5 : law22_sane_c5 = ([], false, 220) := by kernel_rfl
theorem s_c6' : law22_sane_c6 = (srt routing_by_1 [({ hour := 3, index := 0, litres := 5, outlet := true } : Order), ({ hour := 2, index := 1, litres := 7, outlet := false } : Order), ({ hour := 1, index := 0, litres := 9, outlet := false } : Order)], true, 0) := by kernel_rfl
theorem s_c6 : law22_sane_c6 = (law22_sane_c13, true, 0) := by
  rw [s_c6', srt_eq (m := law22_sane_c13) (by unfold law22_sane_c13; exact (List.reverse_perm [({ hour := 3, index := 0, litres := 5, outlet := true } : Order), ({ hour := 2, index := 1, litres := 7, outlet := false } : Order), ({ hour := 1, index := 0, litres := 9, outlet := false } : Order)])) (by
    unfold law22_sane_c13
    simp [olt])]
theorem s_c4 : law22_sane_c4 = law22_sane_c13 := by unfold law22_sane_c4; rw [s_c6]
theorem s_c0 : law22_sane_c0 = (true, 0, 0, 0) := by unfold law22_sane_c0; rw [s_c4]; kernel_rfl
theorem s_c1 : law22_sane_c1 = (12, 0) := by kernel_rfl
theorem s_c3 : law22_sane_c3 = (false, 1, 0, 0) := by kernel_rfl
theorem s_c2 : law22_sane_c2 = 0 := by kernel_rfl
theorem sane_t : law22_sane = true := by
  unfold law22_sane
  rw [s_c11, s_c10, s_c9, s_c7, s_c5, s_c6, s_c0, s_c1, s_c3, s_c2, s_c4]
  kernel_rfl
theorem sane_p : law22_sane_p := ⟨needR_p _ _ _, worstR_p _ _ _, plan_p _ _, plan_p _ _, plan_p _ _, worstR_p _ _ _, fits_p _ _, ⟨Nat.le_refl _, by unfold law22_example; simp⟩, load_p _ _ _ _, fits_p _ _, fun _ => routing_pt _ _, fun _ _ => same_p _ _⟩
theorem osum_perm {P : Order → Bool} {l m : List Order} (h : l.Perm m) : osum P l = osum P m := by
  induction h with
  | nil => rfl
  | cons x _ ih => simp only [osum, ih]
  | swap x y l => simp only [osum]; omega
  | trans _ _ ih1 ih2 => rw [ih1, ih2]
theorem drawP_key (d : District) (r h : Int) (x y : Order) (hk : K x y) : drawP d r h x = drawP d r h y := by
  unfold drawP; rw [hk.1, hk.2.1, hk.2.2]
structure Keeps (d : District) (l : List Order) : Prop where
  good : Good d l
  sip : ∀ x ∈ l, x.outlet = false → (rch d x.index).siphon ≤ x.litres
  kept : Kept d l
theorem keeps_use {d : District} {l : List Order} (h : Keeps d l) {r hh : Int} (r0 : 0 ≤ r) (h1 : 1 ≤ drw d l r hh) : ∃ z ∈ l, z.outlet = false ∧ z.index = r ∧ z.hour = hh - (rch d r).delay ∧ drw d l r hh ≤ wst (rch d r) z.litres ∧ 1 ≤ z.litres ∧ z.litres ≤ 1073741824 ∧ (rch d r).siphon ≤ z.litres ∧ r < (d.reaches.length : Int) := by
  obtain ⟨w, e1, e2⟩ := h.kept r hh r0 h1
  obtain ⟨q1, _, _⟩ := drw_src h.good r0 (by omega : drw d l r hh ≠ 0)
  have hx : expand_reach (r.toNat : Int) (rch d r) = true := h.good.right.reach r.toNat (by omega)
  by_cases hg : glit l r (hh - (rch d r).delay) = 0
  · exfalso
    rw [hg, losses_worst hx (Int.le_refl 0) (by omega), wst_zero hx] at e1
    cases e1; omega
  · obtain ⟨z, hz, z1, z2, z3, z4⟩ := glit_ne h.good.keys hg
    have hl := h.good.orders.lit z hz
    rw [← z4, losses_worst hx (by omega) hl.2] at e1
    cases e1
    have := h.sip z hz z1
    rw [z2] at this
    exact ⟨z, hz, z1, z2, z3, e2, hl.1, hl.2, this, q1⟩
theorem plan_keeps {d : District} {out gs : List Order} (ho : Good d out) (hall : ∀ x ∈ out, x.outlet = true) (h : PL d out gs) : Keeps d (srt routing_by_1 (out ++ gs)) := by
  have hr := ho.right
  have hperm := srt_perm (out ++ gs)
  have hk := fin_keys ho hall h.fin
  refine ⟨h.good, fun x hx hxo => ?_, fun r hh r0 h1 => ?_⟩
  · rcases List.mem_append.1 (hperm.mem_iff.1 hx) with q | q
    · rw [hall x q] at hxo; cases hxo
    · exact (gate_lit hr (h.fin.gate x q)).2.2.1
  · have hd : drw d (srt routing_by_1 (out ++ gs)) r hh = drw d (out ++ gs) r hh := osum_perm hperm
    obtain ⟨q1, q2, q3⟩ := drw_src h.good r0 (by omega : drw d (srt routing_by_1 (out ++ gs)) r hh ≠ 0)
    obtain ⟨x, hx, e1, e2⟩ := h.fin.all r hh r0 q1 q2 q3 (by omega)
    have g := h.fin.gate x hx
    have gl := gate_lit hr g
    rw [e1, e2] at gl
    have hxr : expand_reach (r.toNat : Int) (rch d r) = true := hr.reach r.toNat (by omega)
    have hg : glit (srt routing_by_1 (out ++ gs)) r (hh - (rch d r).delay) = x.litres := by
      have e : glit (srt routing_by_1 (out ++ gs)) x.index x.hour = x.litres := glit_mem h.good.keys (hperm.mem_iff.2 (List.mem_append_right _ hx)) g.out
      rw [e1, show x.hour = hh - (rch d r).delay by omega] at e
      exact e
    refine ⟨wst (rch d r) x.litres, ?_, by rw [hd]; exact gl.2.2.2.1⟩
    rw [hg]
    exact losses_worst hxr (by omega) gl.2.1
end Go.Sx
end
section
namespace Go.Sx
open Go.Proofs Go.Shelf Go.Sort Go.Lib
theorem gates_of {d : District} {l : List Order} (h : Good d l) : SM .acequialaw22Place (fun p => glit l p.reach p.hour) (law22_gates l) := gates_ok h.keys fun x hx => (h.orders.lit x hx).1
end Go.Sx
end
section
namespace Go.Sx
open Go.Proofs Go.Shelf Go.Sort Go.Lib
theorem runI_J {ρ σ : Type} {step : Nat → σ → ρ ⊕ σ} (J : Nat → σ → Prop) : ∀ (n i : Nat) (s : σ), J i s → (∀ j s, i ≤ j → j < i + n → J j s → ∃ s', step j s = .inr s' ∧ J (j + 1) s') → ∃ s', runI step n i s = .inr s' ∧ J (i + n) s'
  | 0, i, s, h, _ => ⟨s, rfl, h⟩
  | n + 1, i, s, h, hs => by
    obtain ⟨s1, e1, h1⟩ := hs i s (Nat.le_refl _) (by omega) h
    obtain ⟨s2, e2, h2⟩ := runI_J J n (i + 1) s1 h1 fun j s a b => hs j s (by omega) (by omega)
    exact ⟨s2, by simp only [runI, e1]; exact e2, by rwa [show i + (n + 1) = i + 1 + n by omega]⟩
theorem Nar.keep {d : District} {l m : List Order} (h : Nar d l) (hm : Good d m) : Nar d m := ⟨hm, h.wide⟩
end Go.Sx
end
section
namespace Go.Sx
universe u
section
variable {α : Type u}
def pV (k : Int → List SV → Option α) : List SV → Option α
  | .v (.int .u8 n) :: r => k n r
  | _ => none
@[go_sem] theorem pV_cons {k : Int → List SV → Option α} {n : Int} {r : List SV} : pV k (.v (.int .u8 n) :: r) = k n r := (rfl)
def pW (k : Int → List SV → Option α) : List SV → Option α
  | .v (.int .u16 n) :: r => k n r
  | _ => none
@[go_sem] theorem pW_cons {k : Int → List SV → Option α} {n : Int} {r : List SV} : pW k (.v (.int .u16 n) :: r) = k n r := (rfl)
theorem pW_inv {k : Int → List SV → Option α} {l : List SV} {c : α} (h : pW k l = some c) : ∃ n r, l = .v (.int .u16 n) :: r ∧ k n r = some c := by
  unfold pW at h
  split at h
  · exact ⟨_, _, rfl, h⟩
  · cases h
theorem pW_all {G : List SV → α → Prop} {k : Int → List SV → Option α} (h : ∀ n l c, k n l = some c → G (.v (.int .u16 n) :: l) c) : ∀ l c, pW k l = some c → G l c := fun l c hc => by
  obtain ⟨n, r, rfl, h1⟩ := pW_inv hc; exact h n r c h1
end
end Go.Sx
end
section
namespace Go.Sx
open Go.Proofs
set_option maxRecDepth 100000
set_option linter.unusedSimpArgs false
theorem crSxR9_0 {p : Prop} (h : p := by (first | done | (repeat' (first | with_reducible refine And.intro ?_ ?_ | ((with_reducible show _ ≠ _); first | assumption | omega | (simp_all [outR, outL]; done) | grind) | with_reducible intro _)) <;> (first | done | exact Empty.elim ‹Empty› | assumption | rfl | omega | decide | exact fk [0, 1, 2, 3, 4, 5, 6, 7, 8, 9, 10] | (simp only [*, cond_true, cond_false, Bool.not_true, Bool.not_false, go_sem, Nat.reduceBEq, Nat.reduceLeDiff, Nat.reduceLT, decide_true, Nat.reduceAdd, Nat.reduceSub, Nat.reduceMul, Int.reduceLE, Int.reduceLT, Int.reduceToNat, Int.reduceNeg, reduceCtorEq]; done) | (simp only [*, cond_true, cond_false, Bool.not_true, Bool.not_false, go_sem, Nat.reduceBEq, Nat.reduceLeDiff, Nat.reduceLT, decide_true, Nat.reduceAdd, Nat.reduceSub, Nat.reduceMul, Int.reduceLE, Int.reduceLT, Int.reduceToNat, Int.reduceNeg, reduceCtorEq]; (repeat' (first | with_reducible refine And.intro ?_ ?_ | ((with_reducible show _ ≠ _); first | assumption | omega | (simp_all [outR, outL]; done) | grind) | with_reducible intro _)) <;> (first | done | assumption | rfl | omega | decide | exact fk [0, 1, 2, 3, 4, 5, 6, 7, 8, 9, 10] | (simp_all [outR, outL]; done))) | (simp_all [okI, outR, outL]; done) | (simp_all [outR, outL]; (first | done | exact fk2 [0, 1, 2, 3, 4, 5, 6, 7, 8, 9, 10])) | exact fk2 [0, 1, 2, 3, 4, 5, 6, 7, 8, 9, 10]))) : p := h
theorem crSxR9_1 {p : Prop} (h : p := by (first | done | (repeat' (first | with_reducible refine And.intro ?_ ?_ | ((with_reducible show _ ≠ _); first | assumption | omega | (simp_all [outR, outL]; done) | grind) | with_reducible intro _)) <;> (first | done | exact Empty.elim ‹Empty› | assumption | rfl | omega | decide | exact fk [0, 1, 2, 3, 4, 5, 6, 7] | (simp only [*, cond_true, cond_false, Bool.not_true, Bool.not_false, go_sem, Nat.reduceBEq, Nat.reduceLeDiff, Nat.reduceLT, decide_true, Nat.reduceAdd, Nat.reduceSub, Nat.reduceMul, Int.reduceLE, Int.reduceLT, Int.reduceToNat, Int.reduceNeg, reduceCtorEq]; done) | (simp only [*, cond_true, cond_false, Bool.not_true, Bool.not_false, go_sem, Nat.reduceBEq, Nat.reduceLeDiff, Nat.reduceLT, decide_true, Nat.reduceAdd, Nat.reduceSub, Nat.reduceMul, Int.reduceLE, Int.reduceLT, Int.reduceToNat, Int.reduceNeg, reduceCtorEq]; (repeat' (first | with_reducible refine And.intro ?_ ?_ | ((with_reducible show _ ≠ _); first | assumption | omega | (simp_all [outR, outL]; done) | grind) | with_reducible intro _)) <;> (first | done | assumption | rfl | omega | decide | exact fk [0, 1, 2, 3, 4, 5, 6, 7] | (simp_all [outR, outL]; done))) | (simp_all [okI, outR, outL]; done) | (simp_all [outR, outL]; (first | done | exact fk2 [0, 1, 2, 3, 4, 5, 6, 7])) | exact fk2 [0, 1, 2, 3, 4, 5, 6, 7]))) : p := h
theorem crSxR9_2 {p : Prop} (h : p := by (first | done | (repeat' (first | with_reducible refine And.intro ?_ ?_ | ((with_reducible show _ ≠ _); first | assumption | omega | (simp_all [outR, outL]; done) | grind) | with_reducible intro _)) <;> (first | done | exact Empty.elim ‹Empty› | assumption | rfl | omega | decide | exact fk [0, 6, 9] | exact fk [0, 6, 2] | exact fk [0, 1, 6] | exact fk [0, 1, 2] | (simp only [*, cond_true, cond_false, Bool.not_true, Bool.not_false, go_sem, Nat.reduceBEq, Nat.reduceLeDiff, Nat.reduceLT, decide_true, Nat.reduceAdd, Nat.reduceSub, Nat.reduceMul, Int.reduceLE, Int.reduceLT, Int.reduceToNat, Int.reduceNeg, reduceCtorEq]; done) | (simp only [*, cond_true, cond_false, Bool.not_true, Bool.not_false, go_sem, Nat.reduceBEq, Nat.reduceLeDiff, Nat.reduceLT, decide_true, Nat.reduceAdd, Nat.reduceSub, Nat.reduceMul, Int.reduceLE, Int.reduceLT, Int.reduceToNat, Int.reduceNeg, reduceCtorEq]; (repeat' (first | with_reducible refine And.intro ?_ ?_ | ((with_reducible show _ ≠ _); first | assumption | omega | (simp_all [outR, outL]; done) | grind) | with_reducible intro _)) <;> (first | done | assumption | rfl | omega | decide | exact fk [0, 6, 9] | exact fk [0, 6, 2] | exact fk [0, 1, 6] | exact fk [0, 1, 2] | (simp_all [outR, outL]; done))) | (simp_all [okI, outR, outL]; done) | (simp_all [outR, outL]; (first | done | exact fk2 [0, 6, 9] | exact fk2 [0, 6, 2] | exact fk2 [0, 1, 6] | exact fk2 [0, 1, 2])) | exact fk2 [0, 6, 9] | exact fk2 [0, 6, 2] | exact fk2 [0, 1, 6] | exact fk2 [0, 1, 2]))) : p := h
theorem crSxR9_3 {p : Prop} (h : p := by (first | done | (repeat' (first | with_reducible refine And.intro ?_ ?_ | ((with_reducible show _ ≠ _); first | assumption | omega | (simp_all [outR, outL]; done) | grind) | with_reducible intro _)) <;> (first | done | exact Empty.elim ‹Empty› | assumption | rfl | omega | decide | exact fk [0, 1, 2, 3, 4, 5, 6, 7, 8] | (simp only [*, cond_true, cond_false, Bool.not_true, Bool.not_false, go_sem, Nat.reduceBEq, Nat.reduceLeDiff, Nat.reduceLT, decide_true, Nat.reduceAdd, Nat.reduceSub, Nat.reduceMul, Int.reduceLE, Int.reduceLT, Int.reduceToNat, Int.reduceNeg, reduceCtorEq]; done) | (simp only [*, cond_true, cond_false, Bool.not_true, Bool.not_false, go_sem, Nat.reduceBEq, Nat.reduceLeDiff, Nat.reduceLT, decide_true, Nat.reduceAdd, Nat.reduceSub, Nat.reduceMul, Int.reduceLE, Int.reduceLT, Int.reduceToNat, Int.reduceNeg, reduceCtorEq]; (repeat' (first | with_reducible refine And.intro ?_ ?_ | ((with_reducible show _ ≠ _); first | assumption | omega | (simp_all [outR, outL]; done) | grind) | with_reducible intro _)) <;> (first | done | assumption | rfl | omega | decide | exact fk [0, 1, 2, 3, 4, 5, 6, 7, 8] | (simp_all [outR, outL]; done))) | (simp_all [okI, outR, outL]; done) | (simp_all [outR, outL]; (first | done | exact fk2 [0, 1, 2, 3, 4, 5, 6, 7, 8])) | exact fk2 [0, 1, 2, 3, 4, 5, 6, 7, 8]))) : p := h
theorem crSxR9_4 {p : Prop} (h : p := by (first | done | (repeat' (first | with_reducible refine And.intro ?_ ?_ | ((with_reducible show _ ≠ _); first | assumption | omega | (simp_all [outR, outL]; done) | grind) | with_reducible intro _)) <;> (first | done | exact Empty.elim ‹Empty› | assumption | rfl | omega | decide | exact fk [0, 1, 2, 3, 4, 5, 6, 7, 8, 9] | (simp only [*, cond_true, cond_false, Bool.not_true, Bool.not_false, go_sem, Nat.reduceBEq, Nat.reduceLeDiff, Nat.reduceLT, decide_true, Nat.reduceAdd, Nat.reduceSub, Nat.reduceMul, Int.reduceLE, Int.reduceLT, Int.reduceToNat, Int.reduceNeg, reduceCtorEq]; done) | (simp only [*, cond_true, cond_false, Bool.not_true, Bool.not_false, go_sem, Nat.reduceBEq, Nat.reduceLeDiff, Nat.reduceLT, decide_true, Nat.reduceAdd, Nat.reduceSub, Nat.reduceMul, Int.reduceLE, Int.reduceLT, Int.reduceToNat, Int.reduceNeg, reduceCtorEq]; (repeat' (first | with_reducible refine And.intro ?_ ?_ | ((with_reducible show _ ≠ _); first | assumption | omega | (simp_all [outR, outL]; done) | grind) | with_reducible intro _)) <;> (first | done | assumption | rfl | omega | decide | exact fk [0, 1, 2, 3, 4, 5, 6, 7, 8, 9] | (simp_all [outR, outL]; done))) | (simp_all [okI, outR, outL]; done) | (simp_all [outR, outL]; (first | done | exact fk2 [0, 1, 2, 3, 4, 5, 6, 7, 8, 9])) | exact fk2 [0, 1, 2, 3, 4, 5, 6, 7, 8, 9]))) : p := h
theorem exSxR9_2 {p : Prop} (h : p := by simp only [go_sem, Nat.reduceBEq, Nat.reduceLeDiff, Nat.reduceLT, decide_true, Nat.reduceAdd, Nat.reduceSub, Nat.reduceMul, Int.reduceLE, Int.reduceLT, Int.reduceToNat, Int.reduceNeg, reduceCtorEq, hc, hw]; all_goals exact crSxR9_2) : p := h
theorem ezSxR9_2 {p : Prop} (h : p := by simp only [go_sem, Nat.reduceBEq, Nat.reduceLeDiff, Nat.reduceLT, decide_true, Nat.reduceAdd, Nat.reduceSub, Nat.reduceMul, Int.reduceLE, Int.reduceLT, Int.reduceToNat, Int.reduceNeg, reduceCtorEq, hc]; all_goals exact crSxR9_2) : p := h
@[go_sem] def law22_RoutingFewer_l0 (a0 : District) (a1 : List Order) (a2 : Int) (a3 : Int) (k_0 : Acequialaw22Place × Int) (s_0 : Unit) : Unit ⊕ Unit := (bif (decide ((mgetT .acequialaw22Place .int (law22_gates ((routing_Plan a0 a1).1)) k_0.1) < k_0.2)) then .inl () else .inr ())
def law22_RoutingFewer_l0_p (a0 : District) (a1 : List Order) (a2 : Int) (a3 : Int) (k_0 : Acequialaw22Place × Int) (s_0 : Unit) : Prop := True
@[go_sem] def law22_RoutingFewer_l1 (a0 : District) (a1 : List Order) (a2 : Int) (k_1 : Acequialaw22Place × Int) (s_1 : Unit) : Unit ⊕ Unit := (bif (decide ((mgetT .acequialaw22Place .int (law22_gates ((routing_Plan a0 a1).1)) k_1.1) < k_1.2)) then .inl () else .inr ())
def law22_RoutingFewer_l1_p (a0 : District) (a1 : List Order) (a2 : Int) (k_1 : Acequialaw22Place × Int) (s_1 : Unit) : Prop := True
def law22_RoutingFewer (a0 : District) (a1 : List Order) (a2 : Int) (a3 : Int) : Bool := (bif (!law22_sane) then false else (bif ((!(ref22_Few a0 a1)) || ((a1.length : Int) == 0)) then true else (bif (((routing_Plan a0 a1).2.2 != 0) || (!(routing_Plan a0 a1).2.1)) then true else (bif ((decide (a3 > 0)) && (decide (a3 < (a1.getD (Int.toNat (Int.tmod (IntKind.i64.wrap a2) (a1.length : Int))) (default : Order)).litres))) then (bif (((routing_Plan a0 (((([]) ++ ((a1.take (Int.toNat (Int.tmod (IntKind.i64.wrap a2) (a1.length : Int)))).drop 0)) ++ ([({ hour := (a1.getD (Int.toNat (Int.tmod (IntKind.i64.wrap a2) (a1.length : Int))) (default : Order)).hour, index := (a1.getD (Int.toNat (Int.tmod (IntKind.i64.wrap a2) (a1.length : Int))) (default : Order)).index, litres := (IntKind.i64.wrap ((a1.getD (Int.toNat (Int.tmod (IntKind.i64.wrap a2) (a1.length : Int))) (default : Order)).litres - a3)), outlet := (a1.getD (Int.toNat (Int.tmod (IntKind.i64.wrap a2) (a1.length : Int))) (default : Order)).outlet } : Order)])) ++ ((a1.take (Int.toNat (a1.length : Int))).drop (Int.toNat (IntKind.i64.wrap ((Int.tmod (IntKind.i64.wrap a2) (a1.length : Int)) + 1)))))).2.2 != 0) || (!(routing_Plan a0 (((([]) ++ ((a1.take (Int.toNat (Int.tmod (IntKind.i64.wrap a2) (a1.length : Int)))).drop 0)) ++ ([({ hour := (a1.getD (Int.toNat (Int.tmod (IntKind.i64.wrap a2) (a1.length : Int))) (default : Order)).hour, index := (a1.getD (Int.toNat (Int.tmod (IntKind.i64.wrap a2) (a1.length : Int))) (default : Order)).index, litres := (IntKind.i64.wrap ((a1.getD (Int.toNat (Int.tmod (IntKind.i64.wrap a2) (a1.length : Int))) (default : Order)).litres - a3)), outlet := (a1.getD (Int.toNat (Int.tmod (IntKind.i64.wrap a2) (a1.length : Int))) (default : Order)).outlet } : Order)])) ++ ((a1.take (Int.toNat (a1.length : Int))).drop (Int.toNat (IntKind.i64.wrap ((Int.tmod (IntKind.i64.wrap a2) (a1.length : Int)) + 1)))))).2.1)) then false else (match runL (law22_RoutingFewer_l0 a0 a1 a2 a3) (law22_gates ((routing_Plan a0 (((([]) ++ ((a1.take (Int.toNat (Int.tmod (IntKind.i64.wrap a2) (a1.length : Int)))).drop 0)) ++ ([({ hour := (a1.getD (Int.toNat (Int.tmod (IntKind.i64.wrap a2) (a1.length : Int))) (default : Order)).hour, index := (a1.getD (Int.toNat (Int.tmod (IntKind.i64.wrap a2) (a1.length : Int))) (default : Order)).index, litres := (IntKind.i64.wrap ((a1.getD (Int.toNat (Int.tmod (IntKind.i64.wrap a2) (a1.length : Int))) (default : Order)).litres - a3)), outlet := (a1.getD (Int.toNat (Int.tmod (IntKind.i64.wrap a2) (a1.length : Int))) (default : Order)).outlet } : Order)])) ++ ((a1.take (Int.toNat (a1.length : Int))).drop (Int.toNat (IntKind.i64.wrap ((Int.tmod (IntKind.i64.wrap a2) (a1.length : Int)) + 1)))))).1)) () with | .inl x_0_0 => false | .inr s_0 => ((((routing_Fits a0 ((routing_Plan a0 a1).1)).2.2.2 == 0) && ((routing_Fits a0 ((routing_Plan a0 (((([]) ++ ((a1.take (Int.toNat (Int.tmod (IntKind.i64.wrap a2) (a1.length : Int)))).drop 0)) ++ ([({ hour := (a1.getD (Int.toNat (Int.tmod (IntKind.i64.wrap a2) (a1.length : Int))) (default : Order)).hour, index := (a1.getD (Int.toNat (Int.tmod (IntKind.i64.wrap a2) (a1.length : Int))) (default : Order)).index, litres := (IntKind.i64.wrap ((a1.getD (Int.toNat (Int.tmod (IntKind.i64.wrap a2) (a1.length : Int))) (default : Order)).litres - a3)), outlet := (a1.getD (Int.toNat (Int.tmod (IntKind.i64.wrap a2) (a1.length : Int))) (default : Order)).outlet } : Order)])) ++ ((a1.take (Int.toNat (a1.length : Int))).drop (Int.toNat (IntKind.i64.wrap ((Int.tmod (IntKind.i64.wrap a2) (a1.length : Int)) + 1)))))).1)).2.2.2 == 0)) && ((!(routing_Fits a0 ((routing_Plan a0 a1).1)).1) || (routing_Fits a0 ((routing_Plan a0 (((([]) ++ ((a1.take (Int.toNat (Int.tmod (IntKind.i64.wrap a2) (a1.length : Int)))).drop 0)) ++ ([({ hour := (a1.getD (Int.toNat (Int.tmod (IntKind.i64.wrap a2) (a1.length : Int))) (default : Order)).hour, index := (a1.getD (Int.toNat (Int.tmod (IntKind.i64.wrap a2) (a1.length : Int))) (default : Order)).index, litres := (IntKind.i64.wrap ((a1.getD (Int.toNat (Int.tmod (IntKind.i64.wrap a2) (a1.length : Int))) (default : Order)).litres - a3)), outlet := (a1.getD (Int.toNat (Int.tmod (IntKind.i64.wrap a2) (a1.length : Int))) (default : Order)).outlet } : Order)])) ++ ((a1.take (Int.toNat (a1.length : Int))).drop (Int.toNat (IntKind.i64.wrap ((Int.tmod (IntKind.i64.wrap a2) (a1.length : Int)) + 1)))))).1)).1)))) else (bif (((routing_Plan a0 ((([]) ++ ((a1.take (Int.toNat (Int.tmod (IntKind.i64.wrap a2) (a1.length : Int)))).drop 0)) ++ ((a1.take (Int.toNat (a1.length : Int))).drop (Int.toNat (IntKind.i64.wrap ((Int.tmod (IntKind.i64.wrap a2) (a1.length : Int)) + 1)))))).2.2 != 0) || (!(routing_Plan a0 ((([]) ++ ((a1.take (Int.toNat (Int.tmod (IntKind.i64.wrap a2) (a1.length : Int)))).drop 0)) ++ ((a1.take (Int.toNat (a1.length : Int))).drop (Int.toNat (IntKind.i64.wrap ((Int.tmod (IntKind.i64.wrap a2) (a1.length : Int)) + 1)))))).2.1)) then false else (match runL (law22_RoutingFewer_l1 a0 a1 a2) (law22_gates ((routing_Plan a0 ((([]) ++ ((a1.take (Int.toNat (Int.tmod (IntKind.i64.wrap a2) (a1.length : Int)))).drop 0)) ++ ((a1.take (Int.toNat (a1.length : Int))).drop (Int.toNat (IntKind.i64.wrap ((Int.tmod (IntKind.i64.wrap a2) (a1.length : Int)) + 1)))))).1)) () with | .inl x_1_0 => false | .inr s_1 => ((((routing_Fits a0 ((routing_Plan a0 a1).1)).2.2.2 == 0) && ((routing_Fits a0 ((routing_Plan a0 ((([]) ++ ((a1.take (Int.toNat (Int.tmod (IntKind.i64.wrap a2) (a1.length : Int)))).drop 0)) ++ ((a1.take (Int.toNat (a1.length : Int))).drop (Int.toNat (IntKind.i64.wrap ((Int.tmod (IntKind.i64.wrap a2) (a1.length : Int)) + 1)))))).1)).2.2.2 == 0)) && ((!(routing_Fits a0 ((routing_Plan a0 a1).1)).1) || (routing_Fits a0 ((routing_Plan a0 ((([]) ++ ((a1.take (Int.toNat (Int.tmod (IntKind.i64.wrap a2) (a1.length : Int)))).drop 0)) ++ ((a1.take (Int.toNat (a1.length : Int))).drop (Int.toNat (IntKind.i64.wrap ((Int.tmod (IntKind.i64.wrap a2) (a1.length : Int)) + 1)))))).1)).1))))))))
def law22_RoutingFewer_p (a0 : District) (a1 : List Order) (a2 : Int) (a3 : Int) : Prop := ((law22_sane_p) ∧ ((!law22_sane) = false → (((!(ref22_Few a0 a1)) || ((a1.length : Int) == 0)) = false → ((routing_Plan_p a0 a1) ∧ ((((routing_Plan a0 a1).2.2 != 0) || (!(routing_Plan a0 a1).2.1)) = false → (a1.length ≤ maxL → ((a1.length : Int) ≠ 0 ∧ ((0 ≤ 0 ∧ 0 ≤ (Int.tmod (IntKind.i64.wrap a2) (a1.length : Int)) ∧ (Int.tmod (IntKind.i64.wrap a2) (a1.length : Int)) ≤ (a1.length : Int)) ∧ (((([]) ++ ((a1.take (Int.toNat (Int.tmod (IntKind.i64.wrap a2) (a1.length : Int)))).drop 0)).length * 32 ≤ maxB) ∧ ((([]) ++ ((a1.take (Int.toNat (Int.tmod (IntKind.i64.wrap a2) (a1.length : Int)))).drop 0)).length ≤ maxL → (((decide (a3 > 0)) = true → (0 ≤ (Int.tmod (IntKind.i64.wrap a2) (a1.length : Int)) ∧ (Int.tmod (IntKind.i64.wrap a2) (a1.length : Int)) < (a1.length : Int))) ∧ ((((decide (a3 > 0)) && (decide (a3 < (a1.getD (Int.toNat (Int.tmod (IntKind.i64.wrap a2) (a1.length : Int))) (default : Order)).litres))) = true → ((0 ≤ (Int.tmod (IntKind.i64.wrap a2) (a1.length : Int)) ∧ (Int.tmod (IntKind.i64.wrap a2) (a1.length : Int)) < (a1.length : Int)) ∧ ((((([]) ++ ((a1.take (Int.toNat (Int.tmod (IntKind.i64.wrap a2) (a1.length : Int)))).drop 0)) ++ ([({ hour := (a1.getD (Int.toNat (Int.tmod (IntKind.i64.wrap a2) (a1.length : Int))) (default : Order)).hour, index := (a1.getD (Int.toNat (Int.tmod (IntKind.i64.wrap a2) (a1.length : Int))) (default : Order)).index, litres := (IntKind.i64.wrap ((a1.getD (Int.toNat (Int.tmod (IntKind.i64.wrap a2) (a1.length : Int))) (default : Order)).litres - a3)), outlet := (a1.getD (Int.toNat (Int.tmod (IntKind.i64.wrap a2) (a1.length : Int))) (default : Order)).outlet } : Order)])).length * 32 ≤ maxB) ∧ (((([]) ++ ((a1.take (Int.toNat (Int.tmod (IntKind.i64.wrap a2) (a1.length : Int)))).drop 0)) ++ ([({ hour := (a1.getD (Int.toNat (Int.tmod (IntKind.i64.wrap a2) (a1.length : Int))) (default : Order)).hour, index := (a1.getD (Int.toNat (Int.tmod (IntKind.i64.wrap a2) (a1.length : Int))) (default : Order)).index, litres := (IntKind.i64.wrap ((a1.getD (Int.toNat (Int.tmod (IntKind.i64.wrap a2) (a1.length : Int))) (default : Order)).litres - a3)), outlet := (a1.getD (Int.toNat (Int.tmod (IntKind.i64.wrap a2) (a1.length : Int))) (default : Order)).outlet } : Order)])).length ≤ maxL → ((0 ≤ (IntKind.i64.wrap ((Int.tmod (IntKind.i64.wrap a2) (a1.length : Int)) + 1)) ∧ (IntKind.i64.wrap ((Int.tmod (IntKind.i64.wrap a2) (a1.length : Int)) + 1)) ≤ (a1.length : Int) ∧ (a1.length : Int) ≤ (a1.length : Int)) ∧ (((((([]) ++ ((a1.take (Int.toNat (Int.tmod (IntKind.i64.wrap a2) (a1.length : Int)))).drop 0)) ++ ([({ hour := (a1.getD (Int.toNat (Int.tmod (IntKind.i64.wrap a2) (a1.length : Int))) (default : Order)).hour, index := (a1.getD (Int.toNat (Int.tmod (IntKind.i64.wrap a2) (a1.length : Int))) (default : Order)).index, litres := (IntKind.i64.wrap ((a1.getD (Int.toNat (Int.tmod (IntKind.i64.wrap a2) (a1.length : Int))) (default : Order)).litres - a3)), outlet := (a1.getD (Int.toNat (Int.tmod (IntKind.i64.wrap a2) (a1.length : Int))) (default : Order)).outlet } : Order)])) ++ ((a1.take (Int.toNat (a1.length : Int))).drop (Int.toNat (IntKind.i64.wrap ((Int.tmod (IntKind.i64.wrap a2) (a1.length : Int)) + 1))))).length * 32 ≤ maxB) ∧ ((((([]) ++ ((a1.take (Int.toNat (Int.tmod (IntKind.i64.wrap a2) (a1.length : Int)))).drop 0)) ++ ([({ hour := (a1.getD (Int.toNat (Int.tmod (IntKind.i64.wrap a2) (a1.length : Int))) (default : Order)).hour, index := (a1.getD (Int.toNat (Int.tmod (IntKind.i64.wrap a2) (a1.length : Int))) (default : Order)).index, litres := (IntKind.i64.wrap ((a1.getD (Int.toNat (Int.tmod (IntKind.i64.wrap a2) (a1.length : Int))) (default : Order)).litres - a3)), outlet := (a1.getD (Int.toNat (Int.tmod (IntKind.i64.wrap a2) (a1.length : Int))) (default : Order)).outlet } : Order)])) ++ ((a1.take (Int.toNat (a1.length : Int))).drop (Int.toNat (IntKind.i64.wrap ((Int.tmod (IntKind.i64.wrap a2) (a1.length : Int)) + 1))))).length ≤ maxL → ((routing_Plan_p a0 (((([]) ++ ((a1.take (Int.toNat (Int.tmod (IntKind.i64.wrap a2) (a1.length : Int)))).drop 0)) ++ ([({ hour := (a1.getD (Int.toNat (Int.tmod (IntKind.i64.wrap a2) (a1.length : Int))) (default : Order)).hour, index := (a1.getD (Int.toNat (Int.tmod (IntKind.i64.wrap a2) (a1.length : Int))) (default : Order)).index, litres := (IntKind.i64.wrap ((a1.getD (Int.toNat (Int.tmod (IntKind.i64.wrap a2) (a1.length : Int))) (default : Order)).litres - a3)), outlet := (a1.getD (Int.toNat (Int.tmod (IntKind.i64.wrap a2) (a1.length : Int))) (default : Order)).outlet } : Order)])) ++ ((a1.take (Int.toNat (a1.length : Int))).drop (Int.toNat (IntKind.i64.wrap ((Int.tmod (IntKind.i64.wrap a2) (a1.length : Int)) + 1)))))) ∧ ((((routing_Plan a0 (((([]) ++ ((a1.take (Int.toNat (Int.tmod (IntKind.i64.wrap a2) (a1.length : Int)))).drop 0)) ++ ([({ hour := (a1.getD (Int.toNat (Int.tmod (IntKind.i64.wrap a2) (a1.length : Int))) (default : Order)).hour, index := (a1.getD (Int.toNat (Int.tmod (IntKind.i64.wrap a2) (a1.length : Int))) (default : Order)).index, litres := (IntKind.i64.wrap ((a1.getD (Int.toNat (Int.tmod (IntKind.i64.wrap a2) (a1.length : Int))) (default : Order)).litres - a3)), outlet := (a1.getD (Int.toNat (Int.tmod (IntKind.i64.wrap a2) (a1.length : Int))) (default : Order)).outlet } : Order)])) ++ ((a1.take (Int.toNat (a1.length : Int))).drop (Int.toNat (IntKind.i64.wrap ((Int.tmod (IntKind.i64.wrap a2) (a1.length : Int)) + 1)))))).2.2 != 0) || (!(routing_Plan a0 (((([]) ++ ((a1.take (Int.toNat (Int.tmod (IntKind.i64.wrap a2) (a1.length : Int)))).drop 0)) ++ ([({ hour := (a1.getD (Int.toNat (Int.tmod (IntKind.i64.wrap a2) (a1.length : Int))) (default : Order)).hour, index := (a1.getD (Int.toNat (Int.tmod (IntKind.i64.wrap a2) (a1.length : Int))) (default : Order)).index, litres := (IntKind.i64.wrap ((a1.getD (Int.toNat (Int.tmod (IntKind.i64.wrap a2) (a1.length : Int))) (default : Order)).litres - a3)), outlet := (a1.getD (Int.toNat (Int.tmod (IntKind.i64.wrap a2) (a1.length : Int))) (default : Order)).outlet } : Order)])) ++ ((a1.take (Int.toNat (a1.length : Int))).drop (Int.toNat (IntKind.i64.wrap ((Int.tmod (IntKind.i64.wrap a2) (a1.length : Int)) + 1)))))).2.1)) = false → (okM (law22_RoutingFewer_l0 a0 a1 a2 a3) (law22_RoutingFewer_l0_p a0 a1 a2 a3) (law22_gates ((routing_Plan a0 (((([]) ++ ((a1.take (Int.toNat (Int.tmod (IntKind.i64.wrap a2) (a1.length : Int)))).drop 0)) ++ ([({ hour := (a1.getD (Int.toNat (Int.tmod (IntKind.i64.wrap a2) (a1.length : Int))) (default : Order)).hour, index := (a1.getD (Int.toNat (Int.tmod (IntKind.i64.wrap a2) (a1.length : Int))) (default : Order)).index, litres := (IntKind.i64.wrap ((a1.getD (Int.toNat (Int.tmod (IntKind.i64.wrap a2) (a1.length : Int))) (default : Order)).litres - a3)), outlet := (a1.getD (Int.toNat (Int.tmod (IntKind.i64.wrap a2) (a1.length : Int))) (default : Order)).outlet } : Order)])) ++ ((a1.take (Int.toNat (a1.length : Int))).drop (Int.toNat (IntKind.i64.wrap ((Int.tmod (IntKind.i64.wrap a2) (a1.length : Int)) + 1)))))).1)) () ∧ (∀ s_0, runL (law22_RoutingFewer_l0 a0 a1 a2 a3) (law22_gates ((routing_Plan a0 (((([]) ++ ((a1.take (Int.toNat (Int.tmod (IntKind.i64.wrap a2) (a1.length : Int)))).drop 0)) ++ ([({ hour := (a1.getD (Int.toNat (Int.tmod (IntKind.i64.wrap a2) (a1.length : Int))) (default : Order)).hour, index := (a1.getD (Int.toNat (Int.tmod (IntKind.i64.wrap a2) (a1.length : Int))) (default : Order)).index, litres := (IntKind.i64.wrap ((a1.getD (Int.toNat (Int.tmod (IntKind.i64.wrap a2) (a1.length : Int))) (default : Order)).litres - a3)), outlet := (a1.getD (Int.toNat (Int.tmod (IntKind.i64.wrap a2) (a1.length : Int))) (default : Order)).outlet } : Order)])) ++ ((a1.take (Int.toNat (a1.length : Int))).drop (Int.toNat (IntKind.i64.wrap ((Int.tmod (IntKind.i64.wrap a2) (a1.length : Int)) + 1)))))).1)) () = .inr s_0 → ((routing_Fits_p a0 ((routing_Plan a0 a1).1)) ∧ (routing_Fits_p a0 ((routing_Plan a0 (((([]) ++ ((a1.take (Int.toNat (Int.tmod (IntKind.i64.wrap a2) (a1.length : Int)))).drop 0)) ++ ([({ hour := (a1.getD (Int.toNat (Int.tmod (IntKind.i64.wrap a2) (a1.length : Int))) (default : Order)).hour, index := (a1.getD (Int.toNat (Int.tmod (IntKind.i64.wrap a2) (a1.length : Int))) (default : Order)).index, litres := (IntKind.i64.wrap ((a1.getD (Int.toNat (Int.tmod (IntKind.i64.wrap a2) (a1.length : Int))) (default : Order)).litres - a3)), outlet := (a1.getD (Int.toNat (Int.tmod (IntKind.i64.wrap a2) (a1.length : Int))) (default : Order)).outlet } : Order)])) ++ ((a1.take (Int.toNat (a1.length : Int))).drop (Int.toNat (IntKind.i64.wrap ((Int.tmod (IntKind.i64.wrap a2) (a1.length : Int)) + 1)))))).1)))))))))))))) ∧ (((decide (a3 > 0)) && (decide (a3 < (a1.getD (Int.toNat (Int.tmod (IntKind.i64.wrap a2) (a1.length : Int))) (default : Order)).litres))) = false → ((0 ≤ (IntKind.i64.wrap ((Int.tmod (IntKind.i64.wrap a2) (a1.length : Int)) + 1)) ∧ (IntKind.i64.wrap ((Int.tmod (IntKind.i64.wrap a2) (a1.length : Int)) + 1)) ≤ (a1.length : Int) ∧ (a1.length : Int) ≤ (a1.length : Int)) ∧ ((((([]) ++ ((a1.take (Int.toNat (Int.tmod (IntKind.i64.wrap a2) (a1.length : Int)))).drop 0)) ++ ((a1.take (Int.toNat (a1.length : Int))).drop (Int.toNat (IntKind.i64.wrap ((Int.tmod (IntKind.i64.wrap a2) (a1.length : Int)) + 1))))).length * 32 ≤ maxB) ∧ (((([]) ++ ((a1.take (Int.toNat (Int.tmod (IntKind.i64.wrap a2) (a1.length : Int)))).drop 0)) ++ ((a1.take (Int.toNat (a1.length : Int))).drop (Int.toNat (IntKind.i64.wrap ((Int.tmod (IntKind.i64.wrap a2) (a1.length : Int)) + 1))))).length ≤ maxL → ((routing_Plan_p a0 ((([]) ++ ((a1.take (Int.toNat (Int.tmod (IntKind.i64.wrap a2) (a1.length : Int)))).drop 0)) ++ ((a1.take (Int.toNat (a1.length : Int))).drop (Int.toNat (IntKind.i64.wrap ((Int.tmod (IntKind.i64.wrap a2) (a1.length : Int)) + 1)))))) ∧ ((((routing_Plan a0 ((([]) ++ ((a1.take (Int.toNat (Int.tmod (IntKind.i64.wrap a2) (a1.length : Int)))).drop 0)) ++ ((a1.take (Int.toNat (a1.length : Int))).drop (Int.toNat (IntKind.i64.wrap ((Int.tmod (IntKind.i64.wrap a2) (a1.length : Int)) + 1)))))).2.2 != 0) || (!(routing_Plan a0 ((([]) ++ ((a1.take (Int.toNat (Int.tmod (IntKind.i64.wrap a2) (a1.length : Int)))).drop 0)) ++ ((a1.take (Int.toNat (a1.length : Int))).drop (Int.toNat (IntKind.i64.wrap ((Int.tmod (IntKind.i64.wrap a2) (a1.length : Int)) + 1)))))).2.1)) = false → (okM (law22_RoutingFewer_l1 a0 a1 a2) (law22_RoutingFewer_l1_p a0 a1 a2) (law22_gates ((routing_Plan a0 ((([]) ++ ((a1.take (Int.toNat (Int.tmod (IntKind.i64.wrap a2) (a1.length : Int)))).drop 0)) ++ ((a1.take (Int.toNat (a1.length : Int))).drop (Int.toNat (IntKind.i64.wrap ((Int.tmod (IntKind.i64.wrap a2) (a1.length : Int)) + 1)))))).1)) () ∧ (∀ s_1, runL (law22_RoutingFewer_l1 a0 a1 a2) (law22_gates ((routing_Plan a0 ((([]) ++ ((a1.take (Int.toNat (Int.tmod (IntKind.i64.wrap a2) (a1.length : Int)))).drop 0)) ++ ((a1.take (Int.toNat (a1.length : Int))).drop (Int.toNat (IntKind.i64.wrap ((Int.tmod (IntKind.i64.wrap a2) (a1.length : Int)) + 1)))))).1)) () = .inr s_1 → ((routing_Fits_p a0 ((routing_Plan a0 a1).1)) ∧ (routing_Fits_p a0 ((routing_Plan a0 ((([]) ++ ((a1.take (Int.toNat (Int.tmod (IntKind.i64.wrap a2) (a1.length : Int)))).drop 0)) ++ ((a1.take (Int.toNat (a1.length : Int))).drop (Int.toNat (IntKind.i64.wrap ((Int.tmod (IntKind.i64.wrap a2) (a1.length : Int)) + 1)))))).1)))))))))))))))))))))))
@[go_sem] def C_law22_RoutingFewer : List SV → Option Con := (pD .district fun a0 => (pR .order fun a1 => (pW fun a2 => (pI fun a3 => (pE (.det (law22_RoutingFewer_p a0 a1 a2 a3) (.v (.bool (law22_RoutingFewer a0 a1 a2 a3)))))))))
set_option maxHeartbeats 4000000 in
theorem ok_law22_RoutingFewer : FnOk Try.prog 4 C_law22_RoutingFewer := by
  have hG : ConsOk Try.prog (mkG [(7, C_law22_sane), (8, fun l => C_ref22_Few (nrmA [.st .district, .sl .order] l)), (9, fun l => C_routing_Plan (nrmA [.st .district, .sl .order] l)), (14, fun l => C_law22_gates (nrmA [.sl .order] l)), (15, fun l => C_routing_Fits (nrmA [.st .district, .sl .order] l))] []) := mkG_ok (cgc ok_law22_sane (cgc (ok_ref22_Few.norm [.st .district, .sl .order]) (cgc (ok_routing_Plan.norm [.st .district, .sl .order]) (cgc (ok_law22_gates.norm [.sl .order]) (cgc (ok_routing_Fits.norm [.st .district, .sl .order]) cg0))))) cg0
  refine fn_okN [.o] mixed ts_ok hG (fn := Try.f4) (c := bodyOf Try.f4) (by kernel_rfl) (by kernel_rfl) (by kernel_rfl) (by kernel_rfl) (pD_all fun a0 => (pR_all fun a1 => (pW_all fun a2 => (pI_all fun a3 => (pE_all (fun hp => ?_))))))
  dsimp only [conPre] at hp
  unfold law22_RoutingFewer_p at hp
  rcases Bool.eq_false_or_eq_true ((decide (a3 > 0)) && (decide (a3 < (a1.getD (Int.toNat (Int.tmod (IntKind.i64.wrap a2) (a1.length : Int))) (default : Order)).litres))) with hs0 | hs0
  · have hsp : True := trivial
    refine ⟨Nat.le_of_ble_eq_true rfl, (fun id st => bif Nat.beq id 0 then some (LCM (τ := Acequialaw22Place × Int) (ρ := Unit) (σ := Unit) 11 [] [0, 1, 2, 3, 4, 5, 6, 7, 8, 9, 10] (fun left_0 cur_0 s_0 => ⟨[(4, .ptr 0 0), (9, .os 1), (15, .os 7), (18, .os 8), (110, .ptr 10 0)], [.cells (cellsOf .district a0), .row .order ((routing_Plan a0 a1).1), .dead, .dead, .dead, .dead, .dead, .row .order ((routing_Plan a0 (((([]) ++ ((a1.take (Int.toNat (Int.tmod (IntKind.i64.wrap a2) (a1.length : Int)))).drop 0)) ++ ([({ hour := (a1.getD (Int.toNat (Int.tmod (IntKind.i64.wrap a2) (a1.length : Int))) (default : Order)).hour, index := (a1.getD (Int.toNat (Int.tmod (IntKind.i64.wrap a2) (a1.length : Int))) (default : Order)).index, litres := (IntKind.i64.wrap ((a1.getD (Int.toNat (Int.tmod (IntKind.i64.wrap a2) (a1.length : Int))) (default : Order)).litres - a3)), outlet := (a1.getD (Int.toNat (Int.tmod (IntKind.i64.wrap a2) (a1.length : Int))) (default : Order)).outlet } : Order)])) ++ ((a1.take (Int.toNat (a1.length : Int))).drop (Int.toNat (IntKind.i64.wrap ((Int.tmod (IntKind.i64.wrap a2) (a1.length : Int)) + 1)))))).1), .mp .acequialaw22Place .int (law22_gates ((routing_Plan a0 a1).1)) none, .mp .acequialaw22Place .int (law22_gates ((routing_Plan a0 (((([]) ++ ((a1.take (Int.toNat (Int.tmod (IntKind.i64.wrap a2) (a1.length : Int)))).drop 0)) ++ ([({ hour := (a1.getD (Int.toNat (Int.tmod (IntKind.i64.wrap a2) (a1.length : Int))) (default : Order)).hour, index := (a1.getD (Int.toNat (Int.tmod (IntKind.i64.wrap a2) (a1.length : Int))) (default : Order)).index, litres := (IntKind.i64.wrap ((a1.getD (Int.toNat (Int.tmod (IntKind.i64.wrap a2) (a1.length : Int))) (default : Order)).litres - a3)), outlet := (a1.getD (Int.toNat (Int.tmod (IntKind.i64.wrap a2) (a1.length : Int))) (default : Order)).outlet } : Order)])) ++ ((a1.take (Int.toNat (a1.length : Int))).drop (Int.toNat (IntKind.i64.wrap ((Int.tmod (IntKind.i64.wrap a2) (a1.length : Int)) + 1)))))).1)) none, .mi (some 9) ((law22_gates ((routing_Plan a0 (((([]) ++ ((a1.take (Int.toNat (Int.tmod (IntKind.i64.wrap a2) (a1.length : Int)))).drop 0)) ++ ([({ hour := (a1.getD (Int.toNat (Int.tmod (IntKind.i64.wrap a2) (a1.length : Int))) (default : Order)).hour, index := (a1.getD (Int.toNat (Int.tmod (IntKind.i64.wrap a2) (a1.length : Int))) (default : Order)).index, litres := (IntKind.i64.wrap ((a1.getD (Int.toNat (Int.tmod (IntKind.i64.wrap a2) (a1.length : Int))) (default : Order)).litres - a3)), outlet := (a1.getD (Int.toNat (Int.tmod (IntKind.i64.wrap a2) (a1.length : Int))) (default : Order)).outlet } : Order)])) ++ ((a1.take (Int.toNat (a1.length : Int))).drop (Int.toNat (IntKind.i64.wrap ((Int.tmod (IntKind.i64.wrap a2) (a1.length : Int)) + 1)))))).1)).length) left_0 cur_0]⟩) (law22_RoutingFewer_l0 a0 a1 a2 a3) (law22_RoutingFewer_l0_p a0 a1 a2 a3) (law22_gates ((routing_Plan a0 (((([]) ++ ((a1.take (Int.toNat (Int.tmod (IntKind.i64.wrap a2) (a1.length : Int)))).drop 0)) ++ ([({ hour := (a1.getD (Int.toNat (Int.tmod (IntKind.i64.wrap a2) (a1.length : Int))) (default : Order)).hour, index := (a1.getD (Int.toNat (Int.tmod (IntKind.i64.wrap a2) (a1.length : Int))) (default : Order)).index, litres := (IntKind.i64.wrap ((a1.getD (Int.toNat (Int.tmod (IntKind.i64.wrap a2) (a1.length : Int))) (default : Order)).litres - a3)), outlet := (a1.getD (Int.toNat (Int.tmod (IntKind.i64.wrap a2) (a1.length : Int))) (default : Order)).outlet } : Order)])) ++ ((a1.take (Int.toNat (a1.length : Int))).drop (Int.toNat (IntKind.i64.wrap ((Int.tmod (IntKind.i64.wrap a2) (a1.length : Int)) + 1)))))).1)) () (fun _ => .ret) (fun x_0_0 => ⟨[(8, .v (.bool false))], [.dead, .dead, .dead, .dead, .dead, .dead, .dead, .dead, .dead, .dead, .dead]⟩) (fun s_0 => ⟨[(4, .ptr 0 0), (9, .os 1), (15, .os 7)], [.cells (cellsOf .district a0), .row .order ((routing_Plan a0 a1).1), .dead, .dead, .dead, .dead, .dead, .row .order ((routing_Plan a0 (((([]) ++ ((a1.take (Int.toNat (Int.tmod (IntKind.i64.wrap a2) (a1.length : Int)))).drop 0)) ++ ([({ hour := (a1.getD (Int.toNat (Int.tmod (IntKind.i64.wrap a2) (a1.length : Int))) (default : Order)).hour, index := (a1.getD (Int.toNat (Int.tmod (IntKind.i64.wrap a2) (a1.length : Int))) (default : Order)).index, litres := (IntKind.i64.wrap ((a1.getD (Int.toNat (Int.tmod (IntKind.i64.wrap a2) (a1.length : Int))) (default : Order)).litres - a3)), outlet := (a1.getD (Int.toNat (Int.tmod (IntKind.i64.wrap a2) (a1.length : Int))) (default : Order)).outlet } : Order)])) ++ ((a1.take (Int.toNat (a1.length : Int))).drop (Int.toNat (IntKind.i64.wrap ((Int.tmod (IntKind.i64.wrap a2) (a1.length : Int)) + 1)))))).1), .dead, .dead, .dead]⟩) st) else none), ?_, ?_⟩
    · unfold bodyOf Try.f4
      simp only [loopsOk, true_and, and_true]
      · refine loopM_ok (dflt .acequialaw22Place, dflt .int) 10 mixed ts_ok hG (by kernel_rfl) (fun _ => rfl) fun left_0 cur_0 s_0 hp0 => ⟨L0, loopsOk0 _, ?_⟩
        · by_cases hl0 : left_0 = []
          · subst hl0
            simp only [go_sem, Nat.reduceBEq, Nat.reduceLeDiff, Nat.reduceLT, decide_true, Nat.reduceAdd, Nat.reduceSub, Nat.reduceMul, Int.reduceLE, Int.reduceLT, Int.reduceToNat, Int.reduceNeg, reduceCtorEq, hs0, List.not_mem_nil]
            all_goals exact crSxR9_0
          · simp only [go_sem, Nat.reduceBEq, Nat.reduceLeDiff, Nat.reduceLT, decide_true, Nat.reduceAdd, Nat.reduceSub, Nat.reduceMul, Int.reduceLE, Int.reduceLT, Int.reduceToNat, Int.reduceNeg, reduceCtorEq, hs0, hl0]
            intro j hj0
            obtain ⟨hlt0, hq0⟩ := hp0 j hj0
            unfold law22_RoutingFewer_l0_p at hq0
            all_goals exact crSxR9_0
    · unfold bodyOf Try.f4
      try unfold law22_RoutingFewer
      simp only [go_sem, Nat.reduceBEq, Nat.reduceLeDiff, Nat.reduceLT, decide_true, Nat.reduceAdd, Nat.reduceSub, Nat.reduceMul, Int.reduceLE, Int.reduceLT, Int.reduceToNat, Int.reduceNeg, reduceCtorEq, hs0]
      all_goals exact cl
  · have hsp : True := trivial
    refine ⟨Nat.le_of_ble_eq_true rfl, (fun id st => bif Nat.beq id 0 then some (LCM (τ := Acequialaw22Place × Int) (ρ := Unit) (σ := Unit) 8 [] [0, 1, 2, 3, 4, 5, 6, 7] (fun left_1 cur_1 s_1 => ⟨[(4, .ptr 0 0), (9, .os 1), (15, .os 4), (18, .os 5), (110, .ptr 7 0)], [.cells (cellsOf .district a0), .row .order ((routing_Plan a0 a1).1), .dead, .dead, .row .order ((routing_Plan a0 ((([]) ++ ((a1.take (Int.toNat (Int.tmod (IntKind.i64.wrap a2) (a1.length : Int)))).drop 0)) ++ ((a1.take (Int.toNat (a1.length : Int))).drop (Int.toNat (IntKind.i64.wrap ((Int.tmod (IntKind.i64.wrap a2) (a1.length : Int)) + 1)))))).1), .mp .acequialaw22Place .int (law22_gates ((routing_Plan a0 a1).1)) none, .mp .acequialaw22Place .int (law22_gates ((routing_Plan a0 ((([]) ++ ((a1.take (Int.toNat (Int.tmod (IntKind.i64.wrap a2) (a1.length : Int)))).drop 0)) ++ ((a1.take (Int.toNat (a1.length : Int))).drop (Int.toNat (IntKind.i64.wrap ((Int.tmod (IntKind.i64.wrap a2) (a1.length : Int)) + 1)))))).1)) none, .mi (some 6) ((law22_gates ((routing_Plan a0 ((([]) ++ ((a1.take (Int.toNat (Int.tmod (IntKind.i64.wrap a2) (a1.length : Int)))).drop 0)) ++ ((a1.take (Int.toNat (a1.length : Int))).drop (Int.toNat (IntKind.i64.wrap ((Int.tmod (IntKind.i64.wrap a2) (a1.length : Int)) + 1)))))).1)).length) left_1 cur_1]⟩) (law22_RoutingFewer_l1 a0 a1 a2) (law22_RoutingFewer_l1_p a0 a1 a2) (law22_gates ((routing_Plan a0 ((([]) ++ ((a1.take (Int.toNat (Int.tmod (IntKind.i64.wrap a2) (a1.length : Int)))).drop 0)) ++ ((a1.take (Int.toNat (a1.length : Int))).drop (Int.toNat (IntKind.i64.wrap ((Int.tmod (IntKind.i64.wrap a2) (a1.length : Int)) + 1)))))).1)) () (fun _ => .ret) (fun x_1_0 => ⟨[(8, .v (.bool false))], [.dead, .dead, .dead, .dead, .dead, .dead, .dead, .dead]⟩) (fun s_1 => ⟨[(4, .ptr 0 0), (9, .os 1), (15, .os 4)], [.cells (cellsOf .district a0), .row .order ((routing_Plan a0 a1).1), .dead, .dead, .row .order ((routing_Plan a0 ((([]) ++ ((a1.take (Int.toNat (Int.tmod (IntKind.i64.wrap a2) (a1.length : Int)))).drop 0)) ++ ((a1.take (Int.toNat (a1.length : Int))).drop (Int.toNat (IntKind.i64.wrap ((Int.tmod (IntKind.i64.wrap a2) (a1.length : Int)) + 1)))))).1), .dead, .dead, .dead]⟩) st) else none), ?_, ?_⟩
    · unfold bodyOf Try.f4
      simp only [loopsOk, true_and, and_true]
      · refine loopM_ok (dflt .acequialaw22Place, dflt .int) 7 mixed ts_ok hG (by kernel_rfl) (fun _ => rfl) fun left_1 cur_1 s_1 hp1 => ⟨L0, loopsOk0 _, ?_⟩
        · by_cases hl1 : left_1 = []
          · subst hl1
            simp only [go_sem, Nat.reduceBEq, Nat.reduceLeDiff, Nat.reduceLT, decide_true, Nat.reduceAdd, Nat.reduceSub, Nat.reduceMul, Int.reduceLE, Int.reduceLT, Int.reduceToNat, Int.reduceNeg, reduceCtorEq, hs0, List.not_mem_nil]
            all_goals exact crSxR9_1
          · simp only [go_sem, Nat.reduceBEq, Nat.reduceLeDiff, Nat.reduceLT, decide_true, Nat.reduceAdd, Nat.reduceSub, Nat.reduceMul, Int.reduceLE, Int.reduceLT, Int.reduceToNat, Int.reduceNeg, reduceCtorEq, hs0, hl1]
            intro j hj1
            obtain ⟨hlt1, hq1⟩ := hp1 j hj1
            unfold law22_RoutingFewer_l1_p at hq1
            all_goals exact crSxR9_1
    · unfold bodyOf Try.f4
      try unfold law22_RoutingFewer
      simp only [go_sem, Nat.reduceBEq, Nat.reduceLeDiff, Nat.reduceLT, decide_true, Nat.reduceAdd, Nat.reduceSub, Nat.reduceMul, Int.reduceLE, Int.reduceLT, Int.reduceToNat, Int.reduceNeg, reduceCtorEq, hs0]
      all_goals exact cl
@[go_sem] def law22_RoutingTogether_l0 (a1 : List Order) (a2 : List Int) (k_0 : Nat) (s_0 : List Order × List Order) : Empty ⊕ (List Order × List Order) := (bif (decide ((k_0 : Int) < (a2.length : Int))) then (bif (decide ((if (IntKind.i64.wrap (a2.getD k_0 (0 : Int))) < (a1.getD k_0 (default : Order)).litres then (IntKind.i64.wrap (a2.getD k_0 (0 : Int))) else (a1.getD k_0 (default : Order)).litres) > 0)) then (bif (decide ((if (IntKind.i64.wrap (a2.getD k_0 (0 : Int))) < (a1.getD k_0 (default : Order)).litres then (IntKind.i64.wrap (a2.getD k_0 (0 : Int))) else (a1.getD k_0 (default : Order)).litres) < (a1.getD k_0 (default : Order)).litres)) then .inr ((s_0.1 ++ ([({ hour := (a1.getD k_0 (default : Order)).hour, index := (a1.getD k_0 (default : Order)).index, litres := (if (IntKind.i64.wrap (a2.getD k_0 (0 : Int))) < (a1.getD k_0 (default : Order)).litres then (IntKind.i64.wrap (a2.getD k_0 (0 : Int))) else (a1.getD k_0 (default : Order)).litres), outlet := (a1.getD k_0 (default : Order)).outlet } : Order)])), (s_0.2 ++ ([({ hour := (a1.getD k_0 (default : Order)).hour, index := (a1.getD k_0 (default : Order)).index, litres := (IntKind.i64.wrap ((a1.getD k_0 (default : Order)).litres - (if (IntKind.i64.wrap (a2.getD k_0 (0 : Int))) < (a1.getD k_0 (default : Order)).litres then (IntKind.i64.wrap (a2.getD k_0 (0 : Int))) else (a1.getD k_0 (default : Order)).litres))), outlet := (a1.getD k_0 (default : Order)).outlet } : Order)]))) else .inr ((s_0.1 ++ ([({ hour := (a1.getD k_0 (default : Order)).hour, index := (a1.getD k_0 (default : Order)).index, litres := (if (IntKind.i64.wrap (a2.getD k_0 (0 : Int))) < (a1.getD k_0 (default : Order)).litres then (IntKind.i64.wrap (a2.getD k_0 (0 : Int))) else (a1.getD k_0 (default : Order)).litres), outlet := (a1.getD k_0 (default : Order)).outlet } : Order)])), s_0.2)) else (bif (decide ((if (IntKind.i64.wrap (a2.getD k_0 (0 : Int))) < (a1.getD k_0 (default : Order)).litres then (IntKind.i64.wrap (a2.getD k_0 (0 : Int))) else (a1.getD k_0 (default : Order)).litres) < (a1.getD k_0 (default : Order)).litres)) then .inr (s_0.1, (s_0.2 ++ ([({ hour := (a1.getD k_0 (default : Order)).hour, index := (a1.getD k_0 (default : Order)).index, litres := (IntKind.i64.wrap ((a1.getD k_0 (default : Order)).litres - (if (IntKind.i64.wrap (a2.getD k_0 (0 : Int))) < (a1.getD k_0 (default : Order)).litres then (IntKind.i64.wrap (a2.getD k_0 (0 : Int))) else (a1.getD k_0 (default : Order)).litres))), outlet := (a1.getD k_0 (default : Order)).outlet } : Order)]))) else .inr (s_0.1, s_0.2))) else (bif (decide ((a1.getD k_0 (default : Order)).litres > 0)) then (bif (decide ((a1.getD k_0 (default : Order)).litres < (a1.getD k_0 (default : Order)).litres)) then .inr ((s_0.1 ++ ([(a1.getD k_0 (default : Order))])), (s_0.2 ++ ([({ hour := (a1.getD k_0 (default : Order)).hour, index := (a1.getD k_0 (default : Order)).index, litres := (IntKind.i64.wrap ((a1.getD k_0 (default : Order)).litres - (a1.getD k_0 (default : Order)).litres)), outlet := (a1.getD k_0 (default : Order)).outlet } : Order)]))) else .inr ((s_0.1 ++ ([(a1.getD k_0 (default : Order))])), s_0.2)) else (bif (decide ((a1.getD k_0 (default : Order)).litres < (a1.getD k_0 (default : Order)).litres)) then .inr (s_0.1, (s_0.2 ++ ([({ hour := (a1.getD k_0 (default : Order)).hour, index := (a1.getD k_0 (default : Order)).index, litres := (IntKind.i64.wrap ((a1.getD k_0 (default : Order)).litres - (a1.getD k_0 (default : Order)).litres)), outlet := (a1.getD k_0 (default : Order)).outlet } : Order)]))) else .inr (s_0.1, s_0.2))))
def law22_RoutingTogether_l0_p (a1 : List Order) (a2 : List Int) (k_0 : Nat) (s_0 : List Order × List Order) : Prop := (a2.length ≤ maxL → (((decide ((k_0 : Int) < (a2.length : Int))) = true → ((0 ≤ (k_0 : Int) ∧ (k_0 : Int) < (a2.length : Int)) ∧ (((decide ((if (IntKind.i64.wrap (a2.getD k_0 (0 : Int))) < (a1.getD k_0 (default : Order)).litres then (IntKind.i64.wrap (a2.getD k_0 (0 : Int))) else (a1.getD k_0 (default : Order)).litres) > 0)) = true → (((s_0.1 ++ ([({ hour := (a1.getD k_0 (default : Order)).hour, index := (a1.getD k_0 (default : Order)).index, litres := (if (IntKind.i64.wrap (a2.getD k_0 (0 : Int))) < (a1.getD k_0 (default : Order)).litres then (IntKind.i64.wrap (a2.getD k_0 (0 : Int))) else (a1.getD k_0 (default : Order)).litres), outlet := (a1.getD k_0 (default : Order)).outlet } : Order)])).length * 32 ≤ maxB) ∧ ((s_0.1 ++ ([({ hour := (a1.getD k_0 (default : Order)).hour, index := (a1.getD k_0 (default : Order)).index, litres := (if (IntKind.i64.wrap (a2.getD k_0 (0 : Int))) < (a1.getD k_0 (default : Order)).litres then (IntKind.i64.wrap (a2.getD k_0 (0 : Int))) else (a1.getD k_0 (default : Order)).litres), outlet := (a1.getD k_0 (default : Order)).outlet } : Order)])).length ≤ maxL → ((decide ((if (IntKind.i64.wrap (a2.getD k_0 (0 : Int))) < (a1.getD k_0 (default : Order)).litres then (IntKind.i64.wrap (a2.getD k_0 (0 : Int))) else (a1.getD k_0 (default : Order)).litres) < (a1.getD k_0 (default : Order)).litres)) = true → ((s_0.2 ++ ([({ hour := (a1.getD k_0 (default : Order)).hour, index := (a1.getD k_0 (default : Order)).index, litres := (IntKind.i64.wrap ((a1.getD k_0 (default : Order)).litres - (if (IntKind.i64.wrap (a2.getD k_0 (0 : Int))) < (a1.getD k_0 (default : Order)).litres then (IntKind.i64.wrap (a2.getD k_0 (0 : Int))) else (a1.getD k_0 (default : Order)).litres))), outlet := (a1.getD k_0 (default : Order)).outlet } : Order)])).length * 32 ≤ maxB))))) ∧ ((decide ((if (IntKind.i64.wrap (a2.getD k_0 (0 : Int))) < (a1.getD k_0 (default : Order)).litres then (IntKind.i64.wrap (a2.getD k_0 (0 : Int))) else (a1.getD k_0 (default : Order)).litres) > 0)) = false → ((decide ((if (IntKind.i64.wrap (a2.getD k_0 (0 : Int))) < (a1.getD k_0 (default : Order)).litres then (IntKind.i64.wrap (a2.getD k_0 (0 : Int))) else (a1.getD k_0 (default : Order)).litres) < (a1.getD k_0 (default : Order)).litres)) = true → ((s_0.2 ++ ([({ hour := (a1.getD k_0 (default : Order)).hour, index := (a1.getD k_0 (default : Order)).index, litres := (IntKind.i64.wrap ((a1.getD k_0 (default : Order)).litres - (if (IntKind.i64.wrap (a2.getD k_0 (0 : Int))) < (a1.getD k_0 (default : Order)).litres then (IntKind.i64.wrap (a2.getD k_0 (0 : Int))) else (a1.getD k_0 (default : Order)).litres))), outlet := (a1.getD k_0 (default : Order)).outlet } : Order)])).length * 32 ≤ maxB)))))) ∧ ((decide ((k_0 : Int) < (a2.length : Int))) = false → (((decide ((a1.getD k_0 (default : Order)).litres > 0)) = true → (((s_0.1 ++ ([(a1.getD k_0 (default : Order))])).length * 32 ≤ maxB) ∧ ((s_0.1 ++ ([(a1.getD k_0 (default : Order))])).length ≤ maxL → ((decide ((a1.getD k_0 (default : Order)).litres < (a1.getD k_0 (default : Order)).litres)) = true → ((s_0.2 ++ ([({ hour := (a1.getD k_0 (default : Order)).hour, index := (a1.getD k_0 (default : Order)).index, litres := (IntKind.i64.wrap ((a1.getD k_0 (default : Order)).litres - (a1.getD k_0 (default : Order)).litres)), outlet := (a1.getD k_0 (default : Order)).outlet } : Order)])).length * 32 ≤ maxB))))) ∧ ((decide ((a1.getD k_0 (default : Order)).litres > 0)) = false → ((decide ((a1.getD k_0 (default : Order)).litres < (a1.getD k_0 (default : Order)).litres)) = true → ((s_0.2 ++ ([({ hour := (a1.getD k_0 (default : Order)).hour, index := (a1.getD k_0 (default : Order)).index, litres := (IntKind.i64.wrap ((a1.getD k_0 (default : Order)).litres - (a1.getD k_0 (default : Order)).litres)), outlet := (a1.getD k_0 (default : Order)).outlet } : Order)])).length * 32 ≤ maxB)))))))
@[go_sem] def law22_RoutingTogether_l1 (a0 : District) (s_0 : List Order × List Order) (k_1 : Acequialaw22Place × Int) (s_1 : Unit) : Unit ⊕ Unit := (bif (decide ((IntKind.i64.wrap (k_1.2 + (mgetT .acequialaw22Place .int (law22_gates ((routing_Plan a0 s_0.2).1)) k_1.1))) > 1073741824)) then .inl () else .inr ())
def law22_RoutingTogether_l1_p (a0 : District) (s_0 : List Order × List Order) (k_1 : Acequialaw22Place × Int) (s_1 : Unit) : Prop := True
@[go_sem] def law22_RoutingTogether_l2 (a0 : District) (a1 : List Order) (s_0 : List Order × List Order) (k_2 : Acequialaw22Place × Int) (s_2 : Unit) : Unit ⊕ Unit := (bif (decide (k_2.2 > (IntKind.i64.wrap ((mgetT .acequialaw22Place .int (law22_gates ((routing_Plan a0 s_0.1).1)) k_2.1) + (mgetT .acequialaw22Place .int (law22_gates ((routing_Plan a0 s_0.2).1)) k_2.1))))) then .inl () else .inr ())
def law22_RoutingTogether_l2_p (a0 : District) (a1 : List Order) (s_0 : List Order × List Order) (k_2 : Acequialaw22Place × Int) (s_2 : Unit) : Prop := True
def law22_RoutingTogether (a0 : District) (a1 : List Order) (a2 : List Int) : Bool := (bif (!law22_sane) then false else (bif ((!(ref22_Few a0 a1)) || ((routing_Check a0 a1) != 0)) then true else (match runI (law22_RoutingTogether_l0 a1 a2) a1.length 0 ([], []) with | .inl x => x.elim | .inr s_0 => (bif ((((((routing_Plan a0 s_0.1).2.2 != 0) || ((routing_Plan a0 s_0.2).2.2 != 0)) || ((routing_Plan a0 a1).2.2 != 0)) || (!(routing_Plan a0 s_0.1).2.1)) || (!(routing_Plan a0 s_0.2).2.1)) then true else (bif (!(routing_Plan a0 a1).2.1) then (match runL (law22_RoutingTogether_l1 a0 s_0) (law22_gates ((routing_Plan a0 s_0.1).1)) () with | .inl x_1_0 => true | .inr s_1 => false) else (match runL (law22_RoutingTogether_l2 a0 a1 s_0) (law22_gates ((routing_Plan a0 a1).1)) () with | .inl x_2_0 => false | .inr s_2 => true))))))
def law22_RoutingTogether_p (a0 : District) (a1 : List Order) (a2 : List Int) : Prop := ((law22_sane_p) ∧ ((!law22_sane) = false → (((!(ref22_Few a0 a1)) = false → (routing_Check_p a0 a1)) ∧ (((!(ref22_Few a0 a1)) || ((routing_Check a0 a1) != 0)) = false → (a1.length ≤ maxL → (okI (law22_RoutingTogether_l0 a1 a2) (law22_RoutingTogether_l0_p a1 a2) a1.length 0 ([], []) ∧ (∀ s_0, runI (law22_RoutingTogether_l0 a1 a2) a1.length 0 ([], []) = .inr s_0 → ((routing_Plan_p a0 s_0.1) ∧ ((routing_Plan_p a0 s_0.2) ∧ ((routing_Plan_p a0 a1) ∧ (((((((routing_Plan a0 s_0.1).2.2 != 0) || ((routing_Plan a0 s_0.2).2.2 != 0)) || ((routing_Plan a0 a1).2.2 != 0)) || (!(routing_Plan a0 s_0.1).2.1)) || (!(routing_Plan a0 s_0.2).2.1)) = false → (((!(routing_Plan a0 a1).2.1) = true → okM (law22_RoutingTogether_l1 a0 s_0) (law22_RoutingTogether_l1_p a0 s_0) (law22_gates ((routing_Plan a0 s_0.1).1)) ()) ∧ ((!(routing_Plan a0 a1).2.1) = false → okM (law22_RoutingTogether_l2 a0 a1 s_0) (law22_RoutingTogether_l2_p a0 a1 s_0) (law22_gates ((routing_Plan a0 a1).1)) ())))))))))))))
@[go_sem] def C_law22_RoutingTogether : List SV → Option Con := (pD .district fun a0 => (pR .order fun a1 => (pR .u8 fun a2 => (pE (.det (law22_RoutingTogether_p a0 a1 a2) (.v (.bool (law22_RoutingTogether a0 a1 a2))))))))
set_option maxHeartbeats 4000000 in
theorem ok_law22_RoutingTogether : FnOk Try.prog 5 C_law22_RoutingTogether := by
  have hG : ConsOk Try.prog (mkG [(7, C_law22_sane), (8, fun l => C_ref22_Few (nrmA [.st .district, .sl .order] l)), (9, fun l => C_routing_Plan (nrmA [.st .district, .sl .order] l)), (10, fun l => C_routing_Check (nrmA [.st .district, .sl .order] l)), (14, fun l => C_law22_gates (nrmA [.sl .order] l))] []) := mkG_ok (cgc ok_law22_sane (cgc (ok_ref22_Few.norm [.st .district, .sl .order]) (cgc (ok_routing_Plan.norm [.st .district, .sl .order]) (cgc (ok_routing_Check.norm [.st .district, .sl .order]) (cgc (ok_law22_gates.norm [.sl .order]) cg0))))) cg0
  refine fn_okN [.o] mixed ts_ok hG (fn := Try.f5) (c := bodyOf Try.f5) (by kernel_rfl) (by kernel_rfl) (by kernel_rfl) (by kernel_rfl) (pD_all fun a0 => (pR_all fun a1 => (pR_all fun a2 => (pE_all (fun hp => ?_)))))
  dsimp only [conPre] at hp
  unfold law22_RoutingTogether_p at hp
  refine ⟨Nat.le_of_ble_eq_true rfl, (fun id st => bif Nat.beq id 0 then some (LCR (ρ := Empty) (σ := (List Order × List Order)) 1 [.slot 7 (.row .order ([])), .slot 8 (.row .order ([]))] [0, 1, 2] (fun k_0 s_0 => ⟨[(1, .rs .order a1), (2, .rs .u8 a2), (3, .ptr 0 0), (7, .os 1), (8, .os 2), (41, .rs .order a1), (42, .v (.int .i64 (a1.length : Int))), (43, .v (.int .i64 (k_0 : Int)))], [.cells (cellsOf .district a0), .row .order s_0.1, .row .order s_0.2]⟩) (law22_RoutingTogether_l0 a1 a2) (law22_RoutingTogether_l0_p a1 a2) a1.length ([], []) (a1.length ≤ maxL) ((·.elim)) ((·.elim)) st) else bif Nat.beq id 2 then some (LCM (τ := Acequialaw22Place × Int) (ρ := Unit) (σ := Unit) 9 [] [0, 1, 2, 3, 4, 5, 6, 7, 8] (fun left_1 cur_1 s_1 => ⟨[(24, .os 7), (131, .ptr 8 0)], [.dead, .dead, .dead, .dead, .dead, .dead, .mp .acequialaw22Place .int (law22_gates ((routing_Plan a0 (outR (runI (law22_RoutingTogether_l0 a1 a2) a1.length 0 ([], []))).1).1)) none, .mp .acequialaw22Place .int (law22_gates ((routing_Plan a0 (outR (runI (law22_RoutingTogether_l0 a1 a2) a1.length 0 ([], []))).2).1)) none, .mi (some 6) ((law22_gates ((routing_Plan a0 (outR (runI (law22_RoutingTogether_l0 a1 a2) a1.length 0 ([], []))).1).1)).length) left_1 cur_1]⟩) (law22_RoutingTogether_l1 a0 (outR (runI (law22_RoutingTogether_l0 a1 a2) a1.length 0 ([], [])))) (law22_RoutingTogether_l1_p a0 (outR (runI (law22_RoutingTogether_l0 a1 a2) a1.length 0 ([], [])))) (law22_gates ((routing_Plan a0 (outR (runI (law22_RoutingTogether_l0 a1 a2) a1.length 0 ([], []))).1).1)) () (fun _ => .ret) (fun x_1_0 => ⟨[(6, .v (.bool true))], [.dead, .dead, .dead, .dead, .dead, .dead, .dead, .dead, .dead]⟩) (fun s_1 => ⟨[], [.dead, .dead, .dead, .dead, .dead, .dead, .dead, .dead, .dead]⟩) st) else bif Nat.beq id 4 then some (LCM (τ := Acequialaw22Place × Int) (ρ := Unit) (σ := Unit) 10 [] [0, 1, 2, 3, 4, 5, 6, 7, 8, 9] (fun left_2 cur_2 s_2 => ⟨[(23, .os 6), (24, .os 7), (145, .ptr 9 0)], [.dead, .dead, .dead, .dead, .dead, .dead, .mp .acequialaw22Place .int (law22_gates ((routing_Plan a0 (outR (runI (law22_RoutingTogether_l0 a1 a2) a1.length 0 ([], []))).1).1)) none, .mp .acequialaw22Place .int (law22_gates ((routing_Plan a0 (outR (runI (law22_RoutingTogether_l0 a1 a2) a1.length 0 ([], []))).2).1)) none, .mp .acequialaw22Place .int (law22_gates ((routing_Plan a0 a1).1)) none, .mi (some 8) ((law22_gates ((routing_Plan a0 a1).1)).length) left_2 cur_2]⟩) (law22_RoutingTogether_l2 a0 a1 (outR (runI (law22_RoutingTogether_l0 a1 a2) a1.length 0 ([], [])))) (law22_RoutingTogether_l2_p a0 a1 (outR (runI (law22_RoutingTogether_l0 a1 a2) a1.length 0 ([], [])))) (law22_gates ((routing_Plan a0 a1).1)) () (fun _ => .ret) (fun x_2_0 => ⟨[(6, .v (.bool false))], [.dead, .dead, .dead, .dead, .dead, .dead, .dead, .dead, .dead, .dead]⟩) (fun s_2 => ⟨[], [.dead, .dead, .dead, .dead, .dead, .dead, .dead, .dead, .dead, .dead]⟩) st) else none), ?_, ?_⟩
  · unfold bodyOf Try.f5
    simp only [loopsOk, true_and, and_true]
    refine ⟨?_, ?_, ?_⟩
    · refine loopR_ok mixed ts_ok hG (by kernel_rfl) (fun _ => rfl) (a1.length : Int) rfl lenB (fun hb0 k_0 s_0 hlt0 hq0 hw hc => ⟨L0, loopsOk0 _, ?_⟩) (fun hb0 s_0 hc => ?_)
      · unfold law22_RoutingTogether_l0_p at hq0
        try simp only [hw, Int.toNat_natCast] at hq0
        exact exSxR9_2
      · exact ezSxR9_2
    · refine loopM_ok (dflt .acequialaw22Place, dflt .int) 8 mixed ts_ok hG (by kernel_rfl) (fun _ => rfl) fun left_1 cur_1 s_1 hp1 => ⟨L0, loopsOk0 _, ?_⟩
      · by_cases hl1 : left_1 = []
        · subst hl1
          simp only [go_sem, Nat.reduceBEq, Nat.reduceLeDiff, Nat.reduceLT, decide_true, Nat.reduceAdd, Nat.reduceSub, Nat.reduceMul, Int.reduceLE, Int.reduceLT, Int.reduceToNat, Int.reduceNeg, reduceCtorEq, List.not_mem_nil]
          all_goals exact crSxR9_3
        · simp only [go_sem, Nat.reduceBEq, Nat.reduceLeDiff, Nat.reduceLT, decide_true, Nat.reduceAdd, Nat.reduceSub, Nat.reduceMul, Int.reduceLE, Int.reduceLT, Int.reduceToNat, Int.reduceNeg, reduceCtorEq, hl1]
          intro j hj1
          obtain ⟨hlt1, hq1⟩ := hp1 j hj1
          unfold law22_RoutingTogether_l1_p at hq1
          all_goals exact crSxR9_3
    · refine loopM_ok (dflt .acequialaw22Place, dflt .int) 9 mixed ts_ok hG (by kernel_rfl) (fun _ => rfl) fun left_2 cur_2 s_2 hp2 => ⟨L0, loopsOk0 _, ?_⟩
      · by_cases hl2 : left_2 = []
        · subst hl2
          simp only [go_sem, Nat.reduceBEq, Nat.reduceLeDiff, Nat.reduceLT, decide_true, Nat.reduceAdd, Nat.reduceSub, Nat.reduceMul, Int.reduceLE, Int.reduceLT, Int.reduceToNat, Int.reduceNeg, reduceCtorEq, List.not_mem_nil]
          all_goals exact crSxR9_4
        · simp only [go_sem, Nat.reduceBEq, Nat.reduceLeDiff, Nat.reduceLT, decide_true, Nat.reduceAdd, Nat.reduceSub, Nat.reduceMul, Int.reduceLE, Int.reduceLT, Int.reduceToNat, Int.reduceNeg, reduceCtorEq, hl2]
          intro j hj2
          obtain ⟨hlt2, hq2⟩ := hp2 j hj2
          unfold law22_RoutingTogether_l2_p at hq2
          all_goals exact crSxR9_4
  · unfold bodyOf Try.f5
    try unfold law22_RoutingTogether
    simp only [go_sem, Nat.reduceBEq, Nat.reduceLeDiff, Nat.reduceLT, decide_true, Nat.reduceAdd, Nat.reduceSub, Nat.reduceMul, Int.reduceLE, Int.reduceLT, Int.reduceToNat, Int.reduceNeg, reduceCtorEq]
    all_goals exact cl
end Go.Sx
end
section
namespace Go.Sx
open Go.Proofs Go.Shelf Go.Sort Go.Lib
end Go.Sx
end
section
namespace Go.Sx
open Go.Proofs Go.Shelf Go.Sort Go.Lib
theorem plan_ok {d : District} {out : List Order} (h : (((routing_Plan d out).2.2 != 0) || (!(routing_Plan d out).2.1)) = false) : Nar d out ∧ (∀ x ∈ out, x.outlet = true) ∧ ∃ gs, PL d out gs ∧ routing_Plan d out = (srt routing_by_1 (out ++ gs), true, 0) := by
  rcases plan_cases d out with ⟨hn, e⟩ | ⟨_, _, e⟩ | ⟨_, _, _, e⟩ | ⟨_, _, _, _, _, e⟩ | h'
  · rw [e] at h; simp at h
  · rw [e] at h; simp at h
  · rw [e] at h; simp at h
  · rw [e] at h; simp at h
  · exact h'
end Go.Sx
end
section
namespace Go.Sx
open Go.Proofs Go.Shelf Go.Sort Go.Lib
def ssum (P : Order → Bool) (f : Order → Int) : List Order → Int
  | [] => 0
  | x :: r => (bif P x then f x else 0) + ssum P f r
theorem ssum_le {P : Order → Bool} {f g : Order → Int} : ∀ {l : List Order}, (∀ x ∈ l, P x = true → x.litres ≤ f x + g x) → osum P l ≤ ssum P f l + ssum P g l
  | [], _ => by simp [osum, ssum]
  | x :: r, h => by
    have ih := ssum_le (l := r) fun y hy => h y (List.mem_cons_of_mem _ hy)
    have hx := h x List.mem_cons_self
    simp only [osum, ssum]
    cases hP : P x with
    | false => simp only [cond_false]; omega
    | true => have := hx hP; simp only [cond_true]; omega
theorem ssum_add {P : Order → Bool} {f g : Order → Int} : ∀ {l : List Order}, ssum P (fun x => f x + g x) l = ssum P f l + ssum P g l
  | [] => by simp [ssum]
  | x :: r => by
    have ih := ssum_add (P := P) (f := f) (g := g) (l := r)
    simp only [ssum, ih]
    cases P x <;> simp only [cond_true, cond_false] <;> omega
theorem ssum_zero {P : Order → Bool} {f : Order → Int} : ∀ {l : List Order}, (∀ x ∈ l, f x = 0) → ssum P f l = 0
  | [], _ => rfl
  | x :: r, h => by
    have ih := ssum_zero (P := P) (f := f) (l := r) fun y hy => h y (List.mem_cons_of_mem _ hy)
    simp only [ssum, ih, h x List.mem_cons_self]
    cases P x <;> rfl
theorem ssum_one {P : Order → Bool} (hP : ∀ x y, K x y → P x = P y) {z : Order} (hz : 0 ≤ z.litres) : ∀ {l : List Order}, l.Pairwise (fun x y => ¬ K x y) → (∀ x ∈ l, x.outlet = false) → ssum P (fun x => bif gP x.index x.hour z then z.litres else 0) l ≤ bif P z && !z.outlet then z.litres else 0
  | [], _, _ => by simp only [ssum]; cases (P z && !z.outlet) <;> simp only [cond_true, cond_false] <;> omega
  | x :: r, hk, ho => by
    have hk' := List.pairwise_cons.1 hk
    have ih := ssum_one hP hz hk'.2 fun y hy => ho y (List.mem_cons_of_mem _ hy)
    simp only [ssum]
    cases hg : gP x.index x.hour z with
    | false => simp only [cond_false]; cases P x <;> simp only [cond_true, cond_false] <;> omega
    | true =>
      have hxo := ho x List.mem_cons_self
      have hzx : K z x := gP_key hg (by unfold gP; rw [hxo]; simp)
      have h0 : ssum P (fun x => bif gP x.index x.hour z then z.litres else 0) r = 0 := ssum_zero fun y hy => by
        cases hq : gP y.index y.hour z with
        | false => rfl
        | true =>
          have : K z y := gP_key hq (by unfold gP; rw [ho y (List.mem_cons_of_mem _ hy)]; simp)
          exact absurd ⟨hzx.1.symm.trans this.1, hzx.2.1.symm.trans this.2.1, hzx.2.2.symm.trans this.2.2⟩ (hk'.1 y hy)
      rw [h0, hP z x hzx]
      have : z.outlet = false := by rw [hzx.2.2]; exact hxo
      rw [this]
      cases P x <;> simp only [cond_true, cond_false, Bool.not_false, Bool.and_true, Bool.and_false] <;> omega
theorem ssum_glit {P : Order → Bool} (hP : ∀ x y, K x y → P x = P y) {l : List Order} (hk : l.Pairwise fun x y => ¬ K x y) (ho : ∀ x ∈ l, x.outlet = false) : ∀ {A : List Order}, (∀ z ∈ A, 0 ≤ z.litres) → ssum P (fun x => glit A x.index x.hour) l ≤ osum (fun z => P z && !z.outlet) A
  | [], _ => by
    have : ssum P (fun x => glit [] x.index x.hour) l = 0 := ssum_zero fun x _ => rfl
    rw [this]; exact Int.le_refl _
  | z :: A, h => by
    have ih := ssum_glit hP hk ho (A := A) fun y hy => h y (List.mem_cons_of_mem _ hy)
    have h1 := ssum_one hP (h z List.mem_cons_self) hk ho
    have e : ssum P (fun x => glit (z :: A) x.index x.hour) l = ssum P (fun x => (bif gP x.index x.hour z then z.litres else 0) + glit A x.index x.hour) l := rfl
    rw [e, ssum_add]
    simp only [osum]
    omega
structure Sch (d : District) (out gs : List Order) : Prop where
  good : Good d out
  all : ∀ x ∈ out, x.outlet = true
  pl : PL d out gs
section
variable {d : District}
abbrev sch (out gs : List Order) : List Order := srt routing_by_1 (out ++ gs)
theorem Sch.keeps {out gs : List Order} (h : Sch d out gs) : Keeps d (sch out gs) := plan_keeps h.good h.all h.pl
theorem Sch.split {out gs : List Order} (h : Sch d out gs) (r hh : Int) : osum (fun z => drawP d r hh z && !z.outlet) (sch out gs) + drw d out r hh = drw d (sch out gs) r hh := by
  have e1 : drw d (sch out gs) r hh = drw d (out ++ gs) r hh := osum_perm (srt_perm _)
  rw [e1, osum_perm (srt_perm (out ++ gs)), drw_app, osum_app]
  have e2 : osum (fun z => drawP d r hh z && !z.outlet) out = 0 := osum_none fun x hx => by rw [h.all x hx]; simp
  have e3 : osum (fun z => drawP d r hh z && !z.outlet) gs = drw d gs r hh := by
    have : ∀ g : List Order, (∀ x ∈ g, x.outlet = false) → osum (fun z => drawP d r hh z && !z.outlet) g = osum (drawP d r hh) g := by
      intro g
      induction g with
      | nil => intro _; rfl
      | cons x r ih =>
        intro hg
        simp only [osum, ih fun y hy => hg y (List.mem_cons_of_mem _ hy), hg x List.mem_cons_self, Bool.not_false, Bool.and_true]
    exact this gs fun x hx => (h.pl.fin.gate x hx).out
  omega
theorem Sch.gate {out gs : List Order} (h : Sch d out gs) {r hh : Int} (r0 : 0 ≤ r) (r1 : r < (d.reaches.length : Int)) : 0 ≤ glit (sch out gs) r (hh - (rch d r).delay) ∧ glit (sch out gs) r (hh - (rch d r).delay) ≤ 1073741824 ∧ drw d (sch out gs) r hh ≤ wst (rch d r) (glit (sch out gs) r (hh - (rch d r).delay)) ∧ 0 ≤ drw d (sch out gs) r hh ∧ (1 ≤ drw d (sch out gs) r hh → (rch d r).siphon ≤ glit (sch out gs) r (hh - (rch d r).delay) ∧ 0 ≤ hh - (rch d r).delay) := by
  have hk := h.keeps
  have hx : expand_reach (r.toNat : Int) (rch d r) = true := h.good.right.reach r.toNat (by omega)
  have hb := (drw_bound (d := d) hk.good.orders.lit r hh).1
  have hl : 0 ≤ glit (sch out gs) r (hh - (rch d r).delay) ∧ glit (sch out gs) r (hh - (rch d r).delay) ≤ 1073741824 := by
    by_cases hg : glit (sch out gs) r (hh - (rch d r).delay) = 0
    · omega
    · obtain ⟨z, hz, _, _, _, z4⟩ := glit_ne hk.good.keys hg
      have := hk.good.orders.lit z hz
      omega
  by_cases h1 : 1 ≤ drw d (sch out gs) r hh
  · obtain ⟨z, hz, z1, z2, z3, z4, z5, z6, z7, _⟩ := keeps_use hk r0 h1
    have e := glit_mem hk.good.keys hz z1
    rw [z2, z3] at e
    have := (hk.good.one z hz).hour0
    rw [e]
    exact ⟨by omega, z6, z4, hb, fun _ => ⟨z7, by omega⟩⟩
  · have := wst_nn hx hl.1 hl.2
    exact ⟨hl.1, hl.2, by omega, hb, fun q => absurd q h1⟩
variable {out one two ga gb : List Order}
theorem tog_draw (ha : Sch d one ga) (hb : Sch d two gb) (hs : ∀ P : Order → Bool, (∀ x y, K x y → P x = P y) → osum P one + osum P two = osum P out) {gs : List Order} (hu : gs.Pairwise fun x y => ¬ K x y) (hg : ∀ x ∈ gs, x.outlet = false) {r hh : Int} (hd : ∀ x ∈ gs, drawP d r hh x = true → x.litres ≤ glit (sch one ga) x.index x.hour + glit (sch two gb) x.index x.hour) :
    drw d (out ++ gs) r hh ≤ drw d (sch one ga) r hh + drw d (sch two gb) r hh := by
  rw [drw_app, ← ha.split, ← hb.split]
  have h1 := ssum_le hd
  have h2 := ssum_glit (drawP_key d r hh) hu hg (A := sch one ga) fun z hz => by have := ha.keeps.good.orders.lit z hz; omega
  have h3 := ssum_glit (drawP_key d r hh) hu hg (A := sch two gb) fun z hz => by have := hb.keeps.good.orders.lit z hz; omega
  have h4 := hs _ (drawP_key d r hh)
  unfold drw
  omega
theorem tog_step (ha : Sch d one ga) (hb : Sch d two gb) {r hh D v : Int} (r0 : 0 ≤ r) (r1 : r < (d.reaches.length : Int)) (h1 : 1 ≤ D) (hD : D ≤ drw d (sch one ga) r hh + drw d (sch two gb) r hh) :
    0 ≤ hh - (rch d r).delay ∧ (rch d r).siphon ≤ glit (sch one ga) r (hh - (rch d r).delay) + glit (sch two gb) r (hh - (rch d r).delay) ∧ (glit (sch one ga) r (hh - (rch d r).delay) + glit (sch two gb) r (hh - (rch d r).delay) ≤ 1073741824 → D ≤ wst (rch d r) (glit (sch one ga) r (hh - (rch d r).delay) + glit (sch two gb) r (hh - (rch d r).delay))) := by
  obtain ⟨a1, a2, a3, a4, a5⟩ := ha.gate (hh := hh) r0 r1
  obtain ⟨b1, b2, b3, b4, b5⟩ := hb.gate (hh := hh) r0 r1
  have hx : expand_reach (r.toNat : Int) (rch d r) = true := ha.good.right.reach r.toNat (by omega)
  refine ⟨?_, ?_, fun hm => ?_⟩
  · by_cases q : 1 ≤ drw d (sch one ga) r hh
    · exact (a5 q).2
    · exact (b5 (by omega)).2
  · by_cases q : 1 ≤ drw d (sch one ga) r hh
    · have := (a5 q).1; omega
    · have := (b5 (by omega)).1; omega
  · have := wst_add hx a1 b1 hm
    omega
theorem tog_gate (ha : Sch d one ga) (hb : Sch d two gb) (hs : ∀ P : Order → Bool, (∀ x y, K x y → P x = P y) → osum P one + osum P two = osum P out) {gs : List Order} (hu : gs.Pairwise fun x y => ¬ K x y) (hg : ∀ x ∈ gs, PG d (out ++ gs) x) :
    ∀ (n : Nat) (x : Order), x ∈ gs → (d.reaches.length : Int) - x.index ≤ n → x.litres ≤ glit (sch one ga) x.index x.hour + glit (sch two gb) x.index x.hour := by
  intro n
  induction n with
  | zero => intro x hx hn; have := (hg x hx).i1; omega
  | succ n ih =>
    intro x hx hn
    have g := hg x hx
    have hD : drw d (out ++ gs) x.index (x.hour + (rch d x.index).delay) ≤ drw d (sch one ga) x.index (x.hour + (rch d x.index).delay) + drw d (sch two gb) x.index (x.hour + (rch d x.index).delay) := by
      refine tog_draw ha hb hs hu (fun y hy => (hg y hy).out) fun y hy hp => ?_
      have gy := hg y hy
      refine ih y hy ?_
      unfold drawP at hp
      rw [gy.out] at hp
      simp only [Bool.false_and, Bool.not_false, Bool.true_and, Bool.false_or, Bool.and_eq_true, beq_iff_eq] at hp
      have i0 := gy.i0; have i1 := gy.i1
      have := up_lt ha.good.right (r := y.index.toNat) (by omega)
      rw [show ((y.index.toNat : Nat) : Int) = y.index from Int.toNat_of_nonneg i0] at this
      have e : (rch d y.index).up = x.index := hp.2
      omega
    obtain ⟨q1, q2, q3⟩ := tog_step (v := 0) ha hb g.i0 g.i1 g.w hD
    have e : x.hour + (rch d x.index).delay - (rch d x.index).delay = x.hour := by omega
    rw [e] at q1 q2 q3
    have gl := gate_lit ha.good.right g
    have a1 := (ha.gate (hh := x.hour + (rch d x.index).delay) g.i0 g.i1).1
    have b1 := (hb.gate (hh := x.hour + (rch d x.index).delay) g.i0 g.i1).1
    rw [e] at a1 b1
    by_cases hm : glit (sch one ga) x.index x.hour + glit (sch two gb) x.index x.hour ≤ 1073741824
    · exact gl.2.2.2.2 _ (by omega) hm q2 (q3 hm)
    · omega
end
end Go.Sx
end
section
namespace Go.Sx
open Go.Proofs Go.Shelf Go.Sort Go.Lib
def pieceOf (n : Int) (x : Order) : List Order := if 0 < n then [{ hour := x.hour, index := x.index, litres := n, outlet := x.outlet }] else []
theorem pieceOf_osum {P : Order → Bool} (hP : ∀ x y, K x y → P x = P y) {n : Int} (hn : 0 ≤ n) (x : Order) : osum P (pieceOf n x) = bif P x then n else 0 := by
  unfold pieceOf
  by_cases h : 0 < n
  · rw [if_pos h]
    simp only [osum, hP { hour := x.hour, index := x.index, litres := n, outlet := x.outlet } x ⟨rfl, rfl, rfl⟩]
    exact Int.add_zero _
  · rw [if_neg h]
    have : n = 0 := by omega
    subst this
    simp only [osum]
    cases P x <;> rfl
theorem part_step (out : List Order) (parts : List Int) (hu : ∀ y ∈ parts, 0 ≤ y ∧ y ≤ 255) {k : Nat} (h1 : 1 ≤ (out.getD k default).litres) (h2 : (out.getD k default).litres ≤ 1073741824) (s : List Order × List Order) :
    ∃ n, 0 ≤ n ∧ n ≤ (out.getD k default).litres ∧ law22_RoutingTogether_l0 out parts k s = .inr (s.1 ++ pieceOf n (out.getD k default), s.2 ++ pieceOf ((out.getD k default).litres - n) (out.getD k default)) := by
  unfold law22_RoutingTogether_l0
  generalize out.getD k default = x at *
  by_cases hk : k < parts.length
  · have hp := hu _ (getD_mem' parts 0 hk)
    rw [decide_eq_true (by omega : (k : Int) < (parts.length : Int))]
    rw [wrapI (n := parts.getD k 0) (by omega) (by omega)]
    generalize hn : (if parts.getD k 0 < x.litres then parts.getD k 0 else x.litres) = n
    have hn0 : 0 ≤ n ∧ n ≤ x.litres := by
      rw [← hn]; split <;> omega
    refine ⟨n, hn0.1, hn0.2, ?_⟩
    rw [wrapI (by omega) (by omega)]
    unfold pieceOf
    simp only [cond_true]
    by_cases q : 0 < n
    · rw [decide_eq_true (by omega : n > 0), if_pos q]
      by_cases q2 : n < x.litres
      · rw [decide_eq_true q2, if_pos (by omega)]; rfl
      · rw [decide_eq_false q2, if_neg (by omega), List.append_nil]; rfl
    · rw [decide_eq_false (by omega), if_neg q]
      have q2 : n < x.litres := by omega
      rw [decide_eq_true q2, if_pos (by omega), List.append_nil]; rfl
  · rw [decide_eq_false (by omega)]
    refine ⟨x.litres, by omega, Int.le_refl _, ?_⟩
    unfold pieceOf
    rw [if_pos (show 0 < x.litres by omega), if_neg (show ¬ 0 < x.litres - x.litres by omega), List.append_nil]
    simp only [cond_false]
    have e1 : decide (x.litres > 0) = true := decide_eq_true (by omega)
    have e2 : decide (x.litres < x.litres) = false := decide_eq_false (by omega)
    simp only [e1, e2, cond_true, cond_false]
structure Parts (out : List Order) (k : Nat) (s : List Order × List Order) : Prop where
  sum : ∀ P : Order → Bool, (∀ x y, K x y → P x = P y) → osum P s.1 + osum P s.2 = osum P (out.take k)
  l1 : s.1.length ≤ k
  l2 : s.2.length ≤ k
theorem pieceOf_len (n : Int) (x : Order) : (pieceOf n x).length ≤ 1 := by unfold pieceOf; split <;> simp
theorem Parts.next {d : District} {out : List Order} (hg : Good d out) {parts : List Int} (hu : ∀ y ∈ parts, 0 ≤ y ∧ y ≤ 255) {k : Nat} {s : List Order × List Order} (hk : k < out.length) (h : Parts out k s) : ∃ s', law22_RoutingTogether_l0 out parts k s = .inr s' ∧ Parts out (k + 1) s' := by
  have hx := hg.one _ (getD_mem' out default hk)
  obtain ⟨n, n0, n1, e⟩ := part_step out parts hu hx.litres1 hx.litres s
  refine ⟨_, e, ⟨fun P hP => ?_, ?_, ?_⟩⟩
  · rw [List.take_succ_eq_append_getElem hk, ← getD_el out default hk]
    simp only [osum_app, pieceOf_osum hP n0, pieceOf_osum hP (by omega : 0 ≤ (out.getD k default).litres - n), ← h.sum P hP, osum]
    cases P (out.getD k default) <;> simp only [cond_true, cond_false] <;> omega
  · have := h.l1; have := pieceOf_len n (out.getD k default); simp only [List.length_append]; omega
  · have := h.l2; have := pieceOf_len ((out.getD k default).litres - n) (out.getD k default); simp only [List.length_append]; omega
theorem parts_run {d : District} {out : List Order} (hg : Good d out) {parts : List Int} (hu : ∀ y ∈ parts, 0 ≤ y ∧ y ≤ 255) : ∃ s, runI (law22_RoutingTogether_l0 out parts) out.length 0 ([], []) = .inr s ∧ Parts out out.length s := by
  obtain ⟨s, e, h⟩ := runI_J (Parts out) out.length 0 ([], []) ⟨fun P _ => by simp [osum], Nat.le_refl _, Nat.le_refl _⟩ fun j s _ hj h => h.next hg hu (by omega)
  rw [Nat.zero_add] at h
  exact ⟨s, e, h⟩
theorem glit_rng {d : District} {l : List Order} (h : Good d l) (r hh : Int) : 0 ≤ glit l r hh ∧ glit l r hh ≤ 1073741824 := by
  by_cases hg : glit l r hh = 0
  · omega
  · obtain ⟨z, hz, _, _, _, z4⟩ := glit_ne h.keys hg
    have := h.orders.lit z hz
    omega
theorem together_t (d : District) (out : List Order) (parts : List Int) (hu : ∀ y ∈ parts, 0 ≤ y ∧ y ≤ 255) : law22_RoutingTogether d out parts = true := by
  unfold law22_RoutingTogether
  rw [sane_t]
  simp only [Bool.not_true, cond_false]
  cases hf : (!(ref22_Few d out) || (routing_Check d out != 0)) with
  | true => rfl
  | false =>
    simp only [Bool.or_eq_false_iff, bne_eq_false_iff_eq] at hf
    have hg := good_of hf.2
    obtain ⟨s, hs, hp⟩ := parts_run hg hu
    have hsum := hp.sum
    rw [List.take_length] at hsum
    rw [hs]
    simp only [cond_false]
    cases hq : (((((routing_Plan d s.1).2.2 != 0) || ((routing_Plan d s.2).2.2 != 0)) || ((routing_Plan d out).2.2 != 0)) || (!(routing_Plan d s.1).2.1)) || (!(routing_Plan d s.2).2.1) with
    | true => rfl
    | false =>
      simp only [cond_false]
      simp only [Bool.or_eq_false_iff, bne_eq_false_iff_eq] at hq
      obtain ⟨⟨⟨⟨q1, q2⟩, q3⟩, q4⟩, q5⟩ := hq
      obtain ⟨na, alla, ga, pa, ea⟩ := plan_ok (d := d) (out := s.1) (by rw [q1, q4]; rfl)
      obtain ⟨nb, allb, gb, pb, eb⟩ := plan_ok (d := d) (out := s.2) (by rw [q2, q5]; rfl)
      have ha : Sch d s.1 ga := ⟨na.good, alla, pa⟩
      have hb : Sch d s.2 gb := ⟨nb.good, allb, pb⟩
      have hga := gates_of ha.keeps.good
      have hgb := gates_of hb.keeps.good
      rcases plan_cases d out with ⟨hn, e⟩ | ⟨_, _, e⟩ | ⟨hN, hall, ⟨gs, r, h, hx⟩, e⟩ | ⟨_, _, _, _, _, e⟩ | ⟨hN, hall, gs, hP, e⟩
      · rw [e] at q3; exact absurd q3 hn
      · rw [e] at q3; cases q3
      · rw [e]
        simp only [Bool.not_false, cond_true]
        cases hrun : runL (law22_RoutingTogether_l1 d s) (law22_gates (routing_Plan d s.1).1) () with
        | inl y => rfl
        | inr y =>
          exfalso
          obtain ⟨m, p⟩ := hx.part
          have hk := p.uniq.imp (S := fun x y => ¬ K x y) fun {x y} q k => q ⟨k.2.1, k.1⟩
          have hgt := tog_gate ha hb hsum hk (fun x hx => (p.gate x hx).1)
          have hD : drw d (out ++ gs) r h ≤ drw d (sch s.1 ga) r h + drw d (sch s.2 gb) r h := tog_draw ha hb hsum hk (fun y hy => (p.gate y hy).1.out) fun y hy _ => hgt d.reaches.length y hy (by have := (p.gate y hy).1.i0; omega)
          have hr1 : (r : Int) < (d.reaches.length : Int) := by have := hx.r1; omega
          obtain ⟨w1, w2, w3⟩ := tog_step (v := 0) ha hb (by omega) hr1 hx.w hD
          have ra := glit_rng ha.keeps.good r (h - (rch d r).delay)
          have rb := glit_rng hb.keeps.good r (h - (rch d r).delay)
          have hbig : 1073741824 < glit (sch s.1 ga) r (h - (rch d r).delay) + glit (sch s.2 gb) r (h - (rch d r).delay) := by
            rcases hx.no with q | q
            · by_cases hm : glit (sch s.1 ga) r (h - (rch d r).delay) + glit (sch s.2 gb) r (h - (rch d r).delay) ≤ 1073741824
              · have hw := w3 hm
                rcases intake_ok (i := (r : Int)) (by omega) (hg.right.reach r hx.r1) hx.w with ⟨v, e', _⟩ | ⟨_, e'⟩
                · have : (routing_intake (rch d r) (drw d (out ++ gs) r h)).2 = true := by
                    have e2 : routing_intake (rch d r) (drw d (out ++ gs) r h) = (v, true) := e'
                    rw [e2]
                  rw [this] at q; cases q
                · have := e' _ (by omega) hm
                  have e2 : ∀ z, wst (d.reaches.getD r default) z = wst (rch d r) z := fun _ => rfl
                  rw [e2] at this
                  omega
              · omega
            · omega
          rw [ea] at hrun
          have hmem : (({ reach := r, hour := (h : Int) - (rch d r).delay } : Acequialaw22Place), glit (sch s.1 ga) r (h - (rch d r).delay)) ∈ law22_gates (sch s.1 ga) := hga.mem (p := { reach := r, hour := (h : Int) - (rch d r).delay }) (by show glit (sch s.1 ga) r ((h : Int) - (rch d r).delay) ≠ 0; omega)
          have := runL_unit_iff.1 hrun _ hmem
          unfold law22_RoutingTogether_l1 at this
          rw [eb, hgb.get] at this
          simp only at this
          rw [wrapI (by omega) (by omega), decide_eq_true (by omega)] at this
          cases this
      · rw [e] at q3; cases q3
      · rw [e]
        simp only [Bool.not_true, cond_false]
        have hc : Good d (sch out gs) := hP.good
        have hk := hP.fin.uniq.imp (S := fun x y => ¬ K x y) fun {x y} q k => q ⟨k.2.1, k.1⟩
        have hgt := tog_gate ha hb hsum hk hP.fin.gate
        have hrun : runL (law22_RoutingTogether_l2 d out s) (law22_gates (srt routing_by_1 (out ++ gs))) () = .inr () := by
          refine runL_unit_iff.2 fun x hx => ?_
          obtain ⟨w1, w2⟩ := (gates_of hc).entry hx
          obtain ⟨y, hy, y1, y2, y3, y4⟩ := glit_ne hc.keys (by omega : glit (sch out gs) x.1.reach x.1.hour ≠ 0)
          have hyg : y ∈ gs := by
            rcases List.mem_append.1 ((srt_perm _).mem_iff.1 hy) with q | q
            · rw [hall y q] at y1; cases y1
            · exact q
          have := hgt d.reaches.length y hyg (by have := (hP.fin.gate y hyg).i0; omega)
          rw [y2, y3] at this
          have ra := glit_rng ha.keeps.good x.1.reach x.1.hour
          have rb := glit_rng hb.keeps.good x.1.reach x.1.hour
          unfold law22_RoutingTogether_l2
          rw [ea, eb]
          simp only
          rw [hga.get, hgb.get]
          try simp only
          rw [wrapI (by omega) (by omega), decide_eq_false (by omega)]; rfl
        rw [hrun]
theorem together_p (d : District) (out : List Order) (parts : List Int) (hu : ∀ y ∈ parts, 0 ≤ y ∧ y ≤ 255) : law22_RoutingTogether_p d out parts := by
  refine ⟨sane_p, fun _ => ⟨fun _ => routing_pt _ _, fun hf _ => ?_⟩⟩
  simp only [Bool.or_eq_false_iff, bne_eq_false_iff_eq] at hf
  have hg := good_of hf.2
  refine ⟨okI_inv (fun k s => k ≤ out.length → Parts out k s) _ _ _ (fun _ => ⟨fun P _ => by simp [osum], Nat.le_refl _, Nat.le_refl _⟩) (fun j s _ hj hJ => ?_), fun s hs => ⟨plan_p _ _, plan_p _ _, plan_p _ _, fun _ => ⟨fun _ => okM_unit fun _ _ => trivial, fun _ => okM_unit fun _ _ => trivial⟩⟩⟩
  have hj : j < out.length := by omega
  have h := hJ (by omega)
  have h1 := h.l1
  have h2 := h.l2
  have hlen := hg.len
  refine ⟨?_, fun s' hs _ => ?_⟩
  · unfold law22_RoutingTogether_l0_p
    simp only [List.length_append, List.length_cons, List.length_nil]
    unfold maxB
    repeat' first | omega | apply And.intro | intro _
    all_goals simp_all
  · obtain ⟨s2, e, h3⟩ := h.next hg hu hj
    rw [e] at hs
    cases hs
    exact h3
end Go.Sx
end
section
namespace Go.Sx
open Go.RowKit Go.Deep
section
variable {F : Nat → Prop} {own : Own} {w : World}
def RC (F : Nat → Prop) (own : Own) (w : World) (ks : List Kd) (cs : List Value) : Prop :=
  ∃ l : List SV, fits ks l = true ∧ l.length = cs.length ∧ ∀ (j : Nat) (s : SV) (v : Value), l[j]? = some s → cs[j]? = some v → Rel F own w s v
theorem fits_app : ∀ {a b : List Kd} {l m : List SV}, fits a l = true → fits b m = true → fits (a ++ b) (l ++ m) = true
  | [], b, l, m, h1, h2 => by rw [fits_nil h1]; exact h2
  | k :: a, b, l, m, h1, h2 => by
    obtain ⟨x, r, rfl, e1, e2⟩ := fits_cons h1
    simp only [List.cons_append, fits, e1, fits_app e2 h2, Bool.and_self]
theorem RC.nil : RC F own w [] [] := ⟨[], rfl, rfl, fun j s v h => by cases h⟩
theorem RC.app {a b : List Kd} {c d : List Value} (h1 : RC F own w a c) (h2 : RC F own w b d) : RC F own w (a ++ b) (c ++ d) := by
  obtain ⟨l, f1, n1, r1⟩ := h1
  obtain ⟨m, f2, n2, r2⟩ := h2
  refine ⟨l ++ m, fits_app f1 f2, by simp [n1, n2], fun j s v hs hv => ?_⟩
  by_cases hj : j < l.length
  · rw [List.getElem?_append_left hj] at hs
    rw [List.getElem?_append_left (by omega)] at hv
    exact r1 j s v hs hv
  · rw [List.getElem?_append_right (by omega)] at hs
    rw [List.getElem?_append_right (by omega), ← n1] at hv
    exact r2 _ s v hs hv
theorem RC.one {k : Kd} {s : SV} {v : Value} (h1 : fit k s = true) (h2 : Rel F own w s v) : RC F own w [k] [v] :=
  ⟨[s], by simp [fits, h1], rfl, fun j s' v' hs hv => by
    cases j with
    | zero => simp only [List.getElem?_cons_zero, Option.some.injEq] at hs hv; subst hs; subst hv; exact h2
    | succ j => simp at hs⟩
end
def eqKd : Kd → Kd → Bool
  | .s, .s => true
  | .b, .b => true
  | .n a, .n b => decide (a = b)
  | .r a, .r b => decide (a = b)
  | .m a c, .m b d => decide (a = b) && decide (c = d)
  | _, _ => false
theorem eqKd_ok : ∀ {a b : Kd}, eqKd a b = true → a = b := by
  intro a b h
  cases a <;> cases b <;> simp_all [eqKd]
def eqKs : List Kd → List Kd → Bool
  | [], [] => true
  | a :: l, b :: m => eqKd a b && eqKs l m
  | _, _ => false
theorem eqKs_ok : ∀ {a b : List Kd}, eqKs a b = true → a = b
  | [], [], _ => rfl
  | a :: l, b :: m, h => by
    simp only [eqKs, Bool.and_eq_true] at h
    rw [eqKd_ok h.1, eqKs_ok h.2]
def kindsF (P : Program) (g : TypeId → Option (List Kd)) : List Field → Nat → Nat → Option (List Kd)
  | [], off, tot => bif Nat.beq off tot then some [] else none
  | f :: r, off, tot => match g f.type with
    | some a => bif Nat.beq f.offset off && Nat.beq a.length (P.cellsOf f.type) then (kindsF P g r (off + a.length) tot).map (a ++ ·) else none
    | none => none
def kindsA (a : List Kd) : Nat → List Kd
  | 0 => []
  | n + 1 => a ++ kindsA a n
def kindsT (P : Program) : Nat → TypeId → Option (List Kd)
  | 0, _ => none
  | n + 1, t => match P.underlying t with
    | some .bool => some [.b]
    | some (.int k) => some [.n k]
    | some .string => some [.s]
    | some (.slice e) => match tagT P e, kindsT P n e with
      | some k, some ks => bif eqKs ks (kindsOf k) && Nat.beq (P.cellsOf e) (sizeOfTag k) && Nat.ble 1 (sizeOfTag k) then some [.r k] else none
      | _, _ => none
    | some (.struct fs) => kindsF P (kindsT P n) fs.toList 0 (P.cellsOf t)
    | some (.array m e) => match kindsT P n e with
      | some a => bif Nat.beq a.length (P.cellsOf e) && Nat.beq (P.cellsOf t) (m * a.length) then some (kindsA a m) else none
      | none => none
    | _ => none
section
variable {H : Type} {enc : TypeId × Value → H} {P : Program} {F : Nat → Prop} {own : Own} {w : World} {base : Nat} {spare : Nat → Bool} {held : Bool} {S : DataW H → Prop}
theorem kF_read {g : TypeId → Option (List Kd)} (hg : ∀ t ks, g t = some ks → ∀ (fuel : Nat) (cs : List Value) (x : DataW H × List MemPlace), DataW.trod enc P w base spare held fuel t cs = some x → S x.1 → RC F own w ks cs)
    (fuel : Nat) (cs : List Value) : ∀ (fs : List Field) (off : Nat) (ks : List Kd), kindsF P g fs off cs.length = some ks → (∀ f ∈ fs, ∃ x, DataW.trod enc P w base spare held fuel f.type ((cs.drop f.offset).take (P.cellsOf f.type)) = some x ∧ S x.1) → RC F own w ks (cs.drop off)
  | [], off, ks, h, _ => by
    unfold kindsF at h
    cases hb : Nat.beq off cs.length with
    | false => rw [hb] at h; cases h
    | true =>
      rw [hb] at h
      have : off = cs.length := Nat.eq_of_beq_eq_true hb
      subst this
      cases h
      rw [List.drop_length]
      exact RC.nil
  | f :: r, off, ks, h, hx => by
    unfold kindsF at h
    cases ha : g f.type with
    | none => rw [ha] at h; cases h
    | some a =>
      rw [ha] at h
      dsimp only at h
      cases hb : Nat.beq f.offset off && Nat.beq a.length (P.cellsOf f.type) with
      | false => rw [hb] at h; cases h
      | true =>
        rw [hb] at h
        simp only [cond_true, Option.map_eq_some_iff] at h
        obtain ⟨ks2, h2, rfl⟩ := h
        rw [Bool.and_eq_true] at hb
        have e1 : f.offset = off := Nat.eq_of_beq_eq_true hb.1
        have e2 : a.length = P.cellsOf f.type := Nat.eq_of_beq_eq_true hb.2
        obtain ⟨x, hx1, hs1⟩ := hx f (by simp)
        have h3 := hg _ _ ha _ _ _ hx1 hs1
        have h4 := kF_read hg fuel cs r (off + a.length) ks2 h2 fun f hf => hx f (by simp [hf])
        have := h3.app h4
        rw [e1, ← e2] at this
        rwa [← List.drop_drop, List.take_append_drop] at this
theorem kA_read {e : TypeId} {a : List Kd} (ha : ∀ (fuel : Nat) (cs : List Value) (x : DataW H × List MemPlace), DataW.trod enc P w base spare held fuel e cs = some x → S x.1 → RC F own w a cs)
    (fuel : Nat) : ∀ (m : Nat) (cs : List Value), cs.length = m * a.length → (∀ i, i < m → ∃ x, DataW.trod enc P w base spare held fuel e ((cs.drop (i * a.length)).take a.length) = some x ∧ S x.1) → RC F own w (kindsA a m) cs
  | 0, cs, h, _ => by
    have : cs = [] := by simpa using h
    subst this
    exact RC.nil
  | m + 1, cs, h, hx => by
    obtain ⟨x, hx1, hs1⟩ := hx 0 (by omega)
    rw [Nat.zero_mul, List.drop_zero] at hx1
    have h3 := ha _ _ _ hx1 hs1
    have h4 := kA_read ha fuel m (cs.drop a.length) (by rw [List.length_drop, h, Nat.succ_mul]; omega) fun i hi => by
      obtain ⟨x, hx2, hs2⟩ := hx (i + 1) (by omega)
      refine ⟨x, ?_, hs2⟩
      rw [List.drop_drop]
      rwa [Nat.succ_mul, Nat.add_comm] at hx2
    have := h3.app h4
    rwa [List.take_append_drop] at this
structure Small (S : DataW H → Prop) : Prop where
  agg : ∀ l, S (.agg l) → ∀ d ∈ l, S d
  slice : ∀ l m, S (.slice l m) → l.length ≤ maxL ∧ ∀ d ∈ l, S d
theorem kinds_read (hS : Small S) (hown : ∀ b, ¬ ownB F own b) : ∀ (n : Nat) (t : TypeId) (ks : List Kd), kindsT P n t = some ks → ∀ (fuel : Nat) (cs : List Value) (x : DataW H × List MemPlace), DataW.trod enc P w base spare held fuel t cs = some x → S x.1 → RC F own w ks cs
  | 0, _, _, h, _, _, _, _, _ => by cases h
  | n + 1, t, ks, h, fuel, cs, x, hx, hs => by
    unfold kindsT at h
    split at h
    · rename_i ht
      cases h
      obtain ⟨b, rfl, rfl⟩ := DataW.trod_bool ht hx
      exact RC.one (s := .v (.bool b)) rfl (.v _)
    · rename_i k ht
      cases h
      obtain ⟨m, rfl, rfl, _⟩ := DataW.trod_int ht hx
      exact RC.one (s := .v (.int k m)) (by simp [fit]) (.v _)
    · rename_i ht
      cases h
      obtain ⟨b, rfl, rfl, _⟩ := DataW.trod_string ht hx
      exact RC.one (s := .v (.string b)) rfl (.v _)
    · rename_i e ht
      split at h
      · rename_i k ks2 hk hks
        cases hb : eqKs ks2 (kindsOf k) && Nat.beq (P.cellsOf e) (sizeOfTag k) && Nat.ble 1 (sizeOfTag k) with
        | false => rw [hb] at h; cases h
        | true =>
          rw [hb] at h
          cases h
          simp only [Bool.and_eq_true] at hb
          have e1 := eqKs_ok hb.1.1
          have e2 : P.cellsOf e = sizeOfTag k := Nat.eq_of_beq_eq_true hb.1.2
          have e3 : 1 ≤ sizeOfTag k := Nat.le_of_ble_eq_true hb.2
          subst e1
          rcases open_slice ht hx with ⟨rfl, rfl⟩ | ⟨a, len, cap, m, f2, D, Pl, rfl, hb1, hl, hm, hmm, rfl, hel⟩
          · exact RC.one (s := .rs k []) (by simp [fit]) .rs0
          · have hlm : len ≤ m := by subst hmm; split <;> omega
            obtain ⟨hs1, hs2⟩ := hS.slice _ _ hs
            simp only [List.length_map, List.length_range] at hs1
            have helt : ∀ i, i < len → ∃ cs', cs'.length = sizeOfTag k ∧ (∀ j v, cs'[j]? = some v → w.cell? ((a.add (i * sizeOfTag k)).add j) = some v) ∧ RC F own w (kindsOf k) cs' := fun i hi => by
              obtain ⟨cs', h1, h2⟩ := hel i (by omega)
              have h3 := kinds_read hS hown n e (kindsOf k) hks f2 cs' _ h2 (hs2 _ (List.mem_map_of_mem (List.mem_range.2 hi)))
              unfold World.cells? at h1
              split at h1
              · refine ⟨cs', by rw [mapM_some_length h1, List.length_range, e2], fun j v hj => ?_, h3⟩
                have hlt : j < P.cellsOf e := by
                  have := (List.getElem?_eq_some_iff.1 hj).1
                  rwa [mapM_some_length h1, List.length_range] at this
                have := mapM_some_get h1 j j (by simp [hlt])
                rw [e2] at this
                rw [this, hj]
              · cases h1
            by_cases h0 : len = 0
            · subst h0
              exact RC.one (s := .rs k []) (by simp [fit]) .rs0
            · have hsp : a.spot = none := by
                obtain ⟨cs', h1, h2, _⟩ := helt 0 (by omega)
                have := h2 0 (cs'[0]'(by omega)) (by rw [List.getElem?_eq_getElem])
                rw [Nat.zero_mul] at this
                simp only [Addr.add, if_true] at this
                unfold World.cell? at this
                split at this
                · cases hsp : a.spot with
                  | none => rfl
                  | some q => rw [hsp] at this; simp at this
                · cases this
              obtain ⟨ab, ao, asp⟩ := a
              dsimp only at hsp
              subst hsp
              haveI : Inhabited k.T := ⟨dflt k⟩
              obtain ⟨X, hX⟩ := choose_lt (p := fun i (x : k.T) => ∀ (j : Nat) (s : SV), (cellsOf k x)[j]? = some s → ∃ v, w.cell? ⟨ab, ao + i * sizeOfTag k + j, none⟩ = some v ∧ Rel F own w s v) (n := len) fun i hi => by
                obtain ⟨cs', h1, h2, l, h3, h4, h5⟩ := helt i hi
                refine ⟨mkE k l, fun j s hj => ?_⟩
                rw [elemO_cells (k := k) (l := l) (x := mkE k l) (by unfold elemO; rw [h3]; rfl)] at hj
                have hlt : j < cs'.length := by
                  have := (List.getElem?_eq_some_iff.1 hj).1
                  omega
                refine ⟨cs'[j], ?_, h5 j s _ hj (List.getElem?_eq_getElem hlt)⟩
                have := h2 j cs'[j] (List.getElem?_eq_getElem hlt)
                have hadd : ∀ p q, ((⟨ab, ao, none⟩ : Addr).add p).add q = ⟨ab, ao + p + q, none⟩ := fun p q => by
                  unfold Addr.add
                  by_cases hp : p = 0 <;> by_cases hq : q = 0 <;> simp [hp, hq]
                rwa [hadd] at this
              have hL : ((List.range len).map X).length = len := by simp
              refine RC.one (s := .rs k ((List.range len).map X)) (by simp [fit]) ?_
              have hget : ∀ (i : Nat) (x : k.T), ((List.range len).map X)[i]? = some x → i < len ∧ x = X i := fun i x hi => by
                obtain ⟨h1, h2⟩ := List.getElem?_eq_some_iff.1 hi
                rw [hL] at h1
                simp only [List.getElem_map, List.getElem_range] at h2
                subst h2
                exact ⟨h1, rfl⟩
              have := Rel.rs (F := F) (own := own) (w := w) (k := k) (l := (List.range len).map X) (b := ab) (o := ao) (cap := cap) (fun i j => (w.cell? ⟨ab, ao + i * sizeOfTag k + j, none⟩).getD undef) (by rw [hL]; exact hl) (by rw [hL]; exact hs1)
                (fun i x hi j s hj => by
                  obtain ⟨h1, rfl⟩ := hget i x hi
                  obtain ⟨v, h2, _⟩ := hX i h1 j s hj
                  exact ⟨hown _, by rw [h2]; rfl⟩)
                (fun i x hi j s hj => by
                  obtain ⟨h1, rfl⟩ := hget i x hi
                  obtain ⟨v, h2, h3⟩ := hX i h1 j s hj
                  rw [h2]; exact h3)
              rwa [hL] at this
      · cases h
    · rename_i fs ht
      obtain ⟨xs, m, rfl, rfl, hl, hlen, hf⟩ := DataW.trod_struct ht hx
      rw [← hl] at h
      have := kF_read (kinds_read hS hown n) m cs fs.toList 0 ks h fun f hfm => by
        obtain ⟨i, hi, rfl⟩ := List.getElem_of_mem hfm
        have hi' : i < fs.size := by simpa using hi
        have h1 := hf i fs[i] (by simp [hi'])
        rw [List.getElem?_eq_getElem (by omega)] at h1
        refine ⟨_, by simpa using h1, hS.agg _ hs _ (List.mem_map_of_mem (List.getElem_mem _))⟩
      simpa using this
    · rename_i m e ht
      split at h
      · rename_i a ha
        cases hb : Nat.beq a.length (P.cellsOf e) && Nat.beq (P.cellsOf t) (m * a.length) with
        | false => rw [hb] at h; cases h
        | true =>
          rw [hb] at h
          cases h
          rw [Bool.and_eq_true] at hb
          have e1 : a.length = P.cellsOf e := Nat.eq_of_beq_eq_true hb.1
          have e2 : P.cellsOf t = m * a.length := Nat.eq_of_beq_eq_true hb.2
          obtain ⟨xs, f2, rfl, rfl, hl, hlen, hf⟩ := DataW.trod_array ht hx
          refine kA_read (kinds_read hS hown n e a ha) f2 m cs (by rw [hl, e2]) fun i hi => ?_
          have h1 := hf i hi
          rw [List.getElem?_eq_getElem (by omega), ← e1] at h1
          exact ⟨_, h1, hS.agg _ hs _ (List.mem_map_of_mem (List.getElem_mem _))⟩
      · cases h
    · cases h
end
end Go.Sx
end
section
namespace Go.Sx
open Go.RowKit Go.Deep
theorem u8_range {H : Type} {enc : TypeId × Value → H} {P : Program} {w : World} {base : Nat} {spare : Nat → Bool} {held : Bool} {F : Nat → Prop} {own : Own} {t e : TypeId} (ht : P.underlying t = some (.slice e)) (he : P.underlying e = some (.int .u8)) (hc : P.cellsOf e = 1)
    {fuel : Nat} {v : Value} {x : DataW H × List MemPlace} (hx : DataW.trod enc P w base spare held fuel t [v] = some x) (l : List Tag.u8.T) (hr : Rel F own w (.rs .u8 l) v) : ∀ y ∈ l, (0 : Int) ≤ y ∧ y ≤ 255 := by
  intro y hy
  rcases open_slice ht hx with ⟨h0, _⟩ | ⟨a, len, cap, m, f2, D, Pl, h0, hb1, hl, hm, hmm, _, hel⟩
  · simp only [List.cons.injEq, and_true] at h0
    subst h0
    cases hr
    cases hy
  · simp only [List.cons.injEq, and_true] at h0
    subst h0
    cases hr with
    | rs0 => cases hy
    | @rs _ _ b o _ c h1 h2 h3 h4 =>
      obtain ⟨i, hi, rfl⟩ := List.getElem_of_mem hy
      have hlm : l.length ≤ m := by subst hmm; split <;> omega
      obtain ⟨cs', g1, g2⟩ := hel i (by omega)
      obtain ⟨n, rfl, _, hw⟩ := DataW.trod_int he g2
      have e1 := List.getElem?_eq_getElem hi
      have k1 := (h3 i _ e1 0 _ rfl).2
      have k2 := h4 i _ e1 0 _ rfl
      rw [hc] at g1
      unfold World.cells? at g1
      split at g1
      · have := mapM_some_get g1 0 0 (by simp)
        rw [Nat.mul_one] at this
        have hadd : ((⟨b, o, none⟩ : Addr).add i).add 0 = ⟨b, o + i * 1 + 0, none⟩ := by
          unfold Addr.add
          by_cases hp : i = 0 <;> simp [hp]
        rw [hadd] at this
        have k1' : w.cell? ⟨b, o + i * 1 + 0, none⟩ = some (c i 0) := k1
        rw [k1'] at this
        simp only [List.getElem?_cons_zero, Option.some.injEq] at this
        rw [rel_v k2] at this
        simp only [Value.int.injEq, true_and] at this
        subst this
        simpa [Lit.wf, IntKind.min, IntKind.max, IntKind.signed, IntKind.bits] using hw
      · cases g1
end Go.Sx
end
section
namespace Go.Sx
open Go.Proofs
section
variable {F : Nat → Prop} {own : Own} {w : World}
theorem agg_rel {k : Tag} {cs : Array Value} (h : RC F own w (kindsOf k) cs.toList) : ∃ x : k.T, Rel F own w (.agg (cellsOf k x)) (.agg cs) := by
  obtain ⟨l, h3, h4, h5⟩ := h
  refine ⟨mkE k l, ?_⟩
  rw [elemO_cells (k := k) (l := l) (x := mkE k l) (by unfold elemO; rw [h3]; rfl)]
  refine .agg (by simpa using h4.symm) fun j s hj => ?_
  have hlt : j < cs.size := by
    have := (List.getElem?_eq_some_iff.1 hj).1
    simpa [h4] using this
  exact h5 j s _ hj (by simp [Array.getD, hlt])
theorem sl_rel {k : Tag} {v : Value} (h : RC F own w [.r k] [v]) : ∃ l : List k.T, Rel F own w (.rs k l) v := by
  obtain ⟨l, h3, h4, h5⟩ := h
  obtain ⟨x, r, rfl, h6, h7⟩ := fits_cons h3
  have h8 := h5 0 x v rfl rfl
  cases x with
  | rs k' l' =>
    have : k = k' := by
      simp only [fit] at h6
      exact tagN_inj h6
    subst this
    exact ⟨l', h8⟩
  | _ => simp [fit] at h6
end
end Go.Sx
end
section
namespace Go.Sx
open Go.RowKit Go.WideShapes Go.ChangeShapes
section
variable {H : Type} {enc : TypeId × Value → H} {P : Program}
def okTs (P : Program) : List TypeId → Bool
  | [] => true
  | t :: r => P.readableRec t && Nat.blt t P.types.size && okTs P r
theorem all_stays (hl : laidOutB P = true) {W W' : World} (hg : Below W.heap.size W W') : ∀ {ts : List TypeId} {vs : List Value} {ds : List (DataW H)} {ps : List MemPlace}, okTs P ts = true →
    DataW.TrodAll enc P W 0 (fun _ => true) true ts vs ds ps → (∀ x ∈ ps, x.block < W.heap.size) → DataW.TrodAll enc P W' 0 (fun b => decide (b < W.heap.size)) true ts vs ds ps
  | [], vs, ds, ps, _, h, _ => by
    obtain ⟨rfl, rfl, rfl⟩ := trodAll_nil h
    exact trodAll_mk0
  | t :: ts, vs, ds, ps, hk, h, hlt => by
    unfold okTs at hk
    rw [Bool.and_eq_true, Bool.and_eq_true] at hk
    obtain ⟨v, vs', d, ds', p, q, rfl, rfl, rfl, h1, h2⟩ := trodAll_cons h
    refine trodAll_cons_mk (WideElems.Trod_stays hl hk.1.1 (by simpa [Nat.blt_eq] using hk.1.2) h1 (fun x hx => hg.same (hlt x (List.mem_append_left _ hx))) (fun x hx => by simpa using hlt x (List.mem_append_left _ hx))) ?_
    exact all_stays hl hg hk.2 h2 fun x hx => hlt x (List.mem_append_right _ hx)
theorem law_post (hl : laidOutB P = true) {f : Func} {s : ChangeSpec} {W W' : World} {args : Array Value} {ds gs : List (DataW H)} {before : List MemPlace} {t : TypeId}
    (hk : okTs P f.params.toList = true) (hW : DataW.Whole enc P f.params.toList s.vars false W args.toList ds gs before)
    (hr : f.resultTypes = #[t]) (ht : P.underlying t = some .bool) (hv : s.vars = []) (h1 : (s.fn H (ds ++ gs)).results = [.lit (.bool true)]) (h2 : (s.fn H (ds ++ gs)).args = ds) (h3 : (s.fn H (ds ++ gs)).vars = [])
    (hg : Below W.heap.size W W') : s.post enc P f false true false false W args (.bool true) W' := by
  have hlt := hW.lt
  have hW0 := hW
  obtain ⟨p, q, hA, hV, rfl, _, _⟩ := hW
  rw [hv] at hV
  obtain ⟨rfl, rfl⟩ := trodVars_none hV
  refine ⟨ds, [], p ++ [], [], p, [], hW0, ?_, ?_, ?_, ?_, fun h => by cases h⟩
  · rw [h1, hr]
    exact trodAll_cons_mk (shut_bool ht _) trodAll_mk0
  · rw [h2]
    exact all_stays hl hg hk hA fun x hx => hlt x (by simpa using hx)
  · rw [h3, hv]
    rfl
  · exact World.keptBut_mono (fun x hx => ⟨hx, .inr (.inl (by simpa using hx))⟩) (hg.frame (· ∈ p ++ []))
end
end Go.Sx
end
section
namespace Go.Proofs.Ytkblpdepdncnmaa.bulks
theorem one_le {H : Type} (d : DataW H) : 1 ≤ Rows.uptoBulk d := by
  cases d with
  | lit l => cases l <;> simp [Rows.uptoBulk]
  | nil => simp [Rows.uptoBulk]
  | ptr d => simp [Rows.uptoBulk]
  | slice elems spare => simp [Rows.uptoBulk]
  | agg parts => simp [Rows.uptoBulk]
  | iface t d => simp [Rows.uptoBulk]
  | map entries => simp [Rows.uptoBulk]
  | held h => simp [Rows.uptoBulk]
theorem part_le {H : Type} {d : DataW H} {l : List (DataW H)} (h : d ∈ l) : Rows.uptoBulk d ≤ Rows.uptoBulkAll l := by
  induction l with
  | nil => cases h
  | cons x r ih =>
    simp only [Rows.uptoBulkAll]
    cases List.mem_cons.1 h with
    | inl e => subst e; omega
    | inr e => have := ih e; omega
theorem append {H : Type} (l r : List (DataW H)) : Rows.uptoBulkAll (l ++ r) = Rows.uptoBulkAll l + Rows.uptoBulkAll r := by
  induction l with
  | nil => simp [Rows.uptoBulkAll]
  | cons x l ih => simp only [List.cons_append, Rows.uptoBulkAll, ih]; omega
theorem length_le {H : Type} (l : List (DataW H)) : l.length ≤ Rows.uptoBulkAll l := by
  induction l with
  | nil => simp [Rows.uptoBulkAll]
  | cons x r ih => have := one_le x; simp only [Rows.uptoBulkAll, List.length_cons]; omega
theorem slice_le {H : Type} (elems spare : List (DataW H)) : elems.length + spare.length + 1 ≤ Rows.uptoBulk (.slice elems spare) := by
  have h1 := length_le elems
  have h2 := length_le spare
  simp only [Rows.uptoBulk]
  omega
theorem slice_elems {H : Type} (elems spare : List (DataW H)) : Rows.uptoBulkAll elems + 1 ≤ Rows.uptoBulk (.slice elems spare) := by
  simp only [Rows.uptoBulk]
  omega
theorem bound {H : Type} {l : List (DataW H)} (hk : Rows.uptoSmall H l = true) : Rows.uptoBulkAll l ≤ 1048576 := by
  simpa [Rows.uptoSmall] using hk
theorem room {n b : Nat} (hn : n ≤ 2097152) (hb : b ≤ 4096) : (n + n / 4 + 192) * b ≤ 281474976710656 := by
  have h : (n + n / 4 + 192) * b ≤ 2621632 * 4096 := Nat.mul_le_mul (by omega) hb
  omega
end Go.Proofs.Ytkblpdepdncnmaa.bulks
end
