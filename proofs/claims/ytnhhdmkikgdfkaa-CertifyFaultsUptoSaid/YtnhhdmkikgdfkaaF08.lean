/- Part of the proof that the law CertifyFaults returns true and leaves its arguments as they were, for all arguments of bulk at most 1048576 (the Upto form). -/
import Derived.Test.YtnhhdmkikgdfkaaF07
set_option linter.all false
section
namespace Go.Sx
open Go.Proofs
set_option maxRecDepth 100000
set_option linter.unusedSimpArgs false
abbrev SV.u (n : Nat) : SV := .v (.int .u64 (n : Int))
def mkGY (ps : List (Nat × (List SV → Option Con))) (os : List (Nat × (List SV → List Ob → Option HCon))) (Y : List SV → Res → Option YCon) : Cons := ⟨mkP ps, mkO os, Y⟩
@[go_sem] theorem mkGY_p {ps : List (Nat × (List SV → Option Con))} {os : List (Nat × (List SV → List Ob → Option HCon))} {Y : List SV → Res → Option YCon} : (mkGY ps os Y).p = mkP ps := (rfl)
@[go_sem] theorem mkGY_o {ps : List (Nat × (List SV → Option Con))} {os : List (Nat × (List SV → List Ob → Option HCon))} {Y : List SV → Res → Option YCon} : (mkGY ps os Y).o = mkO os := (rfl)
@[go_sem] theorem mkGY_y {ps : List (Nat × (List SV → Option Con))} {os : List (Nat × (List SV → List Ob → Option HCon))} {Y : List SV → Res → Option YCon} : (mkGY ps os Y).y = Y := (rfl)
theorem mkGY_ok {P : Program} {ps : List (Nat × (List SV → Option Con))} {os : List (Nat × (List SV → List Ob → Option HCon))} {Y : List SV → Res → Option YCon} (h1 : ∀ x ∈ ps, FnOk P x.1 x.2) (h2 : ∀ x ∈ os, FnOkO P x.1 x.2) (h3 : YOk P Y) : ConsOk P (mkGY ps os Y) := ⟨mkP_ok ps h1, mkO_ok os h2, h3⟩
def C90 : List SV → List Ob → Option HCon := fun l h => noH h ((pU fun n => pU fun d => pE { α := Unit, pre := True, post := fun _ => True, res := fun _ => .ret (.fn 95 [] [.ptr 0 0, .ptr 1 0]) [.cells [.v (.int .u64 n)], .cells [.v (.int .u64 d)]] }) l)
theorem f90_ok : FnOkO Try.prog 90 C90 := by
  have hG : ConsOk Try.prog (mkG [] []) := mkG_ok (by simp) (by simp)
  refine fn_ok_oE mixed ts_ok hG (fn := Try.f90) (c := bodyOf Try.f90) (by kernel_rfl) (by kernel_rfl) (by kernel_rfl) (by kernel_rfl) fun l o con h hp => ?_
  unfold C90 at h
  obtain ⟨rfl, h⟩ := noH_inv h
  obtain ⟨n, l0, rfl, h0⟩ := pU_inv h
  obtain ⟨d, l1, rfl, h1⟩ := pU_inv h0
  obtain ⟨rfl, rfl⟩ := pE_inv h1
  refine ⟨Nat.le_of_ble_eq_true rfl, L0, by unfold bodyOf Try.f90; simp only [loopsOk, and_self], ?_⟩
  unfold bodyOf Try.f90
  simp only [go_sem, true_imp_iff, decide_eq_true_eq, Nat.reduceBEq, Nat.reduceLeDiff, Nat.reduceAdd, Nat.reduceSub, Nat.reduceMul, true_and, and_true, implies_true]
  refine ⟨(), _, _, [0, 1], rfl, ?_⟩
  simp only [go_sem, Nat.reduceBEq, Nat.reduceLeDiff, Nat.reduceAdd, true_and, and_true]
  exact ⟨rfl, rfl⟩
def rems : Nat → Nat → Nat → List Nat
  | 0, n, d => if n = 0 then [] else [n, d]
  | f + 1, n, d => if n = 0 then [] else n :: (if n % max d 1 = 0 then [d] else rems f d (n % max d 1))
def remI (f n d : Nat) : List (List SV) := (rems f n d).map fun x => [SV.u x]
theorem rem_zero (f d : Nat) : remI f 0 d = [] := by cases f <;> rfl
theorem rem_step {f n d : Nat} (hn : n ≠ 0) (hf : d ≤ f) : ∃ T, remI f n d = [SV.u n] :: T ∧ (n % max d 1 = 0 → T = [[SV.u d]]) ∧ (n % max d 1 ≠ 0 → ∃ f', T = remI f' d (n % max d 1) ∧ n % max d 1 ≤ f' ∧ n % max d 1 < d) := by
  cases f with
  | zero =>
    have hd : d = 0 := by omega
    subst hd
    refine ⟨[[SV.u 0]], by simp [remI, rems, hn], fun _ => rfl, fun h => ?_⟩
    exfalso; apply h; simp [Nat.mod_one]
  | succ f =>
    by_cases h0 : n % max d 1 = 0
    · exact ⟨[[SV.u d]], by simp [remI, rems, hn, h0], fun _ => rfl, fun h => absurd h0 h⟩
    · refine ⟨remI f d (n % max d 1), by simp [remI, rems, hn, h0], fun h => absurd h h0, fun _ => ⟨f, rfl, ?_⟩⟩
      have hlt : n % max d 1 < max d 1 := Nat.mod_lt _ (by omega)
      have hd : 1 ≤ d := by
        rcases Nat.eq_zero_or_pos d with h | h
        · subst h; exfalso; apply h0; simp [Nat.mod_one]
        · exact h
      omega
theorem tmod_max (n d : Nat) : ((n : Int).tmod (if (d : Int) < 1 then 1 else (d : Int))) = ((n % max d 1 : Nat) : Int) := by
  have e : (if (d : Int) < 1 then (1 : Int) else (d : Int)) = ((max d 1 : Nat) : Int) := by split <;> omega
  rw [e, Int.tmod_eq_emod_of_nonneg (by omega)]; rfl
open Classical in
theorem f95_ok (n0 d0 : Nat) : ItOk Try.prog 95 (fun y => [y, .ptr 1 0, .ptr 2 0]) [.cells [SV.u n0], .cells [SV.u d0]] (remI d0 n0 d0) := by
  refine it_ok (fun r hr hy => ?_) (fun args w => by kernel_rfl)
  have hG : ConsOk Try.prog (mkGY [] [] (itY (remI d0 n0 d0) r)) := mkGY_ok (by simp) (by simp) hy
  refine ⟨fun l h => if l = [.os 0, .ptr 1 0, .ptr 2 0] ∧ h = [.ab (r 1), .cells [SV.u n0], .cells [SV.u d0]] then some { α := Nat, pre := True, post := fun j => j = 0 ∨ j = (remI d0 n0 d0).length + 1, res := fun j => .ret (.tup []) [.ab (r j), .dead, .dead] } else none,
    ?_, _, if_pos ⟨rfl, rfl⟩, trivial, fun j hj => ⟨_, j, _, rfl, hj⟩⟩
  refine fn_ok_oE mixed ts_ok hG (fn := Try.f95) (c := bodyOf Try.f95) (by kernel_rfl) (by kernel_rfl) (by kernel_rfl) (by kernel_rfl) fun l o con h hp => ?_
  split at h
  · rename_i hlo
    obtain ⟨rfl, rfl⟩ := hlo
    cases h
    refine ⟨Nat.le_of_ble_eq_true rfl, fun id st => bif Nat.beq id 0 then some { α := Nat × Bool, pre := lk 0 st.t = .os 0 ∧ lk 1 st.t = .ptr 1 0 ∧ lk 2 st.t = .ptr 2 0 ∧ st.h = [.ab (r 1), .cells [SV.u n0], .cells [SV.u d0]], post := fun j => j.1 = 0 ∨ j.1 = (remI d0 n0 d0).length + 1, ex := fun j => bif j.2 then .ret else .normal, out := fun j => ⟨[], [.ab (r j.1), .dead, .dead]⟩ : LCon } else none, ?_, ?_⟩
    · unfold bodyOf Try.f95
      simp only [loopsOk, true_and, and_true]
      refine loop_okE mixed ts_ok hG (by kernel_rfl) fun st lc hC hp => ?_
      simp only [go_sem, Nat.reduceBEq, Option.some.injEq] at hC
      subst hC
      obtain ⟨t, h⟩ := st
      dsimp only at hp
      obtain ⟨h0, h1, h2, rfl⟩ := hp
      refine ⟨Nat × Nat × Nat × Nat, fun x => ⟨[(0, .os 0), (1, .ptr 1 0), (2, .ptr 2 0)], [.ab (r (x.1 + 1)), .cells [SV.u x.2.2.1], .cells [SV.u x.2.2.2]]⟩, fun x => x.2.2.2 ≤ x.2.1 ∧ (remI d0 n0 d0).drop x.1 = remI x.2.1 x.2.2.1 x.2.2.2 ∧ x.1 ≤ (remI d0 n0 d0).length, fun x => x.2.2.2, (0, d0, n0, d0), [0, 1, 2], ⟨Nat.le_refl _, rfl, Nat.zero_le _⟩, Nat.le_refl _, ?_, ?_⟩
      · simp only [go_sem, h0, h1, h2, Nat.reduceBEq, Nat.reduceLeDiff, Nat.reduceAdd, true_and, and_true]
        decide
      · rintro ⟨k, f, n, d⟩ ⟨hf, hdrop, hk⟩
        simp only at hf hdrop hk
        refine ⟨L0, _, by simp only [loopsOk, and_self], fun _ _ q => q, ?_⟩
        simp only [go_sem, itY_at hr, true_imp_iff, decide_eq_true_eq, tmod_max, Bool.false_eq_true, false_imp_iff, Nat.reduceBEq, Nat.reduceLeDiff, Nat.reduceAdd, Nat.reduceSub, Nat.reduceMul, true_and, and_true, implies_true]
        have hget : ∀ (l : List (List SV)) (j : Nat), l = (remI d0 n0 d0).drop k → (remI d0 n0 d0)[k + j]? = l[j]? := fun l j e => by rw [e, List.getElem?_drop]
        have hlen : (remI f n d).length = (remI d0 n0 d0).length - k := by rw [← hdrop, List.length_drop]
        refine ⟨fun hn => ?_, fun hn => ?_⟩
        · have hn' : n ≠ 0 := by simpa using hn
          obtain ⟨T, e1, e2, e3⟩ := rem_step hn' hf
          have hT : (remI d0 n0 d0).drop (k + 1) = T := by rw [← List.drop_drop, hdrop, e1]; rfl
          have h0' := hget _ 0 hdrop.symm
          rw [e1] at h0'
          have hk1 : k + 1 ≤ (remI d0 n0 d0).length := by
            have := (List.getElem?_eq_some_iff.1 h0').1; omega
          refine ⟨h0', ⟨fun _ => ⟨by split <;> omega, rfl, fun h2 => ?_, fun h2 => ?_⟩, fun h2 => ?_⟩, ?_⟩
          · have h3 : n % max d 1 = 0 := by
              have := eq_of_beq h2
              generalize n % max d 1 = q at this ⊢
              omega
            have hT2 := e2 h3
            have hl2 : (remI d0 n0 d0).length = k + 2 := by
              have := congrArg List.length hT
              rw [hT2, List.length_drop] at this
              simp at this; omega
            refine ⟨?_, ⟨(k + 1 + 2, true), [0, 1, 2], .inr (by rw [hl2]), rfl, ⟨rfl, rfl, rfl⟩, by simp [subH, subO, obAt, isDead, renO, obIds]⟩, ⟨(0, true), [0, 1, 2], .inl rfl, rfl, ⟨rfl, rfl, rfl⟩, by simp [subH, subO, obAt, isDead, renO, obIds]⟩⟩
            have : (remI d0 n0 d0)[k + 1]? = T[0]? := by rw [← hT, List.getElem?_drop]
            rw [this, hT2]; rfl
          · have h3 : n % max d 1 ≠ 0 := fun e => by rw [e] at h2; simp at h2
            obtain ⟨f', m1, m2, m3⟩ := e3 h3
            exact ⟨(k + 1, f', d, n % max d 1), [0, 1, 2], ⟨m2, by rw [hT, m1], hk1⟩, m3, ⟨rfl, rfl, rfl⟩, by simp [subH, subO, obAt, isDead, renO, obIds, nth, idsLt, ren]⟩
          · exact absurd hn (by rw [h2]; simp)
          · exact ⟨(0, false), [0, 1, 2], .inl rfl, rfl, ⟨rfl, rfl, rfl⟩, by simp [subH, subO, obAt, isDead, renO, obIds]⟩
        · have hn' : n = 0 := by simpa using hn
          subst hn'
          rw [rem_zero] at hlen
          simp at hlen
          exact ⟨by simpa using hn, (k + 1, false), [0, 1, 2], .inr (by show k + 1 = _; omega), rfl, ⟨rfl, rfl, rfl⟩, by simp [subH, subO, obAt, isDead, renO, obIds]⟩
    · unfold bodyOf Try.f95
      simp only [go_sem, true_imp_iff, decide_eq_true_eq, Nat.reduceBEq, Nat.reduceLeDiff, Nat.reduceAdd, Nat.reduceSub, Nat.reduceMul, true_and, and_true, implies_true]
      rintro ⟨j, b⟩ hj
      cases b
      · simp only [go_sem]
        exact ⟨j, _, _, [0, 1, 2], hj, rfl, Nat.le_refl 3, by simp only [go_sem, Nat.reduceBEq, Nat.reduceLeDiff, Nat.reduceAdd, true_and, and_true]; decide⟩
      · simp only [go_sem]
        exact ⟨j, _, _, [0, 1, 2], hj, rfl, Nat.le_refl 3, by simp only [go_sem, Nat.reduceBEq, Nat.reduceLeDiff, Nat.reduceAdd, true_and, and_true]; decide⟩
  · cases h
end Go.Sx
end
section
namespace Go.Sx
open Go.Proofs
set_option maxRecDepth 100000
set_option linter.unusedSimpArgs false
def divI (n d : Nat) : Nat := if d = 0 then n else (rems d n d).getLastD d
def C83 : List SV → Option Con := pU fun n => pU fun d => pE (.det (0 ≤ n ∧ 0 ≤ d) (SV.u (divI n.toNat d.toNat)))
theorem f83_ok : FnOk Try.prog 83 C83 := by
  have hG : ConsOk Try.prog (mkG [] [(90, C90)]) := mkG_ok (by simp) (by
    intro x hx
    simp only [List.mem_cons, List.not_mem_nil, or_false] at hx
    rcases hx with rfl
    exact f90_ok)
  refine fn_okE false mixed ts_ok hG (fn := Try.f83) (c := bodyOf Try.f83) (by kernel_rfl) (by kernel_rfl) (by kernel_rfl) (by kernel_rfl) fun l con h hp => ?_
  unfold C83 at h
  obtain ⟨n', l0, rfl, h0⟩ := pU_inv h
  obtain ⟨d', l1, rfl, h1⟩ := pU_inv h0
  obtain ⟨rfl, rfl⟩ := pE_inv h1
  clear h h0 h1
  obtain ⟨hn, hd⟩ := hp
  obtain ⟨n, rfl⟩ := Int.eq_ofNat_of_zero_le hn
  obtain ⟨d, rfl⟩ := Int.eq_ofNat_of_zero_le hd
  refine ⟨Nat.le_of_ble_eq_true rfl, fun id st => bif Nat.beq id 0 then some { α := Unit, pre := st.h = [.cells [SV.u d], .cells [SV.u n], .cells [SV.u d]] ∧ lk 12 st.t = .fn 95 [] [.ptr 1 0, .ptr 2 0] ∧ lk 4 st.t = .ptr 0 0, post := fun _ => True, ex := fun _ => .normal, out := fun _ => ⟨[(4, .ptr 0 0)], [.cells [SV.u ((rems d n d).getLastD d)], .dead, .dead]⟩ : LCon } else none, ?_, ?_⟩
  · unfold bodyOf Try.f83
    simp only [loopsOk, true_and, and_true]
    refine range_ok mixed ts_ok hG (by decide) (by decide) (by kernel_rfl) (by kernel_rfl) fun st lc hC hp => ?_
    simp only [go_sem, Nat.reduceBEq, Option.some.injEq] at hC
    subst hC
    obtain ⟨t, h⟩ := st
    dsimp only at hp
    obtain ⟨rfl, h12, h4⟩ := hp
    refine ⟨95, [.ptr 1 0, .ptr 2 0], remI d n d, Nat, [(4, .ptr 0 0)], fun v => [.cells [SV.u v], .dead, .dead], fun k v => v = ((rems d n d).take k).getLastD d, fun _ _ => False, d, [0, 1, 2], h12, rfl, Nat.le_refl _, ?_, f95_ok n d, ?_, ?_, fun _ h => h.elim, fun _ _ h => h.elim⟩
    · show Sub [0, 1, 2] 3 ⟨t, [.cells [SV.u d], .dead, .dead]⟩ ⟨[(4, .ptr 0 0)], [.cells [SV.u d], .dead, .dead]⟩
      simp only [go_sem, h4, Nat.reduceBEq, Nat.reduceLeDiff, Nat.reduceAdd, true_and, and_true]
      decide
    · intro k y args hk hI
      unfold remI at hk
      rw [List.getElem?_map, Option.map_eq_some_iff] at hk
      obtain ⟨x, hx, rfl⟩ := hk
      refine ⟨rfl, L0, _, fun l => by simp only [loopsOk], fun l => by simp only [loopsOk], fun _ _ q => q, ?_⟩
      show exec ts _ L0 _ ⟨[(13, SV.u x), (4, SV.ptr 0 0)], [.cells [SV.u y], .dead, .dead]⟩ _
      simp only [go_sem, true_imp_iff, Nat.reduceBEq, Nat.reduceLeDiff, Nat.reduceAdd, true_and, and_true]
      refine ⟨x, [0, 1, 2], ?_, Nat.le_refl 3, ?_⟩
      · have hlt := (List.getElem?_eq_some_iff.1 hx).1
        have hx2 := (List.getElem?_eq_some_iff.1 hx).2
        show x = ((rems d n d).take (k + 1)).getLastD d
        rw [List.take_succ_eq_append_getElem hlt, hx2]
        simp [List.getLastD_concat]
      · simp only [go_sem, Nat.reduceBEq, Nat.reduceLeDiff, Nat.reduceAdd, true_and, and_true]
        decide
    · intro y hI
      refine ⟨(), [0, 1, 2], trivial, rfl, Nat.le_refl _, ?_⟩
      have hy : y = (rems d n d).getLastD d := by rw [hI, List.take_of_length_le (by simp [remI])]
      subst hy
      show Sub [0, 1, 2] 3 ⟨[(4, .ptr 0 0)], [.cells [SV.u _], .dead, .dead]⟩ ⟨[(4, .ptr 0 0)], [.cells [SV.u _], .dead, .dead]⟩
      simp only [go_sem, Nat.reduceBEq, Nat.reduceLeDiff, Nat.reduceAdd, true_and, and_true]
      decide
  · unfold bodyOf Try.f83
    simp only [go_sem, C90, true_imp_iff, decide_eq_true_eq, Bool.false_eq_true, false_imp_iff, Nat.reduceBEq, Nat.reduceLeDiff, Nat.reduceAdd, Nat.reduceSub, Nat.reduceMul, true_and, and_true, implies_true]
    refine ⟨fun h => ?_, fun h _ _ => ?_⟩
    · have h' : d = 0 := by simpa using h
      simp [divI, h']
    · have h' : d ≠ 0 := by simpa using h
      simp [divI, h']
end Go.Sx
end
section
namespace Go.Sx
open Go.RowKit
inductive NilS : St → St → Prop where
  | refl (st : St) : NilS st st
  | cell {st : St} {t : List (Nat × SV)} {h : List Ob} {i j : Nat} {l : List SV} (o : Ob) : NilS st ⟨t, h⟩ → obAt h i = .cells l → l[j]? = some (.v (.slice none 0 0)) → ((∃ k, o = .row k []) ∨ ∃ k, o = .grid k []) → NilS st ⟨t, obSet h i (.cells (l.set j (.os h.length))) ++ [o]⟩
  | slot {st : St} {t : List (Nat × SV)} {h : List Ob} {i : Nat} (o : Ob) : NilS st ⟨t, h⟩ → lk i t = .v (.slice none 0 0) → ((∃ k, o = .row k []) ∨ ∃ k, o = .grid k []) → NilS st ⟨(i, .os h.length) :: t, h ++ [o]⟩
section
variable {P : Program} {F : Nat → Prop} {w0 : Bs} {N : Nat}
theorem obAt_last (h : List Ob) (o : Ob) : obAt (h ++ [o]) h.length = o := by rw [obAt_app, if_neg (by omega)]; simp [obAt]
theorem nil_own {own : Own} {h : List Ob} {a : Act} {w : World} {t : List (Nat × SV)} (hr : StRel F w0 N own ⟨t, h⟩ a w) (o : Ob) (ho : (∃ k, o = .row k []) ∨ ∃ k, o = .grid k []) :
    ∃ own', StRel F w0 N own' ⟨t, h ++ [o]⟩ a w ∧ (∀ id hd, own id = some hd → own' id = some hd) ∧ own' h.length = some { v := .slice none 0 0 } := by
  let own' : Own := fun id => if id = h.length then some { v := .slice none 0 0 } else own id
  have hsub : ∀ id hd, own id = some hd → own' id = some hd := fun id hd e => by
    have : id ≠ h.length := by have := hr.hp.dom id hd e; simp only at this; omega
    simp only [own', if_neg this]; exact e
  have hinv : ∀ id hd b, own' id = some hd → b ∈ hd.bs → own id = some hd := fun id hd b e hb => by
    by_cases hi : id = h.length
    · simp only [own', if_pos hi, Option.some.injEq] at e; subst e; cases hb
    · simpa only [own', if_neg hi] using e
  have hc : Carries F own w F own' w := ⟨fun id hd e => ⟨hd, hsub id hd e, .refl _⟩, fun b _ hn => ⟨by
    rintro (hf | ⟨id, hd, e, hb⟩)
    · exact hn (.inl hf)
    · exact hn (.inr ⟨id, hd, hinv id hd b e hb, hb⟩), rfl⟩⟩
  refine ⟨own', ⟨hr.size, hr.defers, ⟨fun id hd e => ?_, hr.hp.foreign, fun id hd b e hb => hr.hp.apart id hd b (hinv id hd b e hb) hb, fun i j hi hj b e1 e2 b1 b2 => hr.hp.inj i j hi hj b (hinv i hi b e1 b1) (hinv j hj b e2 b2) b1 b2, fun id hd b e hb => hr.hp.lt id hd b (hinv id hd b e hb) hb, fun id hd => ?_⟩,
    ⟨fun id hd e => ?_, fun id hd b e hb => hr.fr.base id hd b (hinv id hd b e hb) hb, hr.fr.os, hr.fr.tape, hr.fr.output, hr.fr.size, hr.fr.block⟩, fun t => (hr.slots t).carry hc⟩, hsub, by simp [own']⟩
  · simp only [List.length_append, List.length_cons, List.length_nil]
    by_cases hi : id = h.length
    · omega
    · simp only [own', if_neg hi] at e; have := hr.hp.dom id hd e; simp only at this; omega
  · simp only at hd ⊢
    by_cases hi : id < h.length
    · rw [obAt_app, if_pos hi] at hd ⊢
      obtain ⟨hd', e1, e2⟩ := hr.hp.obs id hd
      exact ⟨hd', hsub id hd' e1, e2.carry hc (Nat.le_refl _) fun _ _ => rfl⟩
    · by_cases hi2 : id = h.length
      · subst hi2
        rw [obAt_last]
        refine ⟨_, by simp [own']; rfl, ?_⟩
        rcases ho with ⟨k, rfl⟩ | ⟨k, rfl⟩
        · exact .inl ⟨none, rfl, rfl, rfl⟩
        · exact .inl ⟨rfl, rfl, rfl, rfl⟩
      · rw [obAt_out (by simp; omega)] at hd; cases hd
  · obtain ⟨hd', e1, e2⟩ := hr.fr.ids id hd e
    exact ⟨hd', hsub id hd' e1, e2⟩
theorem NilS.rel {st st' : St} (hn : NilS st st') {own : Own} {a : Act} {w : World} (hr : StRel F w0 N own st a w) : ∃ own', StRel F w0 N own' st' a w := by
  induction hn with
  | refl => exact ⟨own, hr⟩
  | @slot t h i o _ hl ho ih =>
    obtain ⟨own1, h1⟩ := ih
    obtain ⟨own2, h2, h3, h4⟩ := nil_own h1 o ho
    refine ⟨own2, h2.size, h2.defers, h2.hp, h2.fr, fun u => ?_⟩
    rw [lk_put]
    split
    · rename_i e
      subst e
      have := h1.slots i
      rw [hl] at this
      rw [rel_v this]
      exact .os (hd := { v := .slice none 0 0 }) h4 rfl
    · exact h2.slots u
  | @cell t h i j l o _ hc hl ho ih =>
    obtain ⟨own1, h1⟩ := ih
    obtain ⟨own2, h2, h3, h4⟩ := nil_own h1 o ho
    have hlt : i < h.length := by
      rcases Nat.lt_or_ge i h.length with h' | h'
      · exact h'
      · rw [obAt_out h'] at hc; cases hc
    have hlen : (obSet h i (.cells (l.set j (.os h.length)))).length = h.length := by rw [obSet_length, if_pos hlt]
    refine ⟨own2, h2.size, h2.defers, ⟨fun id hd e => ?_, h2.hp.foreign, h2.hp.apart, h2.hp.inj, h2.hp.lt, fun id hd => ?_⟩, h2.fr, h2.slots⟩
    · have := h2.hp.dom id hd e; simp only [List.length_append] at this ⊢; rw [hlen]; exact this
    · simp only at hd ⊢
      have hob := h2.hp.obs id
      simp only at hob
      by_cases hi : id < h.length
      · rw [obAt_app, if_pos (by rw [hlen]; exact hi)] at hd ⊢
        rw [obAt_app, if_pos hi] at hob
        rw [obAt_set] at hd ⊢
        by_cases hii : i = id
        · subst hii
          rw [if_pos rfl] at hd ⊢
          rw [hc] at hob
          obtain ⟨hd', e1, b, cs, ty, m1, m2, m3, m4, m5⟩ := hob rfl
          refine ⟨hd', e1, b, cs, ty, m1, m2, m3, by simpa using m4, fun j' s hs => ?_⟩
          rw [List.getElem?_set] at hs
          by_cases hj : j = j'
          · subst hj
            rw [if_pos rfl] at hs
            split at hs
            · cases hs
              have := m5 j _ hl
              rw [rel_v this]
              exact .os (hd := { v := .slice none 0 0 }) h4 rfl
            · cases hs
          · rw [if_neg hj] at hs
            exact m5 j' s hs
        · rw [if_neg hii] at hd ⊢
          exact hob hd
      · rw [obAt_app, if_neg (by rw [hlen]; exact hi), hlen] at hd ⊢
        rw [obAt_app, if_neg hi] at hob
        exact hob hd
end
section
variable {P : Program} {F : Nat → Prop} {w0 : Bs} {ro : Option Nat} {nd : Nat} {ts : Tis} {G : Cons} {L : Loops} {N : Nat}
theorem loop_okN {ts : Tis} {G : Cons} {ro : Option Nat} {N : Nat} (hm : P.follows .mixedOrders = true) (hts : ts.ok P) (hG : ConsOk P G) {id : Nat} {c : Code} (hc : okCode N c = true) {C : St → Option LCon}
    (h : ∀ st lc, C st = some lc → lc.pre → ∃ (σ : Type) (D : σ → St) (I : σ → Prop) (m : σ → Nat) (x0 : σ) (stN : St) (js : List Nat), I x0 ∧ NilS st stN ∧ st.h.length ≤ (D x0).h.length ∧ Sub js st.h.length stN (D x0) ∧
      ∀ x, I x → ∃ L Qx, loopsOk P ro N L c ∧ (∀ e st', Qx e st' → roundQ D I m st.h.length x id (fun e st' => ∃ r js, lc.post r ∧ lc.ex r = e ∧ st.h.length ≤ (lc.out r).h.length ∧ Sub js st.h.length st' (lc.out r)) e st') ∧ exec ts G L c (D x) Qx) : LoopOk P ro N id (.loop c) C := by
  intro nd F w0 st lc hC hpre own a w hr
  obtain ⟨σ, D, I, m, x0, stN, js, h1, hN, h2, h3, h4⟩ := h st lc hC hpre
  obtain ⟨ownN, hrN⟩ := hN.rel hr
  refine wpIn_mono (loop_rule hm hts hG hc D I m st.h.length hr.base_lt _ h4 x0 h1 _ a w (hrN.sub h3 hr.base_lt h2)) ?_
  intro e a' w' hq
  have key : ∀ ex F1 own' st', StRel F1 w0 N own' st' a' w' → (∃ r js, lc.post r ∧ lc.ex r = ex ∧ st.h.length ≤ (lc.out r).h.length ∧ Sub js st.h.length st' (lc.out r)) → ∃ own2 st2, StRel F1 w0 N own2 st2 a' w' ∧ ∃ r, lc.post r ∧ ex = lc.ex r ∧ st2 = lc.out r := by
    rintro ex F1 own' st' hst ⟨r, js, q1, q2, q3, q4⟩
    exact ⟨_, _, hst.sub q4 hr.base_lt q3, r, q1, q2.symm, rfl⟩
  cases e with
  | normal => obtain ⟨F1, own', st', h0, k1, k2⟩ := hq; obtain ⟨own2, st2, q1, q2⟩ := key _ F1 own' st' k1 k2; exact ⟨F1, own2, st2, h0, q1, q2⟩
  | exit j => obtain ⟨F1, own', st', h0, k1, k2⟩ := hq; obtain ⟨own2, st2, q1, q2⟩ := key _ F1 own' st' k1 k2; exact ⟨F1, own2, st2, h0, q1, q2⟩
  | ret => obtain ⟨F1, own', st', h0, k1, k2⟩ := hq; obtain ⟨own2, st2, q1, q2⟩ := key _ F1 own' st' k1 k2; exact ⟨F1, own2, st2, h0, q1, q2⟩
  | panic ch =>
    obtain ⟨x, F1, own', st', h0, k1, k2, k3⟩ := hq
    obtain ⟨own2, st2, q1, q2⟩ := key _ F1 own' st' k1 k2
    exact ⟨x, F1, own2, st2, h0, q1, q2, k3⟩
  | _ => exact hq.elim
end
section
variable {P : Program} {ρ σ : Type}
def fitE (st2 : St) (n0 : Nat) (st : St) : Prop := ∃ js, n0 ≤ st2.h.length ∧ Sub js n0 st st2
theorem fitE_mk {st2 st : St} {n0 : Nat} (js : List Nat) (h1 : n0 ≤ st2.h.length) (h2 : Sub js n0 st st2) : fitE st2 n0 st := ⟨js, h1, h2⟩
def nextE (D : Nat → σ → St) (n0 k : Nat) (st : St) : ρ ⊕ σ → Prop
  | .inl _ => False
  | .inr s' => fitE (D (k + 1) s') n0 st
def exE' (exE : ρ → Ex) (outE : ρ → St) (n0 : Nat) (e : Ex) (st : St) : ρ ⊕ σ → Prop
  | .inl x => exE x = e ∧ fitE (outE x) n0 st
  | .inr _ => False
def cE (step : Nat → σ → ρ ⊕ σ) (n : Nat) (exE : ρ → Ex) (outE : ρ → St) (outN : σ → St) (D : Nat → σ → St) (n0 id k : Nat) (s : σ) : Ex → St → Prop
  | .normal, st => k < n ∧ nextE D n0 k st (step k s)
  | .exit j, st => bif Nat.beq j id then (n ≤ k → fitE (outN s) n0 st) ∧ (k < n → exE' exE outE n0 .normal st (step k s)) else k < n ∧ exE' exE outE n0 (.exit j) st (step k s)
  | .ret, st => k < n ∧ exE' exE outE n0 .ret st (step k s)
  | .pan x, st => k < n ∧ exE' exE outE n0 (.pan x) st (step k s)
variable {step : Nat → σ → ρ ⊕ σ} {n n0 id k j : Nat} {exE : ρ → Ex} {outE : ρ → St} {outN : σ → St} {D : Nat → σ → St} {s s' : σ} {st : St} {x : Value} {e : Ex} {y : ρ}
@[go_sem] theorem nextE_inr : nextE (ρ := ρ) D n0 k st (.inr s') = fitE (D (k + 1) s') n0 st := (rfl)
@[go_sem] theorem exE'_inl : exE' (σ := σ) exE outE n0 e st (.inl y) = (exE y = e ∧ fitE (outE y) n0 st) := (rfl)
@[go_sem] theorem cE_normal : cE step n exE outE outN D n0 id k s .normal st = (k < n ∧ nextE D n0 k st (step k s)) := (rfl)
@[go_sem] theorem cE_exit : cE step n exE outE outN D n0 id k s (.exit j) st = bif Nat.beq j id then (n ≤ k → fitE (outN s) n0 st) ∧ (k < n → exE' exE outE n0 .normal st (step k s)) else k < n ∧ exE' exE outE n0 (.exit j) st (step k s) := (rfl)
@[go_sem] theorem cE_ret : cE step n exE outE outN D n0 id k s .ret st = (k < n ∧ exE' exE outE n0 .ret st (step k s)) := (rfl)
@[go_sem] theorem cE_pan : cE step n exE outE outN D n0 id k s (.pan x) st = (k < n ∧ exE' exE outE n0 (.pan x) st (step k s)) := (rfl)
@[congr] theorem nextE_congr {r r' : ρ ⊕ σ} (h : r = r') : nextE D n0 k st r = nextE D n0 k st r' := by rw [h]
@[congr] theorem exE'_congr {r r' : ρ ⊕ σ} (h : r = r') : exE' exE outE n0 e st r = exE' exE outE n0 e st r' := by rw [h]
@[congr] theorem cE_congr {st st' : St} {e e' : Ex} (h : st = st') (he : e = e') : cE step n exE outE outN D n0 id k s e st = cE step n exE outE outN D n0 id k s e' st' := by rw [h, he]
theorem count_okR {ts : Tis} {G : Cons} {ro : Option Nat} {N : Nat} (hm : P.follows .mixedOrders = true) (hts : ts.ok P) (hG : ConsOk P G) {id : Nat} {c : Code} (hc : okCode N c = true) {C : St → Option LCon}
    (h : ∀ st lc, C st = some lc → lc.pre → ∃ (ρ σ : Type) (pre : Prop) (step : Nat → σ → ρ ⊕ σ) (p : Nat → σ → Prop) (n : Nat) (s0 : σ) (exE : ρ → Ex) (outE : ρ → St) (outN : σ → St) (D : Nat → σ → St) (stN : St) (js : List Nat),
      lc = LC pre (runI step n 0 s0) exE outE outN ∧ okI step p n 0 s0 ∧ NilS st stN ∧ st.h.length ≤ (D 0 s0).h.length ∧ Sub js st.h.length stN (D 0 s0) ∧
      ∀ k s, k ≤ n → (k < n → p k s) → ∃ L, loopsOk P ro N L c ∧ exec ts G L c (D k s) (cE step n exE outE outN D st.h.length id k s)) : LoopOk P ro N id (.loop c) C := by
  refine loop_okN hm hts hG hc fun st lc hC hp => ?_
  obtain ⟨ρ, σ, pre, step, p, n, s0, exE, outE, outN, D, stN, js, rfl, h1, hN, h2, h3, h4⟩ := h st lc hC hp
  refine ⟨Nat × σ, fun x => D x.1 x.2, fun x => x.1 ≤ n ∧ okI step p (n - x.1) x.1 x.2 ∧ runI step (n - x.1) x.1 x.2 = runI step n 0 s0, fun x => n - x.1, (0, s0), stN, js, ⟨Nat.zero_le _, by simpa using h1, by simp⟩, hN, h2, h3, ?_⟩
  rintro ⟨k, s⟩ ⟨hk, hJ, hrun⟩
  simp only at hk hJ hrun
  obtain ⟨L, hl, hex⟩ := h4 k s hk (fun hlt => by
    rw [show n - k = (n - k - 1) + 1 by omega] at hJ
    exact hJ.1)
  refine ⟨L, _, hl, ?_, hex⟩
  have hfin : ∀ e st', k < n → exE' exE outE st.h.length e st' (step k s) → ∃ r js, (LC pre (runI step n 0 s0) exE outE outN).post r ∧ (LC pre (runI step n 0 s0) exE outE outN).ex r = e ∧ st.h.length ≤ ((LC pre (runI step n 0 s0) exE outE outN).out r).h.length ∧ Sub js st.h.length st' ((LC pre (runI step n 0 s0) exE outE outN).out r) := by
    intro e st' hlt q
    cases hs : step k s with
    | inr s' => rw [hs] at q; exact q.elim
    | inl x =>
      rw [hs] at q
      obtain ⟨q2, js, q3, q4⟩ := q
      rw [show n - k = (n - k - 1) + 1 by omega] at hrun
      simp only [runI, hs] at hrun
      exact ⟨.inl x, js, hrun, q2, q3, q4⟩
  intro e st' hq
  cases e with
  | normal =>
    obtain ⟨q1, q2⟩ := hq
    cases hs : step k s with
    | inl x => rw [hs] at q2; exact q2.elim
    | inr s' =>
      rw [hs] at q2
      obtain ⟨js, q3, q4⟩ := q2
      rw [show n - k = (n - (k + 1)) + 1 by omega] at hrun hJ
      simp only [runI, hs] at hrun
      exact ⟨(k + 1, s'), js, ⟨q1, hJ.2 s' hs, hrun⟩, by simp only; omega, q3, q4⟩
  | exit j =>
    have hq' : (bif Nat.beq j id then (n ≤ k → fitE (outN s) st.h.length st') ∧ (k < n → exE' exE outE st.h.length .normal st' (step k s)) else k < n ∧ exE' exE outE st.h.length (.exit j) st' (step k s)) := hq
    show bif Nat.beq j id then _ else _
    cases hb : Nat.beq j id with
    | true =>
      rw [hb] at hq'
      simp only [cond_true] at hq' ⊢
      by_cases hlt : k < n
      · exact hfin _ _ hlt (hq'.2 hlt)
      · obtain ⟨js, q3, q4⟩ := hq'.1 (by omega)
        have hkn : k = n := by omega
        subst hkn
        simp only [Nat.sub_self, runI] at hrun
        exact ⟨.inr s, js, hrun, rfl, q3, q4⟩
    | false => rw [hb] at hq'; exact hfin _ _ hq'.1 hq'.2
  | ret => exact hfin _ _ hq.1 hq.2
  | pan x => exact hfin _ _ hq.1 hq.2
end
def retC (p : Prop) (S : SV) (H : List Ob) : HCon := { α := Unit, pre := p, post := fun _ => True, res := fun _ => .ret S H }
def fitD (n0 : Nat) (S : SV) (H : List Ob) (h : List Ob) : Option SV → Prop
  | some s => fitE ⟨[(0, S)], H⟩ n0 ⟨[(0, s)], h⟩
  | none => False
def doneE (n0 : Nat) (rs : List ResultVar) (ts : Tis) (S : SV) (H : List Ob) : Ex → St → Prop
  | .exit _, _ => False
  | .normal, st => fitD n0 S H st.h (tupO (retL ts st rs))
  | .ret, st => fitD n0 S H st.h (tupO (retL ts st rs))
  | .pan _, _ => False
section
variable {P : Program} {ts : Tis} {G : Cons} {n0 : Nat} {S s : SV} {H h : List Ob} {rs : List ResultVar} {st : St} {x : Value} {j : Nat}
@[go_sem] theorem fitD_some : fitD n0 S H h (some s) = fitE ⟨[(0, S)], H⟩ n0 ⟨[(0, s)], h⟩ := (rfl)
@[go_sem] theorem doneE_normal : doneE n0 rs ts S H .normal st = fitD n0 S H st.h (tupO (retL ts st rs)) := (rfl)
@[go_sem] theorem doneE_ret : doneE n0 rs ts S H .ret st = fitD n0 S H st.h (tupO (retL ts st rs)) := (rfl)
@[go_sem high] theorem callH_retC {p : Prop} {ids : List Nat} {d : Option Nat} {K : St → Prop} {Z : Value → St → Prop} : callH ids d st K Z (some (retC p S H)) = (p ∧ resN ids d st K Z (.ret S H)) := by
  show (p ∧ ∀ r : Unit, True → resN ids d st K Z (.ret S H)) = _
  simp
@[go_sem high] theorem callHG_retC {p : Prop} {ids : List Nat} {ops : List Oper} {g : Nat × Bool} {d : Nat} {t : List (Nat × SV)} {h' : List Ob} {K : St → Prop} {Z : Value → St → Prop} : callHG ids ops g (some d) ⟨t, h'⟩ K Z (some (retC p S H)) = ((guardP ops t ops.length g → p ∧ resG ids g (some d) ⟨t, h'⟩ K Z (.ret S H)) ∧ (guardN ops t ops.length g → K ⟨(d, .gd g.1 g.2 .any) :: t, h'⟩)) := by
  show ((guardP ops t ops.length g → p ∧ ∀ r : Unit, True → resG ids g (some d) ⟨t, h'⟩ K Z (.ret S H)) ∧ _) = _
  simp only [true_imp_iff, forall_const]
  rfl
@[go_sem high] theorem callHG_retC_ {p : Prop} {ids : List Nat} {ops : List Oper} {g : Nat × Bool} {t : List (Nat × SV)} {h' : List Ob} {K : St → Prop} {Z : Value → St → Prop} : callHG ids ops g none ⟨t, h'⟩ K Z (some (retC p S H)) = ((guardP ops t ops.length g → p ∧ resG ids g none ⟨t, h'⟩ K Z (.ret S H)) ∧ (guardN ops t ops.length g → K ⟨t, h'⟩)) := by
  show ((guardP ops t ops.length g → p ∧ ∀ r : Unit, True → resG ids g none ⟨t, h'⟩ K Z (.ret S H)) ∧ _) = _
  simp only [true_imp_iff, forall_const]
  rfl
@[go_sem] theorem drOf_bad : drOf G h .bad = none := (rfl)
def hCR (t : Tag) (k : List t.T → Option HCon) : List Ob → Option HCon
  | [.cells [.os 1], .row k' l] => if h : k' = t then k (h ▸ l) else none
  | _ => none
@[go_sem] theorem hCR_mk {t : Tag} {k : List t.T → Option HCon} {l : List t.T} : hCR t k [.cells [.os 1], .row t l] = k l := by simp [hCR]
theorem hCR_inv {t : Tag} {k : List t.T → Option HCon} {h : List Ob} {c : HCon} (hh : hCR t k h = some c) : ∃ l, h = [.cells [.os 1], .row t l] ∧ k l = some c := by
  unfold hCR at hh; split at hh
  · split at hh
    · rename_i e; subst e; exact ⟨_, rfl, hh⟩
    · cases hh
  · cases hh
open Classical in
noncomputable def pQ {α : Type 1} (X : SV) (k : List SV → Option α) : List SV → Option α
  | s :: r => if s = X then k r else none
  | [] => none
@[go_sem] theorem pQ_mk {α : Type 1} {X : SV} {k : List SV → Option α} {r : List SV} : pQ X k (X :: r) = k r := by simp [pQ]
theorem pQ_inv {α : Type 1} {X : SV} {k : List SV → Option α} {l : List SV} {c : α} (h : pQ X k l = some c) : ∃ r, l = X :: r ∧ k r = some c := by
  unfold pQ at h; split at h
  · split at h
    · rename_i e; subst e; exact ⟨_, rfl, h⟩
    · cases h
  · cases h
def pXR {α : Type 1} (t : Tag) (k : List t.T → List SV → Option α) : List SV → Option α
  | .ep [.rs k' l] 0 :: r => castR t k r k' l
  | _ => none
@[go_sem] theorem pXR_mk {α : Type 1} {t : Tag} {k : List t.T → List SV → Option α} {l : List t.T} {r : List SV} : pXR t k (.ep [.rs t l] 0 :: r) = k l r := by simp [pXR, castR]
theorem pXR_inv {α : Type 1} {t : Tag} {k : List t.T → List SV → Option α} {l : List SV} {c : α} (h : pXR t k l = some c) : ∃ x r, l = .ep [.rs t x] 0 :: r ∧ k x r = some c := by
  unfold pXR at h; split at h
  · rename_i k' l' r
    unfold castR at h
    split at h
    · rename_i e; subst e; exact ⟨_, _, rfl, h⟩
    · cases h
  · cases h
theorem fn_ok_oR (hm : P.follows .mixedOrders = true) (hts : ts.ok P) (hG : ConsOk P G) {f : FuncId} {fn : Func} {c : Code} (hf : P.funcs[f]? = some fn) (hb : fn.body = some c) (hname : (fn.name == "runtime.NumGoroutine") = false)
    (hc : okCode fn.ntmps c = true) {C : List SV → List Ob → Option HCon}
    (h : ∀ l o con, C l o = some con → ∃ p S H, con = retC p S H ∧ (p → l.length ≤ fn.ntmps ∧ ∃ L, loopsOk P none fn.ntmps L c ∧ exec ts G L c ⟨initT 0 l, o⟩ (doneE o.length fn.results.toList ts S H))) : FnOkO P f C := by
  refine fn_ok_oQ hm hts hG hf hb hname hc fun l o con hC hp => ?_
  obtain ⟨p, S, H, rfl, h2⟩ := h l o con hC
  obtain ⟨h3, L, h4, h5⟩ := h2 hp
  refine ⟨h3, L, _, h4, fun e st hq => ?_, h5⟩
  cases e with
  | normal =>
    change fitD _ _ _ _ _ at hq
    show doneR _ _ _ _
    cases hs : tupO (retL ts st fn.results.toList) with
    | none => rw [hs] at hq; exact hq.elim
    | some s => rw [hs] at hq; obtain ⟨js, q1, q2⟩ := hq; exact ⟨(), S, H, js, trivial, rfl, q1, q2⟩
  | ret =>
    change fitD _ _ _ _ _ at hq
    show doneR _ _ _ _
    cases hs : tupO (retL ts st fn.results.toList) with
    | none => rw [hs] at hq; exact hq.elim
    | some s => rw [hs] at hq; obtain ⟨js, q1, q2⟩ := hq; exact ⟨(), S, H, js, trivial, rfl, q1, q2⟩
  | exit j => exact hq.elim
  | pan x => exact hq.elim
end
end Go.Sx
end
section
namespace Go.Sx
theorem cl {p : Prop} (h : p := by (first | done | (repeat' (first | with_reducible refine And.intro ?_ ?_ | ((with_reducible show _ ≠ _); first | assumption | omega | (simp_all [outR, outL]; done) | grind) | with_reducible intro _)) <;> (first | done | exact Empty.elim ‹Empty› | assumption | rfl | omega | (simp only [*, cond_true, cond_false, Bool.not_true, Bool.not_false, go_sem, true_imp_iff, false_imp_iff, Bool.false_eq_true, Int.toNat_natCast, Int.toNat_zero, Nat.reduceBEq, Nat.reduceLeDiff, Nat.reduceAdd, Nat.reduceSub, Nat.reduceMul, Int.reduceLE, Int.reduceLT, Int.reduceToNat, Int.reduceNeg, true_and, and_true, and_self, implies_true, forall_const, reduceCtorEq]; done) | (simp only [*, cond_true, cond_false, Bool.not_true, Bool.not_false, go_sem, true_imp_iff, false_imp_iff, Bool.false_eq_true, Int.toNat_natCast, Int.toNat_zero, Nat.reduceBEq, Nat.reduceLeDiff, Nat.reduceAdd, Nat.reduceSub, Nat.reduceMul, Int.reduceLE, Int.reduceLT, Int.reduceToNat, Int.reduceNeg, true_and, and_true, and_self, implies_true, forall_const, reduceCtorEq]; (repeat' (first | with_reducible refine And.intro ?_ ?_ | ((with_reducible show _ ≠ _); first | assumption | omega | (simp_all [outR, outL]; done) | grind) | with_reducible intro _)) <;> (first | done | assumption | rfl | omega | (simp_all [outR, outL]; done))) | (simp_all [okI, outR, outL]; done) | grind))) : p := h
theorem cl2 {p : Prop} (h : p := by (first | done | (repeat' (first | with_reducible refine And.intro ?_ ?_ | ((with_reducible show _ ≠ _); first | assumption | omega | (simp_all [outR, outL]; done) | grind) | with_reducible intro _)) <;> (first | done | exact Empty.elim ‹Empty› | assumption | rfl | omega | (simp only [*, go_sem, true_imp_iff, false_imp_iff, Bool.false_eq_true, Int.toNat_natCast, Int.toNat_zero, Nat.reduceBEq, Nat.reduceLeDiff, Nat.reduceAdd, Nat.reduceSub, Nat.reduceMul, Int.reduceLE, Int.reduceLT, Int.reduceToNat, Int.reduceNeg, true_and, and_true, and_self, implies_true, forall_const, reduceCtorEq]; done) | (simp_all [outR, outL]; done)))) : p := h
end Go.Sx
end
section
namespace Go.Sx
open Go.Proofs
set_option maxRecDepth 100000
set_option linter.unusedSimpArgs false
def cmp_isNaN_int (x : Int) : Bool := (x != x)
def C_cmp_isNaN_int : List SV → Option Con := (pI fun x => pE (.det True (.v (.bool (cmp_isNaN_int x)))))
theorem ok_cmp_isNaN_int : FnOk Try.prog 82 C_cmp_isNaN_int := by
  have hG : ConsOk Try.prog (mkG [] []) := mkG_ok (by simp) (by simp)
  refine fn_okN [.o] mixed ts_ok hG (fn := Try.f82) (c := bodyOf Try.f82) (by kernel_rfl) (by kernel_rfl) (by kernel_rfl) (by kernel_rfl) fun l con h hp => ?_
  unfold C_cmp_isNaN_int at h
  obtain ⟨x, l0, rfl, h0⟩ := pI_inv h
  obtain ⟨rfl, rfl⟩ := pE_inv h0
  clear h h0
  dsimp only [conPre] at hp
  refine ⟨Nat.le_of_ble_eq_true rfl, (fun id st => none), ?_, ?_⟩
  · unfold bodyOf Try.f82
    simp only [loopsOk, and_self, true_and, and_true]
  · unfold bodyOf Try.f82
    try unfold cmp_isNaN_int
    simp only [go_sem, true_imp_iff, false_imp_iff, Bool.false_eq_true, Int.toNat_natCast, Int.toNat_zero, Nat.reduceBEq, Nat.reduceLeDiff, Nat.reduceAdd, Nat.reduceSub, Nat.reduceMul, Int.reduceLE, Int.reduceLT, Int.reduceToNat, Int.reduceNeg, true_and, and_true, and_self, implies_true, forall_const, reduceCtorEq]
    all_goals exact cl
def cmp_Compare_int (x : Int) (y : Int) : Int := (bif (cmp_isNaN_int x) then (bif (cmp_isNaN_int y) then 0 else (-1)) else (bif (cmp_isNaN_int y) then 1 else (bif (decide (x < y)) then (-1) else (bif (decide (x > y)) then 1 else 0))))
def C_cmp_Compare_int : List SV → Option Con := (pI fun x => (pI fun y => pE (.det True (.v (.int .i64 (cmp_Compare_int x y))))))
theorem ok_cmp_Compare_int : FnOk Try.prog 68 C_cmp_Compare_int := by
  have hG : ConsOk Try.prog (mkG [(82, C_cmp_isNaN_int)] []) := mkG_ok (by
    intro x hx
    simp only [List.mem_cons, List.not_mem_nil, or_false] at hx
    rcases hx with rfl
    · exact ok_cmp_isNaN_int) (by simp)
  refine fn_okN [.o] mixed ts_ok hG (fn := Try.f68) (c := bodyOf Try.f68) (by kernel_rfl) (by kernel_rfl) (by kernel_rfl) (by kernel_rfl) fun l con h hp => ?_
  unfold C_cmp_Compare_int at h
  obtain ⟨x, l0, rfl, h0⟩ := pI_inv h
  obtain ⟨y, l1, rfl, h1⟩ := pI_inv h0
  obtain ⟨rfl, rfl⟩ := pE_inv h1
  clear h h0 h1
  dsimp only [conPre] at hp
  refine ⟨Nat.le_of_ble_eq_true rfl, (fun id st => none), ?_, ?_⟩
  · unfold bodyOf Try.f68
    simp only [loopsOk, and_self, true_and, and_true]
  · unfold bodyOf Try.f68
    try unfold cmp_Compare_int
    simp only [go_sem, true_imp_iff, false_imp_iff, Bool.false_eq_true, Int.toNat_natCast, Int.toNat_zero, Nat.reduceBEq, Nat.reduceLeDiff, Nat.reduceAdd, Nat.reduceSub, Nat.reduceMul, Int.reduceLE, Int.reduceLT, Int.reduceToNat, Int.reduceNeg, true_and, and_true, and_self, implies_true, forall_const, reduceCtorEq, C_cmp_isNaN_int]
    all_goals exact cl
def ratio_magnitude (n : Int) : Int := (bif (decide (n < 0)) then (IntKind.u64.wrap (0 - (IntKind.u64.wrap n))) else (IntKind.u64.wrap n))
def C_ratio_magnitude : List SV → Option Con := (pI fun n => pE (.det True (.v (.int .u64 (ratio_magnitude n)))))
theorem ok_ratio_magnitude : FnOk Try.prog 84 C_ratio_magnitude := by
  have hG : ConsOk Try.prog (mkG [] []) := mkG_ok (by simp) (by simp)
  refine fn_okN [.o] mixed ts_ok hG (fn := Try.f84) (c := bodyOf Try.f84) (by kernel_rfl) (by kernel_rfl) (by kernel_rfl) (by kernel_rfl) fun l con h hp => ?_
  unfold C_ratio_magnitude at h
  obtain ⟨n, l0, rfl, h0⟩ := pI_inv h
  obtain ⟨rfl, rfl⟩ := pE_inv h0
  clear h h0
  dsimp only [conPre] at hp
  refine ⟨Nat.le_of_ble_eq_true rfl, (fun id st => none), ?_, ?_⟩
  · unfold bodyOf Try.f84
    simp only [loopsOk, and_self, true_and, and_true]
  · unfold bodyOf Try.f84
    try unfold ratio_magnitude
    simp only [go_sem, true_imp_iff, false_imp_iff, Bool.false_eq_true, Int.toNat_natCast, Int.toNat_zero, Nat.reduceBEq, Nat.reduceLeDiff, Nat.reduceAdd, Nat.reduceSub, Nat.reduceMul, Int.reduceLE, Int.reduceLT, Int.reduceToNat, Int.reduceNeg, true_and, and_true, and_self, implies_true, forall_const, reduceCtorEq]
    all_goals exact cl
def ratio_Check (a : Ratio) : Int := (bif (((((decide (a.d < 1)) || (decide (a.d > 1073741824))) || (decide (a.n < (-1073741824)))) || (decide (a.n > 1073741824))) || (((divI (Int.toNat (ratio_magnitude a.n)) (Int.toNat (IntKind.u64.wrap a.d)) : Nat) : Int) != 1)) then 120 else 0)
def ratio_Check_p (a : Ratio) : Prop := (((((decide (a.d < 1)) || (decide (a.d > 1073741824))) || (decide (a.n < (-1073741824)))) || (decide (a.n > 1073741824))) = false → (0 ≤ (ratio_magnitude a.n) ∧ 0 ≤ (IntKind.u64.wrap a.d)))
theorem u64_nonneg (n : Int) : 0 ≤ IntKind.u64.wrap n := by
  simp [IntKind.wrap, IntKind.bits, IntKind.signed]; omega
theorem magnitude_nonneg (n : Int) : 0 ≤ ratio_magnitude n := by
  unfold ratio_magnitude
  cases decide (n < 0) <;> exact u64_nonneg _
theorem ratio_Check_pt (a : Ratio) : ratio_Check_p a := fun _ => ⟨magnitude_nonneg _, u64_nonneg _⟩
def C_ratio_Check : List SV → Option Con := (pD .ratio fun a => pE (.det True (.v (.int .i64 (ratio_Check a)))))
theorem ok_ratio_Check : FnOk Try.prog 72 C_ratio_Check := by
  have hG : ConsOk Try.prog (mkG [(83, C83), (84, C_ratio_magnitude)] []) := mkG_ok (by
    intro x hx
    simp only [List.mem_cons, List.not_mem_nil, or_false] at hx
    rcases hx with rfl | rfl
    · exact f83_ok
    · exact ok_ratio_magnitude) (by simp)
  refine fn_okN [.o] mixed ts_ok hG (fn := Try.f72) (c := bodyOf Try.f72) (by kernel_rfl) (by kernel_rfl) (by kernel_rfl) (by kernel_rfl) fun l con h hp => ?_
  unfold C_ratio_Check at h
  obtain ⟨a, l0, rfl, h0⟩ := pD_inv h
  obtain ⟨rfl, rfl⟩ := pE_inv h0
  clear h h0
  dsimp only [conPre] at hp
  have hp := ratio_Check_pt a
  unfold ratio_Check_p at hp
  refine ⟨Nat.le_of_ble_eq_true rfl, (fun id st => none), ?_, ?_⟩
  · unfold bodyOf Try.f72
    simp only [loopsOk, and_self, true_and, and_true]
  · unfold bodyOf Try.f72
    try unfold ratio_Check
    simp only [go_sem, true_imp_iff, false_imp_iff, Bool.false_eq_true, Int.toNat_natCast, Int.toNat_zero, Nat.reduceBEq, Nat.reduceLeDiff, Nat.reduceAdd, Nat.reduceSub, Nat.reduceMul, Int.reduceLE, Int.reduceLT, Int.reduceToNat, Int.reduceNeg, true_and, and_true, and_self, implies_true, forall_const, reduceCtorEq, C83, C_ratio_magnitude]
    all_goals exact cl
def ratio_Cmp (a : Ratio) (b : Ratio) : Int × Int := (bif (((ratio_Check a) != 0) || ((ratio_Check b) != 0)) then (0, 120) else ((cmp_Compare_int (IntKind.i64.wrap (a.n * b.d)) (IntKind.i64.wrap (b.n * a.d))), 0))
def C_ratio_Cmp : List SV → Option Con := (pD .ratio fun a => (pD .ratio fun b => pE (.det True (.tup [.v (.int .i64 ((ratio_Cmp a b).1)), .v (.int .i64 ((ratio_Cmp a b).2))]))))
theorem ok_ratio_Cmp : FnOk Try.prog 71 C_ratio_Cmp := by
  have hG : ConsOk Try.prog (mkG [(68, C_cmp_Compare_int), (72, C_ratio_Check)] []) := mkG_ok (by
    intro x hx
    simp only [List.mem_cons, List.not_mem_nil, or_false] at hx
    rcases hx with rfl | rfl
    · exact ok_cmp_Compare_int
    · exact ok_ratio_Check) (by simp)
  refine fn_okN [.o, .o] mixed ts_ok hG (fn := Try.f71) (c := bodyOf Try.f71) (by kernel_rfl) (by kernel_rfl) (by kernel_rfl) (by kernel_rfl) fun l con h hp => ?_
  unfold C_ratio_Cmp at h
  obtain ⟨a, l0, rfl, h0⟩ := pD_inv h
  obtain ⟨b, l1, rfl, h1⟩ := pD_inv h0
  obtain ⟨rfl, rfl⟩ := pE_inv h1
  clear h h0 h1
  dsimp only [conPre] at hp
  refine ⟨Nat.le_of_ble_eq_true rfl, (fun id st => none), ?_, ?_⟩
  · unfold bodyOf Try.f71
    simp only [loopsOk, and_self, true_and, and_true]
  · unfold bodyOf Try.f71
    try unfold ratio_Cmp
    simp only [go_sem, true_imp_iff, false_imp_iff, Bool.false_eq_true, Int.toNat_natCast, Int.toNat_zero, Nat.reduceBEq, Nat.reduceLeDiff, Nat.reduceAdd, Nat.reduceSub, Nat.reduceMul, Int.reduceLE, Int.reduceLT, Int.reduceToNat, Int.reduceNeg, true_and, and_true, and_self, implies_true, forall_const, reduceCtorEq, C_cmp_Compare_int, C_ratio_Check]
    all_goals exact cl
def expand_demand (ok : Bool) (e : Int) : Unit := (bif (!ok) then default else ())
def expand_demand_ok (ok : Bool) (e : Int) : Bool := (bif (!ok) then false else true)
def C_expand_demand : List SV → Option Con := (pB fun ok => (pI fun e => pE (.may (expand_demand_ok ok e) (.tup []) (.iface 113 (.int .i64 e)))))
theorem ok_expand_demand : FnOk Try.prog 38 C_expand_demand := by
  have hG : ConsOk Try.prog (mkG [] []) := mkG_ok (by simp) (by simp)
  refine fn_okN [] mixed ts_ok hG (fn := Try.f38) (c := bodyOf Try.f38) (by kernel_rfl) (by kernel_rfl) (by kernel_rfl) (by kernel_rfl) fun l con h hp => ?_
  unfold C_expand_demand at h
  obtain ⟨ok, l0, rfl, h0⟩ := pB_inv h
  obtain ⟨e, l1, rfl, h1⟩ := pI_inv h0
  obtain ⟨rfl, rfl⟩ := pE_inv h1
  clear h h0 h1
  dsimp only [conPre] at hp
  refine ⟨Nat.le_of_ble_eq_true rfl, (fun id st => none), ?_, ?_⟩
  · unfold bodyOf Try.f38
    simp only [loopsOk, and_self, true_and, and_true]
  · unfold bodyOf Try.f38
    try unfold expand_demand
    try unfold expand_demand_ok
    simp only [go_sem, true_imp_iff, false_imp_iff, Bool.false_eq_true, Int.toNat_natCast, Int.toNat_zero, Nat.reduceBEq, Nat.reduceLeDiff, Nat.reduceAdd, Nat.reduceSub, Nat.reduceMul, Int.reduceLE, Int.reduceLT, Int.reduceToNat, Int.reduceNeg, true_and, and_true, and_self, implies_true, forall_const, reduceCtorEq]
    all_goals exact cl
def expand_rising_l0 (l_ : List Int) : Nat → Unit → Unit ⊕ Unit := fun k_0 s_0 => (bif (decide ((l_.getD (Int.toNat ((k_0 : Int) + 1)) (0 : Int)) < (l_.getD (Int.toNat (IntKind.i64.wrap (((k_0 : Int) + 1) - 1))) (0 : Int)))) then .inl () else .inr ())
def expand_rising_l0_p (l_ : List Int) : Nat → Unit → Prop := fun k_0 s_0 => (l_.length ≤ maxL → ((0 ≤ ((k_0 : Int) + 1) ∧ ((k_0 : Int) + 1) < (l_.length : Int)) ∧ (0 ≤ (IntKind.i64.wrap (((k_0 : Int) + 1) - 1)) ∧ (IntKind.i64.wrap (((k_0 : Int) + 1) - 1)) < (l_.length : Int))))
def expand_rising (l_ : List Int) : Bool := (match runI (expand_rising_l0 l_) (l_.length - 1) 0 () with | .inl x_0_0 => false | .inr s_0 => true)
def expand_rising_p (l_ : List Int) : Prop := okI (expand_rising_l0 l_) (expand_rising_l0_p l_) (l_.length - 1) 0 ()
theorem expand_rising_pt (l_ : List Int) : expand_rising_p l_ := okI_all _ _ _ fun j s h1 h2 hm => by
  unfold maxL at hm
  rw [wrapI (by omega) (by omega)]
  omega
def C_expand_rising : List SV → Option Con := (pR .int fun l_ => pE (.det True (.v (.bool (expand_rising l_)))))
set_option maxHeartbeats 4000000 in
theorem ok_expand_rising : FnOk Try.prog 55 C_expand_rising := by
  have hG : ConsOk Try.prog (mkG [] []) := mkG_ok (by simp) (by simp)
  refine fn_okN [.o] mixed ts_ok hG (fn := Try.f55) (c := bodyOf Try.f55) (by kernel_rfl) (by kernel_rfl) (by kernel_rfl) (by kernel_rfl) fun l con h hp => ?_
  unfold C_expand_rising at h
  obtain ⟨l_, l0, rfl, h0⟩ := pR_inv h
  obtain ⟨rfl, rfl⟩ := pE_inv h0
  clear h h0
  dsimp only [conPre] at hp
  have hp := expand_rising_pt l_
  unfold expand_rising_p at hp
  refine ⟨Nat.le_of_ble_eq_true rfl, (fun id st => bif Nat.beq id 0 then some (LC (ρ := Unit) (σ := Unit) (lk 0 st.t = .rs .int l_ ∧ lk 3 st.t = .v (.int .i64 1) ∧ st.h = [] ∧ okI (expand_rising_l0 l_) (expand_rising_l0_p l_) (l_.length - 1) 0 ()) (runI (expand_rising_l0 l_) (l_.length - 1) 0 ()) (fun _ => .ret) (fun x_0_0 => ⟨[(2, .v (.bool false))], []⟩) (fun s_0 => ⟨[], []⟩)) else none), ?_, ?_⟩
  · unfold bodyOf Try.f55
    simp only [loopsOk, true_and, and_true]
    · refine count_okP mixed ts_ok hG (by kernel_rfl) fun st lc hC hp => ?_
      simp only [go_sem, Nat.reduceBEq, Option.some.injEq] at hC
      subst hC
      obtain ⟨t, h⟩ := st
      dsimp only [LC] at hp
      obtain ⟨e0_0, e0_1, rfl, hok0⟩ := hp
      refine ⟨_, _, _, (expand_rising_l0 l_), (expand_rising_l0_p l_), (l_.length - 1), (), _, _, _, (fun k_0 s_0 => ⟨[(0, .rs .int l_), (3, .v (.int .i64 ((k_0 : Int) + 1)))], []⟩), [], rfl, hok0, Nat.le_refl _, ?_, fun k_0 s_0 hk0 hp0 => ?_⟩
      · simp only [go_sem, true_imp_iff, false_imp_iff, Bool.false_eq_true, Int.toNat_natCast, Int.toNat_zero, Nat.reduceBEq, Nat.reduceLeDiff, Nat.reduceAdd, Nat.reduceSub, Nat.reduceMul, Int.reduceLE, Int.reduceLT, Int.reduceToNat, Int.reduceNeg, true_and, and_true, and_self, implies_true, forall_const, reduceCtorEq, e0_0, e0_1]
        all_goals (first | done | decide | (repeat' (first | refine And.intro ?_ ?_ | rfl | decide)))
      refine ⟨(fun id st => none), ?_, ?_⟩
      · simp only [loopsOk, and_self, true_and, and_true]
      · by_cases hb0 : l_.length ≤ maxL
        rotate_left
        · simp only [go_sem, true_imp_iff, false_imp_iff, Bool.false_eq_true, Int.toNat_natCast, Int.toNat_zero, Nat.reduceBEq, Nat.reduceLeDiff, Nat.reduceAdd, Nat.reduceSub, Nat.reduceMul, Int.reduceLE, Int.reduceLT, Int.reduceToNat, Int.reduceNeg, true_and, and_true, and_self, implies_true, forall_const, reduceCtorEq, hb0]
        · by_cases hlt0 : k_0 < (l_.length - 1)
          · have hw0 : IntKind.i64.wrap (((k_0 : Nat) : Int) + 1 + 1) = ((k_0 + 1 : Nat) : Int) + 1 := by (have hbb := hb0; have hll := hlt0; try unfold maxL at hbb); rw [wrapI (by omega) (by omega)]; omega
            have hq0 := hp0 hlt0
            unfold expand_rising_l0_p at hq0
            replace hq0 := hq0 hb0
            try simp only [hw0, Int.toNat_natCast] at hq0
            have hc0 : decide (((k_0 : Int) + 1) < (l_.length : Int)) = true := by simp only [decide_eq_true_eq]; omega
            simp only [go_sem, true_imp_iff, false_imp_iff, Bool.false_eq_true, Int.toNat_natCast, Int.toNat_zero, Nat.reduceBEq, Nat.reduceLeDiff, Nat.reduceAdd, Nat.reduceSub, Nat.reduceMul, Int.reduceLE, Int.reduceLT, Int.reduceToNat, Int.reduceNeg, true_and, and_true, and_self, implies_true, forall_const, reduceCtorEq, expand_rising_l0, hc0, hw0]
            all_goals exact cl
          · have hc0 : decide (((k_0 : Int) + 1) < (l_.length : Int)) = false := by simp only [decide_eq_false_iff_not]; omega
            simp only [go_sem, true_imp_iff, false_imp_iff, Bool.false_eq_true, Int.toNat_natCast, Int.toNat_zero, Nat.reduceBEq, Nat.reduceLeDiff, Nat.reduceAdd, Nat.reduceSub, Nat.reduceMul, Int.reduceLE, Int.reduceLT, Int.reduceToNat, Int.reduceNeg, true_and, and_true, and_self, implies_true, forall_const, reduceCtorEq, hc0]
            all_goals exact cl2
  · unfold bodyOf Try.f55
    try unfold expand_rising
    simp only [go_sem, true_imp_iff, false_imp_iff, Bool.false_eq_true, Int.toNat_natCast, Int.toNat_zero, Nat.reduceBEq, Nat.reduceLeDiff, Nat.reduceAdd, Nat.reduceSub, Nat.reduceMul, Int.reduceLE, Int.reduceLT, Int.reduceToNat, Int.reduceNeg, true_and, and_true, and_self, implies_true, forall_const, reduceCtorEq]
    all_goals exact cl
def expand_index (i : Int) (n : Int) : Bool := ((decide (i ≥ 0)) && (decide (i < n)))
def C_expand_index : List SV → Option Con := (pI fun i => (pI fun n => pE (.det True (.v (.bool (expand_index i n))))))
theorem ok_expand_index : FnOk Try.prog 57 C_expand_index := by
  have hG : ConsOk Try.prog (mkG [] []) := mkG_ok (by simp) (by simp)
  refine fn_okN [.o] mixed ts_ok hG (fn := Try.f57) (c := bodyOf Try.f57) (by kernel_rfl) (by kernel_rfl) (by kernel_rfl) (by kernel_rfl) fun l con h hp => ?_
  unfold C_expand_index at h
  obtain ⟨i, l0, rfl, h0⟩ := pI_inv h
  obtain ⟨n, l1, rfl, h1⟩ := pI_inv h0
  obtain ⟨rfl, rfl⟩ := pE_inv h1
  clear h h0 h1
  dsimp only [conPre] at hp
  refine ⟨Nat.le_of_ble_eq_true rfl, (fun id st => none), ?_, ?_⟩
  · unfold bodyOf Try.f57
    simp only [loopsOk, and_self, true_and, and_true]
  · unfold bodyOf Try.f57
    try unfold expand_index
    simp only [go_sem, true_imp_iff, false_imp_iff, Bool.false_eq_true, Int.toNat_natCast, Int.toNat_zero, Nat.reduceBEq, Nat.reduceLeDiff, Nat.reduceAdd, Nat.reduceSub, Nat.reduceMul, Int.reduceLE, Int.reduceLT, Int.reduceToNat, Int.reduceNeg, true_and, and_true, and_self, implies_true, forall_const, reduceCtorEq]
    all_goals exact cl
def expand_share (x : Ratio × Ratio) : Bool := (((((ratio_Cmp x.1 x.2).2 == 0) && (decide (x.1.n ≥ 0))) && (decide ((ratio_Cmp x.1 x.2).1 ≤ 0))) && (decide (x.2.n ≤ x.2.d)))
def C_expand_share : List SV → Option Con := (pD .ratio2 fun x => pE (.det True (.v (.bool (expand_share x)))))
theorem ok_expand_share : FnOk Try.prog 74 C_expand_share := by
  have hG : ConsOk Try.prog (mkG [(71, C_ratio_Cmp)] []) := mkG_ok (by
    intro x hx
    simp only [List.mem_cons, List.not_mem_nil, or_false] at hx
    rcases hx with rfl
    · exact ok_ratio_Cmp) (by simp)
  refine fn_okN [.o] mixed ts_ok hG (fn := Try.f74) (c := bodyOf Try.f74) (by kernel_rfl) (by kernel_rfl) (by kernel_rfl) (by kernel_rfl) fun l con h hp => ?_
  unfold C_expand_share at h
  obtain ⟨x, l0, rfl, h0⟩ := pD_inv h
  obtain ⟨rfl, rfl⟩ := pE_inv h0
  clear h h0
  dsimp only [conPre] at hp
  refine ⟨Nat.le_of_ble_eq_true rfl, (fun id st => none), ?_, ?_⟩
  · unfold bodyOf Try.f74
    simp only [loopsOk, and_self, true_and, and_true]
  · unfold bodyOf Try.f74
    try unfold expand_share
    simp only [go_sem, true_imp_iff, false_imp_iff, Bool.false_eq_true, Int.toNat_natCast, Int.toNat_zero, Nat.reduceBEq, Nat.reduceLeDiff, Nat.reduceAdd, Nat.reduceSub, Nat.reduceMul, Int.reduceLE, Int.reduceLT, Int.reduceToNat, Int.reduceNeg, true_and, and_true, and_self, implies_true, forall_const, reduceCtorEq, C_ratio_Cmp]
    all_goals exact cl
def expand_reach (i : Int) (x : Reach) : Bool := (bif (decide (i > 0)) then ((((((expand_index x.up i) && (expand_rising ([1, x.delay, 16]))) && (expand_rising ([0, x.siphon, x.cap, 1073741824]))) && (expand_rising ([0, x.siphon, x.bank, 1099511627776]))) && (expand_rising ([0, x.evap.lo, x.evap.hi, 1073741824]))) && (expand_share x.seep)) else ((((((x.up == (-1)) && (expand_rising ([1, x.delay, 16]))) && (expand_rising ([0, x.siphon, x.cap, 1073741824]))) && (expand_rising ([0, x.siphon, x.bank, 1099511627776]))) && (expand_rising ([0, x.evap.lo, x.evap.hi, 1073741824]))) && (expand_share x.seep)))
def C_expand_reach : List SV → Option Con := (pI fun i => (pD .reach fun x => pE (.det True (.v (.bool (expand_reach i x))))))
theorem ok_expand_reach : FnOk Try.prog 56 C_expand_reach := by
  have hG : ConsOk Try.prog (mkG [(55, fun l => C_expand_rising (nrmA [.sl .int] l)), (57, C_expand_index), (74, C_expand_share)] []) := mkG_ok (by
    intro x hx
    simp only [List.mem_cons, List.not_mem_nil, or_false] at hx
    rcases hx with rfl | rfl | rfl
    · exact ok_expand_rising.norm [.sl .int]
    · exact ok_expand_index
    · exact ok_expand_share) (by simp)
  refine fn_okN [.o] mixed ts_ok hG (fn := Try.f56) (c := bodyOf Try.f56) (by kernel_rfl) (by kernel_rfl) (by kernel_rfl) (by kernel_rfl) fun l con h hp => ?_
  unfold C_expand_reach at h
  obtain ⟨i, l0, rfl, h0⟩ := pI_inv h
  obtain ⟨x, l1, rfl, h1⟩ := pD_inv h0
  obtain ⟨rfl, rfl⟩ := pE_inv h1
  clear h h0 h1
  dsimp only [conPre] at hp
  refine ⟨Nat.le_of_ble_eq_true rfl, (fun id st => none), ?_, ?_⟩
  · unfold bodyOf Try.f56
    simp only [loopsOk, and_self, true_and, and_true]
  · unfold bodyOf Try.f56
    try unfold expand_reach
    simp only [go_sem, true_imp_iff, false_imp_iff, Bool.false_eq_true, Int.toNat_natCast, Int.toNat_zero, Nat.reduceBEq, Nat.reduceLeDiff, Nat.reduceAdd, Nat.reduceSub, Nat.reduceMul, Int.reduceLE, Int.reduceLT, Int.reduceToNat, Int.reduceNeg, true_and, and_true, and_self, implies_true, forall_const, reduceCtorEq, C_expand_rising, C_expand_index, C_expand_share]
    all_goals exact cl
def expand_right (a0 : District) (a1 : Right) : Bool := (bif (((!(expand_index a1.farm (a0.farms.length : Int))) || (!(expand_index a1.reach (a0.reaches.length : Int)))) || (!(expand_rising ([0, a1.since, a1.to, (IntKind.i64.wrap (a0.hours - 1))])))) then false else (bif (a1.kind == 1) then ((((a1.reach == 0) && (expand_rising ([0, a1.rank, 1048576]))) && (expand_rising ([1, a1.litres, 1073741824]))) && (expand_rising ([1, a1.length, a1.every, a0.hours]))) else (bif (a1.kind == 2) then ((a1.name == a1.name) && ((a1.kind == a1.kind) && ((a1.farm == a1.farm) && ((a1.reach == a1.reach) && ((a1.rank == 0) && ((a1.litres == 0) && ((a1.since == 0) && ((a1.to == (IntKind.i64.wrap (a0.hours - 1))) && ((a1.every == 0) && (a1.length == 0)))))))))) else (bif (a1.kind == 3) then ((a1.name == a1.name) && ((a1.kind == a1.kind) && ((a1.farm == a1.farm) && ((a1.reach == a1.reach) && ((a1.rank == 0) && ((a1.litres == 0) && ((a1.since == a1.since) && ((a1.to == a1.to) && ((a1.every == 0) && (a1.length == 0)))))))))) else false))))
def C_expand_right : List SV → Option Con := (pD .district fun a0 => (pD .right fun a1 => pE (.det True (.v (.bool (expand_right a0 a1))))))
theorem ok_expand_right : FnOk Try.prog 58 C_expand_right := by
  have hG : ConsOk Try.prog (mkG [(55, fun l => C_expand_rising (nrmA [.sl .int] l)), (57, C_expand_index)] []) := mkG_ok (by
    intro x hx
    simp only [List.mem_cons, List.not_mem_nil, or_false] at hx
    rcases hx with rfl | rfl
    · exact ok_expand_rising.norm [.sl .int]
    · exact ok_expand_index) (by simp)
  refine fn_okN [.o] mixed ts_ok hG (fn := Try.f58) (c := bodyOf Try.f58) (by kernel_rfl) (by kernel_rfl) (by kernel_rfl) (by kernel_rfl) fun l con h hp => ?_
  unfold C_expand_right at h
  obtain ⟨a0, l0, rfl, h0⟩ := pD_inv h
  obtain ⟨a1, l1, rfl, h1⟩ := pD_inv h0
  obtain ⟨rfl, rfl⟩ := pE_inv h1
  clear h h0 h1
  dsimp only [conPre] at hp
  refine ⟨Nat.le_of_ble_eq_true rfl, (fun id st => none), ?_, ?_⟩
  · unfold bodyOf Try.f58
    simp only [loopsOk, and_self, true_and, and_true]
  · unfold bodyOf Try.f58
    try unfold expand_right
    simp only [go_sem, true_imp_iff, false_imp_iff, Bool.false_eq_true, Int.toNat_natCast, Int.toNat_zero, Nat.reduceBEq, Nat.reduceLeDiff, Nat.reduceAdd, Nat.reduceSub, Nat.reduceMul, Int.reduceLE, Int.reduceLT, Int.reduceToNat, Int.reduceNeg, true_and, and_true, and_self, implies_true, forall_const, reduceCtorEq, C_expand_rising, C_expand_index]
    all_goals exact cl
def expand_examine_l0 (a0 : District) (a1 : Int) : Nat → Unit → Unit ⊕ Unit := fun k_0 s_0 => (bif (expand_demand_ok (expand_reach (k_0 : Int) (a0.reaches.getD k_0 (default : Reach))) a1) then .inr () else .inl ())
def expand_examine_l0_p (a0 : District) (a1 : Int) : Nat → Unit → Prop := fun k_0 s_0 => True
def expand_examine_l1 (a0 : District) (a1 : Int) : Nat → Unit → Unit ⊕ Unit := fun k_1 s_1 => (bif (expand_demand_ok (expand_rising ([0, (a0.crops.getD k_1 (default : Crop)).need, 1048576])) a1) then .inr () else .inl ())
def expand_examine_l1_p (a0 : District) (a1 : Int) : Nat → Unit → Prop := fun k_1 s_1 => True
def expand_examine_l2 (a0 : District) (a1 : Int) : Nat → Unit → Unit ⊕ Unit := fun k_2 s_2 => (bif (decide ((a0.farms.getD k_2 (default : Farm)).area > 0)) then (bif (expand_demand_ok (((expand_index ((a0.farms.getD k_2 (default : Farm)).crop) (a0.crops.length : Int)) && (expand_index ((a0.farms.getD k_2 (default : Farm)).reach) (a0.reaches.length : Int))) && (expand_rising ([0, (a0.farms.getD k_2 (default : Farm)).area, 1048576]))) a1) then .inr () else .inl ()) else (bif (expand_demand_ok ((((a0.farms.getD k_2 (default : Farm)).crop == (-1)) && (expand_index ((a0.farms.getD k_2 (default : Farm)).reach) (a0.reaches.length : Int))) && (expand_rising ([0, (a0.farms.getD k_2 (default : Farm)).area, 1048576]))) a1) then .inr () else .inl ()))
def expand_examine_l2_p (a0 : District) (a1 : Int) : Nat → Unit → Prop := fun k_2 s_2 => True
def expand_examine_l3 (a0 : District) (a1 : Int) : Nat → Unit → Unit ⊕ Unit := fun k_3 s_3 => (bif (expand_demand_ok (expand_right a0 (a0.rights.getD k_3 (default : Right))) a1) then .inr () else .inl ())
def expand_examine_l3_p (a0 : District) (a1 : Int) : Nat → Unit → Prop := fun k_3 s_3 => True
def expand_examine_l4 (a0 : District) (a1 : Int) : Nat → Unit → Unit ⊕ Unit := fun k_4 s_4 => (bif (expand_demand_ok (((expand_index ((a0.duties.getD k_4 (default : Duty)).farm) (a0.farms.length : Int)) && (expand_index ((a0.duties.getD k_4 (default : Duty)).reach) (a0.reaches.length : Int))) && (expand_rising ([0, (a0.duties.getD k_4 (default : Duty)).due, a0.hours]))) a1) then .inr () else .inl ())
def expand_examine_l4_p (a0 : District) (a1 : Int) : Nat → Unit → Prop := fun k_4 s_4 => True
def expand_examine (a0 : District) (a1 : Int) : Unit := (bif (expand_demand_ok (((expand_rising ([1, a0.hours, 4096])) && (expand_rising ([0, a0.tank.start, a0.tank.cap, 1099511627776]))) && (decide ((a0.reaches.length : Int) > 0))) a1) then (match runI (expand_examine_l0 a0 a1) a0.reaches.length 0 () with | .inl x_0_0 => default | .inr s_0 => (match runI (expand_examine_l1 a0 a1) a0.crops.length 0 () with | .inl x_1_0 => default | .inr s_1 => (match runI (expand_examine_l2 a0 a1) a0.farms.length 0 () with | .inl x_2_0 => default | .inr s_2 => (match runI (expand_examine_l3 a0 a1) a0.rights.length 0 () with | .inl x_3_0 => default | .inr s_3 => (match runI (expand_examine_l4 a0 a1) a0.duties.length 0 () with | .inl x_4_0 => default | .inr s_4 => ()))))) else default)
def expand_examine_ok (a0 : District) (a1 : Int) : Bool := (bif (expand_demand_ok (((expand_rising ([1, a0.hours, 4096])) && (expand_rising ([0, a0.tank.start, a0.tank.cap, 1099511627776]))) && (decide ((a0.reaches.length : Int) > 0))) a1) then (match runI (expand_examine_l0 a0 a1) a0.reaches.length 0 () with | .inl x_0_0 => false | .inr s_0 => (match runI (expand_examine_l1 a0 a1) a0.crops.length 0 () with | .inl x_1_0 => false | .inr s_1 => (match runI (expand_examine_l2 a0 a1) a0.farms.length 0 () with | .inl x_2_0 => false | .inr s_2 => (match runI (expand_examine_l3 a0 a1) a0.rights.length 0 () with | .inl x_3_0 => false | .inr s_3 => (match runI (expand_examine_l4 a0 a1) a0.duties.length 0 () with | .inl x_4_0 => false | .inr s_4 => true))))) else false)
def C_expand_examine : List SV → Option Con := (pD .district fun a0 => (pI fun a1 => pE (.may (expand_examine_ok a0 a1) (.tup []) (.iface 113 (.int .i64 a1)))))
set_option maxHeartbeats 4000000 in
theorem ok_expand_examine : FnOk Try.prog 39 C_expand_examine := by
  have hG : ConsOk Try.prog (mkG [(38, C_expand_demand), (55, fun l => C_expand_rising (nrmA [.sl .int] l)), (56, C_expand_reach), (57, C_expand_index), (58, fun l => C_expand_right (nrmA [.st .district, .st .right] l))] []) := mkG_ok (by
    intro x hx
    simp only [List.mem_cons, List.not_mem_nil, or_false] at hx
    rcases hx with rfl | rfl | rfl | rfl | rfl
    · exact ok_expand_demand
    · exact ok_expand_rising.norm [.sl .int]
    · exact ok_expand_reach
    · exact ok_expand_index
    · exact ok_expand_right.norm [.st .district, .st .right]) (by simp)
  refine fn_okN [] mixed ts_ok hG (fn := Try.f39) (c := bodyOf Try.f39) (by kernel_rfl) (by kernel_rfl) (by kernel_rfl) (by kernel_rfl) fun l con h hp => ?_
  unfold C_expand_examine at h
  obtain ⟨a0, l0, rfl, h0⟩ := pD_inv h
  obtain ⟨a1, l1, rfl, h1⟩ := pI_inv h0
  obtain ⟨rfl, rfl⟩ := pE_inv h1
  clear h h0 h1
  dsimp only [conPre] at hp
  refine ⟨Nat.le_of_ble_eq_true rfl, (fun id st => bif Nat.beq id 0 then some (LC (ρ := Unit) (σ := Unit) (lk 1 st.t = .v (.int .i64 a1) ∧ lk 2 st.t = .ptr 0 0 ∧ lk 38 st.t = .rs .reach a0.reaches ∧ lk 39 st.t = .v (.int .i64 (a0.reaches.length : Int)) ∧ lk 40 st.t = .v (.int .i64 0) ∧ st.h = [.cells [.v (.string a0.name), .v (.int .i64 a0.hours), .v (.int .i64 a0.tank.cap), .v (.int .i64 a0.tank.start), .rs .reach a0.reaches, .rs .farm a0.farms, .rs .crop a0.crops, .rs .right a0.rights, .rs .duty a0.duties, .rs .well a0.wells]] ∧ a0.reaches.length ≤ maxL) (runI (expand_examine_l0 a0 a1) a0.reaches.length 0 ()) (fun _ => .pan (.iface 113 (.int .i64 a1))) (fun x_0_0 => ⟨[], [.dead]⟩) (fun s_0 => ⟨[(1, .v (.int .i64 a1)), (2, .ptr 0 0)], [.cells [.v (.string a0.name), .v (.int .i64 a0.hours), .v (.int .i64 a0.tank.cap), .v (.int .i64 a0.tank.start), .rs .reach a0.reaches, .rs .farm a0.farms, .rs .crop a0.crops, .rs .right a0.rights, .rs .duty a0.duties, .rs .well a0.wells]]⟩)) else bif Nat.beq id 2 then some (LC (ρ := Unit) (σ := Unit) (lk 1 st.t = .v (.int .i64 a1) ∧ lk 2 st.t = .ptr 0 0 ∧ lk 52 st.t = .rs .crop a0.crops ∧ lk 53 st.t = .v (.int .i64 (a0.crops.length : Int)) ∧ lk 54 st.t = .v (.int .i64 0) ∧ st.h = [.cells [.v (.string a0.name), .v (.int .i64 a0.hours), .v (.int .i64 a0.tank.cap), .v (.int .i64 a0.tank.start), .rs .reach a0.reaches, .rs .farm a0.farms, .rs .crop a0.crops, .rs .right a0.rights, .rs .duty a0.duties, .rs .well a0.wells]] ∧ a0.crops.length ≤ maxL) (runI (expand_examine_l1 a0 a1) a0.crops.length 0 ()) (fun _ => .pan (.iface 113 (.int .i64 a1))) (fun x_1_0 => ⟨[], [.dead]⟩) (fun s_1 => ⟨[(1, .v (.int .i64 a1)), (2, .ptr 0 0)], [.cells [.v (.string a0.name), .v (.int .i64 a0.hours), .v (.int .i64 a0.tank.cap), .v (.int .i64 a0.tank.start), .rs .reach a0.reaches, .rs .farm a0.farms, .rs .crop a0.crops, .rs .right a0.rights, .rs .duty a0.duties, .rs .well a0.wells]]⟩)) else bif Nat.beq id 4 then some (LC (ρ := Unit) (σ := Unit) (lk 1 st.t = .v (.int .i64 a1) ∧ lk 2 st.t = .ptr 0 0 ∧ lk 66 st.t = .rs .farm a0.farms ∧ lk 67 st.t = .v (.int .i64 (a0.farms.length : Int)) ∧ lk 68 st.t = .v (.int .i64 0) ∧ st.h = [.cells [.v (.string a0.name), .v (.int .i64 a0.hours), .v (.int .i64 a0.tank.cap), .v (.int .i64 a0.tank.start), .rs .reach a0.reaches, .rs .farm a0.farms, .rs .crop a0.crops, .rs .right a0.rights, .rs .duty a0.duties, .rs .well a0.wells]] ∧ a0.farms.length ≤ maxL) (runI (expand_examine_l2 a0 a1) a0.farms.length 0 ()) (fun _ => .pan (.iface 113 (.int .i64 a1))) (fun x_2_0 => ⟨[], [.dead]⟩) (fun s_2 => ⟨[(1, .v (.int .i64 a1)), (2, .ptr 0 0)], [.cells [.v (.string a0.name), .v (.int .i64 a0.hours), .v (.int .i64 a0.tank.cap), .v (.int .i64 a0.tank.start), .rs .reach a0.reaches, .rs .farm a0.farms, .rs .crop a0.crops, .rs .right a0.rights, .rs .duty a0.duties, .rs .well a0.wells]]⟩)) else bif Nat.beq id 6 then some (LC (ρ := Unit) (σ := Unit) (lk 1 st.t = .v (.int .i64 a1) ∧ lk 2 st.t = .ptr 0 0 ∧ lk 103 st.t = .rs .right a0.rights ∧ lk 104 st.t = .v (.int .i64 (a0.rights.length : Int)) ∧ lk 105 st.t = .v (.int .i64 0) ∧ st.h = [.cells [.v (.string a0.name), .v (.int .i64 a0.hours), .v (.int .i64 a0.tank.cap), .v (.int .i64 a0.tank.start), .rs .reach a0.reaches, .rs .farm a0.farms, .rs .crop a0.crops, .rs .right a0.rights, .rs .duty a0.duties, .rs .well a0.wells]] ∧ a0.rights.length ≤ maxL) (runI (expand_examine_l3 a0 a1) a0.rights.length 0 ()) (fun _ => .pan (.iface 113 (.int .i64 a1))) (fun x_3_0 => ⟨[], [.dead]⟩) (fun s_3 => ⟨[(1, .v (.int .i64 a1)), (2, .ptr 0 0)], [.cells [.v (.string a0.name), .v (.int .i64 a0.hours), .v (.int .i64 a0.tank.cap), .v (.int .i64 a0.tank.start), .rs .reach a0.reaches, .rs .farm a0.farms, .rs .crop a0.crops, .rs .right a0.rights, .rs .duty a0.duties, .rs .well a0.wells]]⟩)) else bif Nat.beq id 8 then some (LC (ρ := Unit) (σ := Unit) (lk 1 st.t = .v (.int .i64 a1) ∧ lk 2 st.t = .ptr 0 0 ∧ lk 116 st.t = .rs .duty a0.duties ∧ lk 117 st.t = .v (.int .i64 (a0.duties.length : Int)) ∧ lk 118 st.t = .v (.int .i64 0) ∧ st.h = [.cells [.v (.string a0.name), .v (.int .i64 a0.hours), .v (.int .i64 a0.tank.cap), .v (.int .i64 a0.tank.start), .rs .reach a0.reaches, .rs .farm a0.farms, .rs .crop a0.crops, .rs .right a0.rights, .rs .duty a0.duties, .rs .well a0.wells]] ∧ a0.duties.length ≤ maxL) (runI (expand_examine_l4 a0 a1) a0.duties.length 0 ()) (fun _ => .pan (.iface 113 (.int .i64 a1))) (fun x_4_0 => ⟨[], [.dead]⟩) (fun s_4 => ⟨[], [.dead]⟩)) else none), ?_, ?_⟩
  · unfold bodyOf Try.f39
    simp only [loopsOk, true_and, and_true]
    refine ⟨?_, ?_, ?_, ?_, ?_⟩
    · refine count_okP mixed ts_ok hG (by kernel_rfl) fun st lc hC hp => ?_
      simp only [go_sem, Nat.reduceBEq, Option.some.injEq] at hC
      subst hC
      obtain ⟨t, h⟩ := st
      dsimp only [LC] at hp
      obtain ⟨e0_0, e0_1, e0_2, e0_3, e0_4, rfl, hb0⟩ := hp
      refine ⟨_, _, _, (expand_examine_l0 a0 a1), (expand_examine_l0_p a0 a1), a0.reaches.length, (), _, _, _, (fun k_0 s_0 => ⟨[(1, .v (.int .i64 a1)), (2, .ptr 0 0), (38, .rs .reach a0.reaches), (39, .v (.int .i64 (a0.reaches.length : Int))), (40, .v (.int .i64 (k_0 : Int)))], [.cells [.v (.string a0.name), .v (.int .i64 a0.hours), .v (.int .i64 a0.tank.cap), .v (.int .i64 a0.tank.start), .rs .reach a0.reaches, .rs .farm a0.farms, .rs .crop a0.crops, .rs .right a0.rights, .rs .duty a0.duties, .rs .well a0.wells]]⟩), [0], rfl, okI_all _ _ _ fun _ _ _ _ => trivial, Nat.le_refl _, ?_, fun k_0 s_0 hk0 hp0 => ?_⟩
      · simp only [go_sem, true_imp_iff, false_imp_iff, Bool.false_eq_true, Int.toNat_natCast, Int.toNat_zero, Nat.reduceBEq, Nat.reduceLeDiff, Nat.reduceAdd, Nat.reduceSub, Nat.reduceMul, Int.reduceLE, Int.reduceLT, Int.reduceToNat, Int.reduceNeg, true_and, and_true, and_self, implies_true, forall_const, reduceCtorEq, e0_0, e0_1, e0_2, e0_3, e0_4]
        all_goals (first | done | decide | (repeat' (first | refine And.intro ?_ ?_ | rfl | decide)))
      refine ⟨(fun id st => none), ?_, ?_⟩
      · simp only [loopsOk, and_self, true_and, and_true]
      · by_cases hlt0 : k_0 < a0.reaches.length
        · have hw0 := wrapS hlt0 hb0
          have hq0 := hp0 hlt0
          unfold expand_examine_l0_p at hq0
          try simp only [hw0, Int.toNat_natCast] at hq0
          have hc0 : decide ((k_0 : Int) < (a0.reaches.length : Int)) = true := by simp only [decide_eq_true_eq]; omega
          simp only [go_sem, true_imp_iff, false_imp_iff, Bool.false_eq_true, Int.toNat_natCast, Int.toNat_zero, Nat.reduceBEq, Nat.reduceLeDiff, Nat.reduceAdd, Nat.reduceSub, Nat.reduceMul, Int.reduceLE, Int.reduceLT, Int.reduceToNat, Int.reduceNeg, true_and, and_true, and_self, implies_true, forall_const, reduceCtorEq, C_expand_demand, C_expand_rising, C_expand_reach, C_expand_index, C_expand_right, expand_examine_l0, hc0, hw0]
          all_goals exact cl
        · have hc0 : decide ((k_0 : Int) < (a0.reaches.length : Int)) = false := by simp only [decide_eq_false_iff_not]; omega
          simp only [go_sem, true_imp_iff, false_imp_iff, Bool.false_eq_true, Int.toNat_natCast, Int.toNat_zero, Nat.reduceBEq, Nat.reduceLeDiff, Nat.reduceAdd, Nat.reduceSub, Nat.reduceMul, Int.reduceLE, Int.reduceLT, Int.reduceToNat, Int.reduceNeg, true_and, and_true, and_self, implies_true, forall_const, reduceCtorEq, C_expand_demand, C_expand_rising, C_expand_reach, C_expand_index, C_expand_right, hc0]
          all_goals exact cl2
    · refine count_okP mixed ts_ok hG (by kernel_rfl) fun st lc hC hp => ?_
      simp only [go_sem, Nat.reduceBEq, Option.some.injEq] at hC
      subst hC
      obtain ⟨t, h⟩ := st
      dsimp only [LC] at hp
      obtain ⟨e1_0, e1_1, e1_2, e1_3, e1_4, rfl, hb1⟩ := hp
      refine ⟨_, _, _, (expand_examine_l1 a0 a1), (expand_examine_l1_p a0 a1), a0.crops.length, (), _, _, _, (fun k_1 s_1 => ⟨[(1, .v (.int .i64 a1)), (2, .ptr 0 0), (52, .rs .crop a0.crops), (53, .v (.int .i64 (a0.crops.length : Int))), (54, .v (.int .i64 (k_1 : Int)))], [.cells [.v (.string a0.name), .v (.int .i64 a0.hours), .v (.int .i64 a0.tank.cap), .v (.int .i64 a0.tank.start), .rs .reach a0.reaches, .rs .farm a0.farms, .rs .crop a0.crops, .rs .right a0.rights, .rs .duty a0.duties, .rs .well a0.wells]]⟩), [0], rfl, okI_all _ _ _ fun _ _ _ _ => trivial, Nat.le_refl _, ?_, fun k_1 s_1 hk1 hp1 => ?_⟩
      · simp only [go_sem, true_imp_iff, false_imp_iff, Bool.false_eq_true, Int.toNat_natCast, Int.toNat_zero, Nat.reduceBEq, Nat.reduceLeDiff, Nat.reduceAdd, Nat.reduceSub, Nat.reduceMul, Int.reduceLE, Int.reduceLT, Int.reduceToNat, Int.reduceNeg, true_and, and_true, and_self, implies_true, forall_const, reduceCtorEq, e1_0, e1_1, e1_2, e1_3, e1_4]
        all_goals (first | done | decide | (repeat' (first | refine And.intro ?_ ?_ | rfl | decide)))
      refine ⟨(fun id st => none), ?_, ?_⟩
      · simp only [loopsOk, and_self, true_and, and_true]
      · by_cases hlt1 : k_1 < a0.crops.length
        · have hw1 := wrapS hlt1 hb1
          have hq1 := hp1 hlt1
          unfold expand_examine_l1_p at hq1
          try simp only [hw1, Int.toNat_natCast] at hq1
          have hc1 : decide ((k_1 : Int) < (a0.crops.length : Int)) = true := by simp only [decide_eq_true_eq]; omega
          simp only [go_sem, true_imp_iff, false_imp_iff, Bool.false_eq_true, Int.toNat_natCast, Int.toNat_zero, Nat.reduceBEq, Nat.reduceLeDiff, Nat.reduceAdd, Nat.reduceSub, Nat.reduceMul, Int.reduceLE, Int.reduceLT, Int.reduceToNat, Int.reduceNeg, true_and, and_true, and_self, implies_true, forall_const, reduceCtorEq, C_expand_demand, C_expand_rising, C_expand_reach, C_expand_index, C_expand_right, expand_examine_l1, hc1, hw1]
          all_goals exact cl
        · have hc1 : decide ((k_1 : Int) < (a0.crops.length : Int)) = false := by simp only [decide_eq_false_iff_not]; omega
          simp only [go_sem, true_imp_iff, false_imp_iff, Bool.false_eq_true, Int.toNat_natCast, Int.toNat_zero, Nat.reduceBEq, Nat.reduceLeDiff, Nat.reduceAdd, Nat.reduceSub, Nat.reduceMul, Int.reduceLE, Int.reduceLT, Int.reduceToNat, Int.reduceNeg, true_and, and_true, and_self, implies_true, forall_const, reduceCtorEq, C_expand_demand, C_expand_rising, C_expand_reach, C_expand_index, C_expand_right, hc1]
          all_goals exact cl2
    · refine count_okP mixed ts_ok hG (by kernel_rfl) fun st lc hC hp => ?_
      simp only [go_sem, Nat.reduceBEq, Option.some.injEq] at hC
      subst hC
      obtain ⟨t, h⟩ := st
      dsimp only [LC] at hp
      obtain ⟨e2_0, e2_1, e2_2, e2_3, e2_4, rfl, hb2⟩ := hp
      refine ⟨_, _, _, (expand_examine_l2 a0 a1), (expand_examine_l2_p a0 a1), a0.farms.length, (), _, _, _, (fun k_2 s_2 => ⟨[(1, .v (.int .i64 a1)), (2, .ptr 0 0), (66, .rs .farm a0.farms), (67, .v (.int .i64 (a0.farms.length : Int))), (68, .v (.int .i64 (k_2 : Int)))], [.cells [.v (.string a0.name), .v (.int .i64 a0.hours), .v (.int .i64 a0.tank.cap), .v (.int .i64 a0.tank.start), .rs .reach a0.reaches, .rs .farm a0.farms, .rs .crop a0.crops, .rs .right a0.rights, .rs .duty a0.duties, .rs .well a0.wells]]⟩), [0], rfl, okI_all _ _ _ fun _ _ _ _ => trivial, Nat.le_refl _, ?_, fun k_2 s_2 hk2 hp2 => ?_⟩
      · simp only [go_sem, true_imp_iff, false_imp_iff, Bool.false_eq_true, Int.toNat_natCast, Int.toNat_zero, Nat.reduceBEq, Nat.reduceLeDiff, Nat.reduceAdd, Nat.reduceSub, Nat.reduceMul, Int.reduceLE, Int.reduceLT, Int.reduceToNat, Int.reduceNeg, true_and, and_true, and_self, implies_true, forall_const, reduceCtorEq, e2_0, e2_1, e2_2, e2_3, e2_4]
        all_goals (first | done | decide | (repeat' (first | refine And.intro ?_ ?_ | rfl | decide)))
      refine ⟨(fun id st => none), ?_, ?_⟩
      · simp only [loopsOk, and_self, true_and, and_true]
      · by_cases hlt2 : k_2 < a0.farms.length
        · have hw2 := wrapS hlt2 hb2
          have hq2 := hp2 hlt2
          unfold expand_examine_l2_p at hq2
          try simp only [hw2, Int.toNat_natCast] at hq2
          have hc2 : decide ((k_2 : Int) < (a0.farms.length : Int)) = true := by simp only [decide_eq_true_eq]; omega
          simp only [go_sem, true_imp_iff, false_imp_iff, Bool.false_eq_true, Int.toNat_natCast, Int.toNat_zero, Nat.reduceBEq, Nat.reduceLeDiff, Nat.reduceAdd, Nat.reduceSub, Nat.reduceMul, Int.reduceLE, Int.reduceLT, Int.reduceToNat, Int.reduceNeg, true_and, and_true, and_self, implies_true, forall_const, reduceCtorEq, C_expand_demand, C_expand_rising, C_expand_reach, C_expand_index, C_expand_right, expand_examine_l2, hc2, hw2]
          all_goals exact cl
        · have hc2 : decide ((k_2 : Int) < (a0.farms.length : Int)) = false := by simp only [decide_eq_false_iff_not]; omega
          simp only [go_sem, true_imp_iff, false_imp_iff, Bool.false_eq_true, Int.toNat_natCast, Int.toNat_zero, Nat.reduceBEq, Nat.reduceLeDiff, Nat.reduceAdd, Nat.reduceSub, Nat.reduceMul, Int.reduceLE, Int.reduceLT, Int.reduceToNat, Int.reduceNeg, true_and, and_true, and_self, implies_true, forall_const, reduceCtorEq, C_expand_demand, C_expand_rising, C_expand_reach, C_expand_index, C_expand_right, hc2]
          all_goals exact cl2
    · refine count_okP mixed ts_ok hG (by kernel_rfl) fun st lc hC hp => ?_
      simp only [go_sem, Nat.reduceBEq, Option.some.injEq] at hC
      subst hC
      obtain ⟨t, h⟩ := st
      dsimp only [LC] at hp
      obtain ⟨e3_0, e3_1, e3_2, e3_3, e3_4, rfl, hb3⟩ := hp
      refine ⟨_, _, _, (expand_examine_l3 a0 a1), (expand_examine_l3_p a0 a1), a0.rights.length, (), _, _, _, (fun k_3 s_3 => ⟨[(1, .v (.int .i64 a1)), (2, .ptr 0 0), (103, .rs .right a0.rights), (104, .v (.int .i64 (a0.rights.length : Int))), (105, .v (.int .i64 (k_3 : Int)))], [.cells [.v (.string a0.name), .v (.int .i64 a0.hours), .v (.int .i64 a0.tank.cap), .v (.int .i64 a0.tank.start), .rs .reach a0.reaches, .rs .farm a0.farms, .rs .crop a0.crops, .rs .right a0.rights, .rs .duty a0.duties, .rs .well a0.wells]]⟩), [0], rfl, okI_all _ _ _ fun _ _ _ _ => trivial, Nat.le_refl _, ?_, fun k_3 s_3 hk3 hp3 => ?_⟩
      · simp only [go_sem, true_imp_iff, false_imp_iff, Bool.false_eq_true, Int.toNat_natCast, Int.toNat_zero, Nat.reduceBEq, Nat.reduceLeDiff, Nat.reduceAdd, Nat.reduceSub, Nat.reduceMul, Int.reduceLE, Int.reduceLT, Int.reduceToNat, Int.reduceNeg, true_and, and_true, and_self, implies_true, forall_const, reduceCtorEq, e3_0, e3_1, e3_2, e3_3, e3_4]
        all_goals (first | done | decide | (repeat' (first | refine And.intro ?_ ?_ | rfl | decide)))
      refine ⟨(fun id st => none), ?_, ?_⟩
      · simp only [loopsOk, and_self, true_and, and_true]
      · by_cases hlt3 : k_3 < a0.rights.length
        · have hw3 := wrapS hlt3 hb3
          have hq3 := hp3 hlt3
          unfold expand_examine_l3_p at hq3
          try simp only [hw3, Int.toNat_natCast] at hq3
          have hc3 : decide ((k_3 : Int) < (a0.rights.length : Int)) = true := by simp only [decide_eq_true_eq]; omega
          simp only [go_sem, true_imp_iff, false_imp_iff, Bool.false_eq_true, Int.toNat_natCast, Int.toNat_zero, Nat.reduceBEq, Nat.reduceLeDiff, Nat.reduceAdd, Nat.reduceSub, Nat.reduceMul, Int.reduceLE, Int.reduceLT, Int.reduceToNat, Int.reduceNeg, true_and, and_true, and_self, implies_true, forall_const, reduceCtorEq, C_expand_demand, C_expand_rising, C_expand_reach, C_expand_index, C_expand_right, expand_examine_l3, hc3, hw3]
          all_goals exact cl
        · have hc3 : decide ((k_3 : Int) < (a0.rights.length : Int)) = false := by simp only [decide_eq_false_iff_not]; omega
          simp only [go_sem, true_imp_iff, false_imp_iff, Bool.false_eq_true, Int.toNat_natCast, Int.toNat_zero, Nat.reduceBEq, Nat.reduceLeDiff, Nat.reduceAdd, Nat.reduceSub, Nat.reduceMul, Int.reduceLE, Int.reduceLT, Int.reduceToNat, Int.reduceNeg, true_and, and_true, and_self, implies_true, forall_const, reduceCtorEq, C_expand_demand, C_expand_rising, C_expand_reach, C_expand_index, C_expand_right, hc3]
          all_goals exact cl2
    · refine count_okP mixed ts_ok hG (by kernel_rfl) fun st lc hC hp => ?_
      simp only [go_sem, Nat.reduceBEq, Option.some.injEq] at hC
      subst hC
      obtain ⟨t, h⟩ := st
      dsimp only [LC] at hp
      obtain ⟨e4_0, e4_1, e4_2, e4_3, e4_4, rfl, hb4⟩ := hp
      refine ⟨_, _, _, (expand_examine_l4 a0 a1), (expand_examine_l4_p a0 a1), a0.duties.length, (), _, _, _, (fun k_4 s_4 => ⟨[(1, .v (.int .i64 a1)), (2, .ptr 0 0), (116, .rs .duty a0.duties), (117, .v (.int .i64 (a0.duties.length : Int))), (118, .v (.int .i64 (k_4 : Int)))], [.cells [.v (.string a0.name), .v (.int .i64 a0.hours), .v (.int .i64 a0.tank.cap), .v (.int .i64 a0.tank.start), .rs .reach a0.reaches, .rs .farm a0.farms, .rs .crop a0.crops, .rs .right a0.rights, .rs .duty a0.duties, .rs .well a0.wells]]⟩), [0], rfl, okI_all _ _ _ fun _ _ _ _ => trivial, Nat.le_refl _, ?_, fun k_4 s_4 hk4 hp4 => ?_⟩
      · simp only [go_sem, true_imp_iff, false_imp_iff, Bool.false_eq_true, Int.toNat_natCast, Int.toNat_zero, Nat.reduceBEq, Nat.reduceLeDiff, Nat.reduceAdd, Nat.reduceSub, Nat.reduceMul, Int.reduceLE, Int.reduceLT, Int.reduceToNat, Int.reduceNeg, true_and, and_true, and_self, implies_true, forall_const, reduceCtorEq, e4_0, e4_1, e4_2, e4_3, e4_4]
        all_goals (first | done | decide | (repeat' (first | refine And.intro ?_ ?_ | rfl | decide)))
      refine ⟨(fun id st => none), ?_, ?_⟩
      · simp only [loopsOk, and_self, true_and, and_true]
      · by_cases hlt4 : k_4 < a0.duties.length
        · have hw4 := wrapS hlt4 hb4
          have hq4 := hp4 hlt4
          unfold expand_examine_l4_p at hq4
          try simp only [hw4, Int.toNat_natCast] at hq4
          have hc4 : decide ((k_4 : Int) < (a0.duties.length : Int)) = true := by simp only [decide_eq_true_eq]; omega
          simp only [go_sem, true_imp_iff, false_imp_iff, Bool.false_eq_true, Int.toNat_natCast, Int.toNat_zero, Nat.reduceBEq, Nat.reduceLeDiff, Nat.reduceAdd, Nat.reduceSub, Nat.reduceMul, Int.reduceLE, Int.reduceLT, Int.reduceToNat, Int.reduceNeg, true_and, and_true, and_self, implies_true, forall_const, reduceCtorEq, C_expand_demand, C_expand_rising, C_expand_reach, C_expand_index, C_expand_right, expand_examine_l4, hc4, hw4]
          all_goals exact cl
        · have hc4 : decide ((k_4 : Int) < (a0.duties.length : Int)) = false := by simp only [decide_eq_false_iff_not]; omega
          simp only [go_sem, true_imp_iff, false_imp_iff, Bool.false_eq_true, Int.toNat_natCast, Int.toNat_zero, Nat.reduceBEq, Nat.reduceLeDiff, Nat.reduceAdd, Nat.reduceSub, Nat.reduceMul, Int.reduceLE, Int.reduceLT, Int.reduceToNat, Int.reduceNeg, true_and, and_true, and_self, implies_true, forall_const, reduceCtorEq, C_expand_demand, C_expand_rising, C_expand_reach, C_expand_index, C_expand_right, hc4]
          all_goals exact cl2
  · unfold bodyOf Try.f39
    try unfold expand_examine
    try unfold expand_examine_ok
    simp only [go_sem, true_imp_iff, false_imp_iff, Bool.false_eq_true, Int.toNat_natCast, Int.toNat_zero, Nat.reduceBEq, Nat.reduceLeDiff, Nat.reduceAdd, Nat.reduceSub, Nat.reduceMul, Int.reduceLE, Int.reduceLT, Int.reduceToNat, Int.reduceNeg, true_and, and_true, and_self, implies_true, forall_const, reduceCtorEq, C_expand_demand, C_expand_rising, C_expand_reach, C_expand_index, C_expand_right]
    all_goals exact cl
def expand_Check (d : District) : Int := (bif (expand_demand_ok (((((decide ((d.reaches.length : Int) ≤ 64)) && (decide ((d.farms.length : Int) ≤ 600))) && (decide ((d.crops.length : Int) ≤ 32))) && (decide ((d.rights.length : Int) ≤ 256))) && (decide ((d.duties.length : Int) ≤ 256))) 2) then (bif (expand_examine_ok d 191) then 0 else 191) else 2)
def C_expand_Check : List SV → Option Con := (pD .district fun d => pE (.det True (.v (.int .i64 (expand_Check d)))))
theorem ok_expand_Check : FnOk Try.prog 20 C_expand_Check := by
  have hG : ConsOk Try.prog (mkG [(38, C_expand_demand), (39, fun l => C_expand_examine (nrmA [.st .district, .o] l))] []) := mkG_ok (by
    intro x hx
    simp only [List.mem_cons, List.not_mem_nil, or_false] at hx
    rcases hx with rfl | rfl
    · exact ok_expand_demand
    · exact ok_expand_examine.norm [.st .district, .o]) (by simp)
  refine fn_rec rec36_ok [.o] mixed ts_ok hG (fn := Try.f20) (c0 := seqL (bodyOf Try.f20)) (c1 := seqR (seqR (bodyOf Try.f20))) (i1 := regI (seqL (seqR (bodyOf Try.f20)))) (o1 := regO 0 (seqL (seqR (bodyOf Try.f20)))) (o2 := regO 1 (seqL (seqR (bodyOf Try.f20)))) (t3 := 3) (q := 2) (tys := #[]) (by kernel_rfl) (by kernel_rfl) (by kernel_rfl) (by refine ⟨?_, ?_, ?_⟩ <;> kernel_rfl) (by refine ⟨?_, ?_, ?_⟩ <;> kernel_rfl) (Nat.le_of_ble_eq_true rfl) (by kernel_rfl) (by kernel_rfl) fun l con h hp => ?_
  unfold C_expand_Check at h
  obtain ⟨d, l0, rfl, h0⟩ := pD_inv h
  obtain ⟨rfl, rfl⟩ := pE_inv h0
  clear h h0
  dsimp only [conPre] at hp
  refine ⟨Nat.le_of_ble_eq_true rfl, L0, (fun id st => none), 1, ?_, ?_, ?_⟩
  · unfold bodyOf Try.f20
    simp only [seqL, loopsOk, and_self, true_and, and_true]
  · unfold bodyOf Try.f20
    simp only [seqR]
    simp only [loopsOk, and_self, true_and, and_true]
  · unfold bodyOf Try.f20
    try unfold expand_Check
    simp only [go_sem, true_imp_iff, false_imp_iff, Bool.false_eq_true, Int.toNat_natCast, Int.toNat_zero, Nat.reduceBEq, Nat.reduceLeDiff, Nat.reduceAdd, Nat.reduceSub, Nat.reduceMul, Int.reduceLE, Int.reduceLT, Int.reduceToNat, Int.reduceNeg, true_and, and_true, and_self, implies_true, forall_const, reduceCtorEq, C_expand_demand, C_expand_examine, seqL, seqR, RC36]
    all_goals exact cl
def routing_compare_1 (x : Order) : Int := x.hour
def C_routing_compare_1 : List SV → Option Con := (pD .order fun x => pE (.det True (.v (.int .i64 (routing_compare_1 x)))))
theorem ok_routing_compare_1 : FnOk Try.prog 76 C_routing_compare_1 := by
  have hG : ConsOk Try.prog (mkG [] []) := mkG_ok (by simp) (by simp)
  refine fn_okN [.o] mixed ts_ok hG (fn := Try.f76) (c := bodyOf Try.f76) (by kernel_rfl) (by kernel_rfl) (by kernel_rfl) (by kernel_rfl) fun l con h hp => ?_
  unfold C_routing_compare_1 at h
  obtain ⟨x, l0, rfl, h0⟩ := pD_inv h
  obtain ⟨rfl, rfl⟩ := pE_inv h0
  clear h h0
  dsimp only [conPre] at hp
  refine ⟨Nat.le_of_ble_eq_true rfl, (fun id st => none), ?_, ?_⟩
  · unfold bodyOf Try.f76
    simp only [loopsOk, and_self, true_and, and_true]
  · unfold bodyOf Try.f76
    try unfold routing_compare_1
    simp only [go_sem, true_imp_iff, false_imp_iff, Bool.false_eq_true, Int.toNat_natCast, Int.toNat_zero, Nat.reduceBEq, Nat.reduceLeDiff, Nat.reduceAdd, Nat.reduceSub, Nat.reduceMul, Int.reduceLE, Int.reduceLT, Int.reduceToNat, Int.reduceNeg, true_and, and_true, and_self, implies_true, forall_const, reduceCtorEq]
    all_goals exact cl
def routing_outlet (x : Order) : Int := (bif x.outlet then 1 else 0)
def C_routing_outlet : List SV → Option Con := (pD .order fun x => pE (.det True (.v (.int .i64 (routing_outlet x)))))
theorem ok_routing_outlet : FnOk Try.prog 77 C_routing_outlet := by
  have hG : ConsOk Try.prog (mkG [] []) := mkG_ok (by simp) (by simp)
  refine fn_okN [.o] mixed ts_ok hG (fn := Try.f77) (c := bodyOf Try.f77) (by kernel_rfl) (by kernel_rfl) (by kernel_rfl) (by kernel_rfl) fun l con h hp => ?_
  unfold C_routing_outlet at h
  obtain ⟨x, l0, rfl, h0⟩ := pD_inv h
  obtain ⟨rfl, rfl⟩ := pE_inv h0
  clear h h0
  dsimp only [conPre] at hp
  refine ⟨Nat.le_of_ble_eq_true rfl, (fun id st => none), ?_, ?_⟩
  · unfold bodyOf Try.f77
    simp only [loopsOk, and_self, true_and, and_true]
  · unfold bodyOf Try.f77
    try unfold routing_outlet
    simp only [go_sem, true_imp_iff, false_imp_iff, Bool.false_eq_true, Int.toNat_natCast, Int.toNat_zero, Nat.reduceBEq, Nat.reduceLeDiff, Nat.reduceAdd, Nat.reduceSub, Nat.reduceMul, Int.reduceLE, Int.reduceLT, Int.reduceToNat, Int.reduceNeg, true_and, and_true, and_self, implies_true, forall_const, reduceCtorEq]
    all_goals exact cl
def routing_compare_2 (x : Order) : Int := x.index
def C_routing_compare_2 : List SV → Option Con := (pD .order fun x => pE (.det True (.v (.int .i64 (routing_compare_2 x)))))
theorem ok_routing_compare_2 : FnOk Try.prog 78 C_routing_compare_2 := by
  have hG : ConsOk Try.prog (mkG [] []) := mkG_ok (by simp) (by simp)
  refine fn_okN [.o] mixed ts_ok hG (fn := Try.f78) (c := bodyOf Try.f78) (by kernel_rfl) (by kernel_rfl) (by kernel_rfl) (by kernel_rfl) fun l con h hp => ?_
  unfold C_routing_compare_2 at h
  obtain ⟨x, l0, rfl, h0⟩ := pD_inv h
  obtain ⟨rfl, rfl⟩ := pE_inv h0
  clear h h0
  dsimp only [conPre] at hp
  refine ⟨Nat.le_of_ble_eq_true rfl, (fun id st => none), ?_, ?_⟩
  · unfold bodyOf Try.f78
    simp only [loopsOk, and_self, true_and, and_true]
  · unfold bodyOf Try.f78
    try unfold routing_compare_2
    simp only [go_sem, true_imp_iff, false_imp_iff, Bool.false_eq_true, Int.toNat_natCast, Int.toNat_zero, Nat.reduceBEq, Nat.reduceLeDiff, Nat.reduceAdd, Nat.reduceSub, Nat.reduceMul, Int.reduceLE, Int.reduceLT, Int.reduceToNat, Int.reduceNeg, true_and, and_true, and_self, implies_true, forall_const, reduceCtorEq]
    all_goals exact cl
end Go.Sx
end
section
namespace Go.Sx
open Go.Proofs
set_option maxRecDepth 100000
set_option linter.unusedSimpArgs false
abbrev keyFns : SV := .ls [.fn 76 [] [], .fn 77 [] [], .fn 78 [] []]
open Classical in
noncomputable def C_routing_by : List SV → Option Con := fun l => if l = [keyFns] then some (.det True (.fn 85 [] [.ep [keyFns] 0])) else none
theorem ok_routing_by : FnOk Try.prog 75 C_routing_by := by
  have hG : ConsOk Try.prog (mkG [] []) := mkG_ok (by simp) (by simp)
  refine fn_okN [.o] mixed ts_ok hG (fn := Try.f75) (c := bodyOf Try.f75) (by kernel_rfl) (by kernel_rfl) (by kernel_rfl) (by kernel_rfl) fun l con h hp => ?_
  unfold C_routing_by at h
  split at h
  · rename_i hl
    subst hl
    cases h
    refine ⟨Nat.le_of_ble_eq_true rfl, L0, by unfold bodyOf Try.f75; simp only [loopsOk, and_self], ?_⟩
    unfold bodyOf Try.f75
    simp only [go_sem, keyFns, true_imp_iff, Nat.reduceBEq, Nat.reduceLeDiff, Nat.reduceAdd, Nat.reduceSub, Nat.reduceMul, true_and, and_true, implies_true, List.map_cons, List.map_nil]
    rfl
  · cases h
def C_routing_compare : List SV → Option Con := pE (.det True (.fn 85 [] [.ep [keyFns] 0]))
theorem ok_routing_compare : FnOk Try.prog 59 C_routing_compare := by
  have hG : ConsOk Try.prog (mkG [(75, C_routing_by)] []) := mkG_ok (by
    intro x hx
    simp only [List.mem_cons, List.not_mem_nil, or_false] at hx
    rcases hx with rfl
    exact ok_routing_by) (by simp)
  refine fn_okN [.o] mixed ts_ok hG (fn := Try.f59) (c := bodyOf Try.f59) (by kernel_rfl) (by kernel_rfl) (by kernel_rfl) (by kernel_rfl) fun l con h hp => ?_
  unfold C_routing_compare at h
  obtain ⟨rfl, rfl⟩ := pE_inv h
  refine ⟨Nat.le_of_ble_eq_true rfl, L0, by unfold bodyOf Try.f59; simp only [loopsOk, and_self], ?_⟩
  unfold bodyOf Try.f59
  simp only [go_sem, C_routing_by, keyFns, true_imp_iff, Nat.reduceBEq, Nat.reduceLeDiff, Nat.reduceAdd, Nat.reduceSub, Nat.reduceMul, true_and, and_true, implies_true, List.map_cons, List.map_nil, if_true]
  rfl
def ordKey (k : Nat) (x : Order) : Int := match k with | 0 => routing_compare_1 x | 1 => routing_outlet x | _ => routing_compare_2 x
def ordStep (a b : Order) : Nat → Unit → Int ⊕ Unit := fun k _ => bif (cmp_Compare_int (ordKey k a) (ordKey k b) != 0) then .inl (cmp_Compare_int (ordKey k a) (ordKey k b)) else .inr ()
def routing_by_1 (a b : Order) : Int := match runI (ordStep a b) 3 0 () with | .inl x => x | .inr _ => 0
open Classical in
noncomputable def C_routing_by_1 : List SV → Option Con := pD .order fun a => pD .order fun b => fun l => if l = [.ep [keyFns] 0] then some (.det True (.i (routing_by_1 a b))) else none
set_option maxHeartbeats 1000000 in
theorem ok_routing_by_1 : FnOk Try.prog 85 C_routing_by_1 := by
  have hG : ConsOk Try.prog (mkG [(68, C_cmp_Compare_int), (76, C_routing_compare_1), (77, C_routing_outlet), (78, C_routing_compare_2)] []) := mkG_ok (by
    intro x hx
    simp only [List.mem_cons, List.not_mem_nil, or_false] at hx
    rcases hx with rfl | rfl | rfl | rfl
    · exact ok_cmp_Compare_int
    · exact ok_routing_compare_1
    · exact ok_routing_outlet
    · exact ok_routing_compare_2) (by simp)
  refine fn_okN [.o] mixed ts_ok hG (fn := Try.f85) (c := bodyOf Try.f85) (by kernel_rfl) (by kernel_rfl) (by kernel_rfl) (by kernel_rfl) fun l con h hp => ?_
  unfold C_routing_by_1 at h
  obtain ⟨a, l0, rfl, h0⟩ := pD_inv h
  obtain ⟨b, l1, rfl, h1⟩ := pD_inv h0
  split at h1
  rotate_left
  · cases h1
  rename_i hl
  subst hl
  cases h1
  clear h h0
  obtain ⟨ah, ai, al, ao⟩ := a
  obtain ⟨bh, bi, bl, bo⟩ := b
  refine ⟨Nat.le_of_ble_eq_true rfl, (fun id st => bif Nat.beq id 0 then some (LC (ρ := Int) (σ := Unit) (lk 3 st.t = .ptr 0 0 ∧ lk 4 st.t = .ptr 1 0 ∧ lk 9 st.t = keyFns ∧ lk 10 st.t = .i 3 ∧ lk 11 st.t = .i 0 ∧ st.h = [.cells (cellsOf .order ⟨ah, ai, al, ao⟩), .cells (cellsOf .order ⟨bh, bi, bl, bo⟩)]) (runI (ordStep ⟨ah, ai, al, ao⟩ ⟨bh, bi, bl, bo⟩) 3 0 ()) (fun _ => .ret) (fun x => ⟨[(5, .i x)], [.dead, .dead]⟩) (fun _ => ⟨[], [.dead, .dead]⟩)) else none), ?_, ?_⟩
  · unfold bodyOf Try.f85
    simp only [loopsOk, true_and, and_true]
    refine count_okP mixed ts_ok hG (by kernel_rfl) fun st lc hC hp => ?_
    simp only [go_sem, Nat.reduceBEq, Option.some.injEq] at hC
    subst hC
    obtain ⟨t, h⟩ := st
    dsimp only [LC] at hp
    obtain ⟨e1, e2, e3, e4, e5, rfl⟩ := hp
    refine ⟨_, _, _, ordStep ⟨ah, ai, al, ao⟩ ⟨bh, bi, bl, bo⟩, fun _ _ => True, 3, (), _, _, _, (fun k _ => ⟨[(3, .ptr 0 0), (4, .ptr 1 0), (9, keyFns), (10, .i 3), (11, .i (k : Int))], [.cells (cellsOf .order ⟨ah, ai, al, ao⟩), .cells (cellsOf .order ⟨bh, bi, bl, bo⟩)]⟩), [0, 1], rfl, okI_all _ _ _ fun _ _ _ _ => trivial, Nat.le_refl _, ?_, fun k s hk hpk => ⟨L0, ?_, ?_⟩⟩
    · simp only [go_sem, e1, e2, e3, e4, e5, keyFns, Nat.reduceBEq, Nat.reduceLeDiff, Nat.reduceAdd, true_and, and_true]
      all_goals (first | done | decide | (repeat' (first | refine And.intro ?_ ?_ | rfl | decide)))
    · simp only [loopsOk, and_self, true_and, and_true]
    · have hk4 : k = 0 ∨ k = 1 ∨ k = 2 ∨ k = 3 := by omega
      have hw0 : IntKind.i64.wrap ((0 : Int) + 1) = ((0 + 1 : Nat) : Int) := by decide
      have hw1 : IntKind.i64.wrap ((1 : Int) + 1) = ((1 + 1 : Nat) : Int) := by decide
      have hw2 : IntKind.i64.wrap ((2 : Int) + 1) = ((2 + 1 : Nat) : Int) := by decide
      rcases hk4 with rfl | rfl | rfl | rfl
      all_goals
        simp only [go_sem, C_cmp_Compare_int, C_routing_compare_1, C_routing_outlet, C_routing_compare_2, keyFns, ordStep, ordKey, true_imp_iff, false_imp_iff, Bool.false_eq_true, Int.toNat_natCast, Int.toNat_zero, Nat.reduceBEq, Nat.reduceLeDiff, Nat.reduceAdd, Nat.reduceSub, Nat.reduceMul, Nat.reduceLT, Int.reduceLE, Int.reduceLT, Int.reduceToNat, Int.reduceNeg, true_and, and_true, and_self, implies_true, forall_const, reduceCtorEq, Int.cast_ofNat_Int]
      all_goals (first | done | (repeat' (first | with_reducible refine And.intro ?_ ?_ | ((with_reducible show _ ≠ _); first | assumption | omega | (simp_all; done) | grind) | with_reducible intro _)) <;> (first | done | assumption | rfl | omega | decide | (simp only [*, cond_true, cond_false, go_sem, true_imp_iff, false_imp_iff, Bool.false_eq_true, Int.toNat_natCast, Int.toNat_zero, Nat.reduceBEq, Nat.reduceLeDiff, Nat.reduceAdd, Nat.reduceSub, Nat.reduceMul, Int.reduceLE, Int.reduceLT, Int.reduceToNat, Int.reduceNeg, true_and, and_true, and_self, implies_true, forall_const, reduceCtorEq]; done) | (simp only [*, cond_true, cond_false, go_sem, true_imp_iff, false_imp_iff, Bool.false_eq_true, Int.toNat_natCast, Int.toNat_zero, Nat.reduceBEq, Nat.reduceLeDiff, Nat.reduceAdd, Nat.reduceSub, Nat.reduceMul, Int.reduceLE, Int.reduceLT, Int.reduceToNat, Int.reduceNeg, true_and, and_true, and_self, implies_true, forall_const, reduceCtorEq]; (repeat' (first | with_reducible refine And.intro ?_ ?_ | ((with_reducible show _ ≠ _); first | assumption | omega | (simp_all; done) | grind) | with_reducible intro _)) <;> (first | done | assumption | rfl | omega | decide))))
      all_goals trace_state
  · unfold bodyOf Try.f85
    unfold routing_by_1
    simp only [go_sem, keyFns, true_imp_iff, false_imp_iff, Bool.false_eq_true, Nat.reduceBEq, Nat.reduceLeDiff, Nat.reduceAdd, Nat.reduceSub, Nat.reduceMul, true_and, and_true, implies_true, sz, List.map_cons, List.map_nil]
    all_goals (first | done | (repeat' (first | with_reducible refine And.intro ?_ ?_ | ((with_reducible show _ ≠ _); first | assumption | omega | (simp_all; done) | grind) | with_reducible intro _)) <;> (first | done | assumption | rfl | omega | (simp only [*, cond_true, cond_false, Bool.not_true, Bool.not_false, go_sem, true_imp_iff, false_imp_iff, Bool.false_eq_true, Int.toNat_natCast, Int.toNat_zero, Nat.reduceBEq, Nat.reduceLeDiff, Nat.reduceAdd, Nat.reduceSub, Nat.reduceMul, Int.reduceLE, Int.reduceLT, Int.reduceToNat, Int.reduceNeg, true_and, and_true, and_self, implies_true, forall_const, reduceCtorEq]; done) | (simp only [*, cond_true, cond_false, Bool.not_true, Bool.not_false, go_sem, true_imp_iff, false_imp_iff, Bool.false_eq_true, Int.toNat_natCast, Int.toNat_zero, Nat.reduceBEq, Nat.reduceLeDiff, Nat.reduceAdd, Nat.reduceSub, Nat.reduceMul, Int.reduceLE, Int.reduceLT, Int.reduceToNat, Int.reduceNeg, true_and, and_true, and_self, implies_true, forall_const, reduceCtorEq]; (repeat' (first | with_reducible refine And.intro ?_ ?_ | ((with_reducible show _ ≠ _); first | assumption | omega | (simp_all; done) | grind) | with_reducible intro _)) <;> (first | done | assumption | rfl | omega | (simp_all; done))) | (simp_all [okI]; done) | grind))
end Go.Sx
end
