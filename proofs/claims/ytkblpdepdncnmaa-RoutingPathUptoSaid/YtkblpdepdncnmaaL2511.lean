/- Part of the proof that the law RoutingPath returns true and leaves its arguments as they were, for all arguments of bulk at most 1048576 (the Upto form). -/
import Derived.Test.YtkblpdepdncnmaaL2510
import Derived.Test.YtkblpdepdncnmaaL2507
import Derived.Test.YtkblpdepdncnmaaL2508
import Derived.Test.YtkblpdepdncnmaaL2506
import Derived.Deep.Slices
import Derived.OpenShut
set_option linter.all false
section
namespace Go.Sx
open Go.Proofs Go.Shelf Go.Sort Go.Lib
theorem srt_eq {l m : List Order} (hp : m.Perm l) (hs : m.Pairwise olt) : srt routing_by_1 l = m := by
  have hk : l.Pairwise fun x y => ¬ K x y := pairwise_perm hp.symm (hs.imp fun {_ _} q => olt_ne q)
  exact List.Perm.eq_of_pairwise (fun a b _ _ h1 h2 => absurd h2 (fun h2 => by unfold olt at h1 h2; omega)) (srt_lt hk) hs ((srt_perm l).trans hp.symm)
theorem s_c11 : law22_sane_c11 = (9, true, 0) := by kernel_rfl
theorem s_c10 : law22_sane_c10 = (5, 0) := by kernel_rfl
theorem s_c9 : law22_sane_c9 = (0, 1) := by kernel_rfl
theorem s_c7 : law22_sane_c7 = ([], false, 0) := by kernel_rfl
theorem s_c5 : law22_sane_c5 = ([], false, 220) := by kernel_rfl
theorem s_c6' : law22_sane_c6 = (srt routing_by_1 [({ hour := 3, index := 0, litres := 5, outlet := true } : Order), ({ hour := 2, index := 1, litres := 7, outlet := false } : Order), ({ hour := 1, index := 0, litres := 9, outlet := false } : Order)], true, 0) := by kernel_rfl
theorem s_c6 : law22_sane_c6 = (law22_sane_c13, true, 0) := by
  rw [s_c6', srt_eq (m := law22_sane_c13) (by unfold law22_sane_c13; exact (List.reverse_perm [({ hour := 3, index := 0, litres := 5, outlet := true } : Order), ({ hour := 2, index := 1, litres := 7, outlet := false } : Order), ({ hour := 1, index := 0, litres := 9, outlet := false } : Order)])) (by
    unfold law22_sane_c13
    simp [olt])]
theorem s_c4 : law22_sane_c4 = law22_sane_c13 := by unfold law22_sane_c4; rw [s_c6]
theorem s_c0 : law22_sane_c0 = (true, 0, 0, 0) := by unfold law22_sane_c0; rw [s_c4]; kernel_rfl
theorem s_c1 : law22_sane_c1 = (12, 0) := by kernel_rfl
theorem s_c3 : law22_sane_c3 = (false, 1, 0, 0) := by kernel_rfl
theorem s_c2 : law22_sane_c2 = 0 := by kernel_rfl
theorem sane_t : law22_sane = true := by
  unfold law22_sane
  rw [s_c11, s_c10, s_c9, s_c7, s_c5, s_c6, s_c0, s_c1, s_c3, s_c2, s_c4]
  kernel_rfl
theorem sane_p : law22_sane_p := ⟨needR_p _ _ _, worstR_p _ _ _, plan_p _ _, plan_p _ _, plan_p _ _, worstR_p _ _ _, fits_p _ _, ⟨Nat.le_refl _, by unfold law22_example; simp⟩, load_p _ _ _ _, fits_p _ _, fun _ => routing_pt _ _, fun _ _ => same_p _ _⟩
structure Keeps (d : District) (l : List Order) : Prop where
  good : Good d l
  sip : ∀ x ∈ l, x.outlet = false → (rch d x.index).siphon ≤ x.litres
  kept : Kept d l
end Go.Sx
end
section
namespace Go.Sx
open Go.Proofs Go.Shelf Go.Sort Go.Lib
theorem gates_of {d : District} {l : List Order} (h : Good d l) : SM .acequialaw22Place (fun p => glit l p.reach p.hour) (law22_gates l) := gates_ok h.keys fun x hx => (h.orders.lit x hx).1
end Go.Sx
end
section
namespace Go.Sx
open Go.Proofs Go.Shelf Go.Sort Go.Lib
theorem Nar.keep {d : District} {l m : List Order} (h : Nar d l) (hm : Good d m) : Nar d m := ⟨hm, h.wide⟩
end Go.Sx
end
section
namespace Go.Sx
universe u
section
variable {α : Type u}
def pV (k : Int → List SV → Option α) : List SV → Option α
  | .v (.int .u8 n) :: r => k n r
  | _ => none
@[go_sem] theorem pV_cons {k : Int → List SV → Option α} {n : Int} {r : List SV} : pV k (.v (.int .u8 n) :: r) = k n r := (rfl)
def pW (k : Int → List SV → Option α) : List SV → Option α
  | .v (.int .u16 n) :: r => k n r
  | _ => none
@[go_sem] theorem pW_cons {k : Int → List SV → Option α} {n : Int} {r : List SV} : pW k (.v (.int .u16 n) :: r) = k n r := (rfl)
theorem pW_inv {k : Int → List SV → Option α} {l : List SV} {c : α} (h : pW k l = some c) : ∃ n r, l = .v (.int .u16 n) :: r ∧ k n r = some c := by
  unfold pW at h
  split at h
  · exact ⟨_, _, rfl, h⟩
  · cases h
theorem pW_all {G : List SV → α → Prop} {k : Int → List SV → Option α} (h : ∀ n l c, k n l = some c → G (.v (.int .u16 n) :: l) c) : ∀ l c, pW k l = some c → G l c := fun l c hc => by
  obtain ⟨n, r, rfl, h1⟩ := pW_inv hc; exact h n r c h1
end
end Go.Sx
end
section
namespace Go.Sx
open Go.Proofs
set_option maxRecDepth 100000
set_option linter.unusedSimpArgs false
theorem crSxR8_0 {p : Prop} (h : p := by (first | done | (repeat' (first | with_reducible refine And.intro ?_ ?_ | ((with_reducible show _ ≠ _); first | assumption | omega | (simp_all [outR, outL]; done) | grind) | with_reducible intro _)) <;> (first | done | exact Empty.elim ‹Empty› | assumption | rfl | omega | decide | exact fk [0, 1, 2, 3] | (simp only [*, cond_true, cond_false, Bool.not_true, Bool.not_false, go_sem, Nat.reduceBEq, Nat.reduceLeDiff, Nat.reduceLT, decide_true, Nat.reduceAdd, Nat.reduceSub, Nat.reduceMul, Int.reduceLE, Int.reduceLT, Int.reduceToNat, Int.reduceNeg, reduceCtorEq]; done) | (simp only [*, cond_true, cond_false, Bool.not_true, Bool.not_false, go_sem, Nat.reduceBEq, Nat.reduceLeDiff, Nat.reduceLT, decide_true, Nat.reduceAdd, Nat.reduceSub, Nat.reduceMul, Int.reduceLE, Int.reduceLT, Int.reduceToNat, Int.reduceNeg, reduceCtorEq]; (repeat' (first | with_reducible refine And.intro ?_ ?_ | ((with_reducible show _ ≠ _); first | assumption | omega | (simp_all [outR, outL]; done) | grind) | with_reducible intro _)) <;> (first | done | assumption | rfl | omega | decide | exact fk [0, 1, 2, 3] | (simp_all [outR, outL]; done))) | (simp_all [okI, outR, outL]; done) | (simp_all [outR, outL]; (first | done | exact fk2 [0, 1, 2, 3])) | exact fk2 [0, 1, 2, 3]))) : p := h
theorem crSxR8_1 {p : Prop} (h : p := by (first | done | (repeat' (first | with_reducible refine And.intro ?_ ?_ | ((with_reducible show _ ≠ _); first | assumption | omega | (simp_all [outR, outL]; done) | grind) | with_reducible intro _)) <;> (first | done | exact Empty.elim ‹Empty› | assumption | rfl | omega | decide | exact fk [0, 1] | (simp only [*, cond_true, cond_false, Bool.not_true, Bool.not_false, go_sem, Nat.reduceBEq, Nat.reduceLeDiff, Nat.reduceLT, decide_true, Nat.reduceAdd, Nat.reduceSub, Nat.reduceMul, Int.reduceLE, Int.reduceLT, Int.reduceToNat, Int.reduceNeg, reduceCtorEq]; done) | (simp only [*, cond_true, cond_false, Bool.not_true, Bool.not_false, go_sem, Nat.reduceBEq, Nat.reduceLeDiff, Nat.reduceLT, decide_true, Nat.reduceAdd, Nat.reduceSub, Nat.reduceMul, Int.reduceLE, Int.reduceLT, Int.reduceToNat, Int.reduceNeg, reduceCtorEq]; (repeat' (first | with_reducible refine And.intro ?_ ?_ | ((with_reducible show _ ≠ _); first | assumption | omega | (simp_all [outR, outL]; done) | grind) | with_reducible intro _)) <;> (first | done | assumption | rfl | omega | decide | exact fk [0, 1] | (simp_all [outR, outL]; done))) | (simp_all [okI, outR, outL]; done) | (simp_all [outR, outL]; (first | done | exact fk2 [0, 1])) | exact fk2 [0, 1]))) : p := h
theorem crSxR8_2 {p : Prop} (h : p := by (first | done | (repeat' (first | with_reducible refine And.intro ?_ ?_ | ((with_reducible show _ ≠ _); first | assumption | omega | (simp_all [outR, outL]; done) | grind) | with_reducible intro _)) <;> (first | done | exact Empty.elim ‹Empty› | assumption | rfl | omega | decide | exact fk [0, 1, 2, 3, 4] | (simp only [*, cond_true, cond_false, Bool.not_true, Bool.not_false, go_sem, Nat.reduceBEq, Nat.reduceLeDiff, Nat.reduceLT, decide_true, Nat.reduceAdd, Nat.reduceSub, Nat.reduceMul, Int.reduceLE, Int.reduceLT, Int.reduceToNat, Int.reduceNeg, reduceCtorEq]; done) | (simp only [*, cond_true, cond_false, Bool.not_true, Bool.not_false, go_sem, Nat.reduceBEq, Nat.reduceLeDiff, Nat.reduceLT, decide_true, Nat.reduceAdd, Nat.reduceSub, Nat.reduceMul, Int.reduceLE, Int.reduceLT, Int.reduceToNat, Int.reduceNeg, reduceCtorEq]; (repeat' (first | with_reducible refine And.intro ?_ ?_ | ((with_reducible show _ ≠ _); first | assumption | omega | (simp_all [outR, outL]; done) | grind) | with_reducible intro _)) <;> (first | done | assumption | rfl | omega | decide | exact fk [0, 1, 2, 3, 4] | (simp_all [outR, outL]; done))) | (simp_all [okI, outR, outL]; done) | (simp_all [outR, outL]; (first | done | exact fk2 [0, 1, 2, 3, 4])) | exact fk2 [0, 1, 2, 3, 4]))) : p := h
theorem exSxR8_1 {p : Prop} (h : p := by simp only [go_sem, Nat.reduceBEq, Nat.reduceLeDiff, Nat.reduceLT, decide_true, Nat.reduceAdd, Nat.reduceSub, Nat.reduceMul, Int.reduceLE, Int.reduceLT, Int.reduceToNat, Int.reduceNeg, reduceCtorEq, hc, hw]; all_goals exact crSxR8_1) : p := h
theorem ezSxR8_1 {p : Prop} (h : p := by simp only [go_sem, Nat.reduceBEq, Nat.reduceLeDiff, Nat.reduceLT, decide_true, Nat.reduceAdd, Nat.reduceSub, Nat.reduceMul, Int.reduceLE, Int.reduceLT, Int.reduceToNat, Int.reduceNeg, reduceCtorEq, hc]; all_goals exact crSxR8_1) : p := h
theorem exSxR8_2 {p : Prop} (h : p := by simp only [go_sem, Nat.reduceBEq, Nat.reduceLeDiff, Nat.reduceLT, decide_true, Nat.reduceAdd, Nat.reduceSub, Nat.reduceMul, Int.reduceLE, Int.reduceLT, Int.reduceToNat, Int.reduceNeg, reduceCtorEq, hc, hw]; all_goals exact crSxR8_2) : p := h
theorem ezSxR8_2 {p : Prop} (h : p := by simp only [go_sem, Nat.reduceBEq, Nat.reduceLeDiff, Nat.reduceLT, decide_true, Nat.reduceAdd, Nat.reduceSub, Nat.reduceMul, Int.reduceLE, Int.reduceLT, Int.reduceToNat, Int.reduceNeg, reduceCtorEq, hc]; all_goals exact crSxR8_2) : p := h
@[go_sem] def canals_Delay_l0 (d : District) (reach : Int) (z_0 : Int) (s_0 : Int) : Empty ⊕ Int := .inr (IntKind.i64.wrap (s_0 + (d.reaches.getD (Int.toNat z_0) (default : Reach)).delay))
def canals_Delay_l0_p (d : District) (reach : Int) (z_0 : Int) (s_0 : Int) : Prop := (0 ≤ z_0 ∧ z_0 < (d.reaches.length : Int))
def canals_Delay (d : District) (reach : Int) : Int × Int := (bif ((canals_check d ([reach])) != 0) then (0, (canals_check d ([reach]))) else (match runL (canals_Delay_l0 d reach) (canals_up d reach) 0 with | .inl x => x.elim | .inr s_0 => (s_0, 0)))
def canals_Delay_p (d : District) (reach : Int) : Prop := (((canals_check d ([reach])) != 0) = false → ((canals_up_p d reach) ∧ okL (canals_Delay_l0 d reach) (canals_Delay_l0_p d reach) (canals_up d reach) 0))
@[go_sem] def C_canals_Delay : List SV → Option Con := (pD .district fun d => (pI fun reach => (pE (.det (canals_Delay_p d reach) (.tup [.v (.int .i64 ((canals_Delay d reach).1)), .v (.int .i64 ((canals_Delay d reach).2))])))))
set_option maxHeartbeats 4000000 in
theorem ok_canals_Delay : FnOk Try.prog 20 C_canals_Delay := by
  have hG : ConsOk Try.prog (mkG [(41, fun l => C_canals_check (nrmA [.st .district, .sl .int] l))] [(43, C_canals_up)]) := mkG_ok (cgc (ok_canals_check.norm [.st .district, .sl .int]) cg0) (cgc ok_canals_up cg0)
  refine fn_okN [.o, .o] mixed ts_ok hG (fn := Try.f20) (c := bodyOf Try.f20) (by kernel_rfl) (by kernel_rfl) (by kernel_rfl) (by kernel_rfl) (pD_all fun d => (pI_all fun reach => (pE_all (fun hp => ?_))))
  dsimp only [conPre] at hp
  unfold canals_Delay_p at hp
  refine ⟨Nat.le_of_ble_eq_true rfl, (fun id st => bif Nat.beq id 0 then some (LC (ρ := Empty) (σ := Int) (lk 2 st.t = .ptr 0 0 ∧ lk 4 st.t = .ptr 1 0 ∧ lk 5 st.t = .v (.int .i64 (canals_check d ([reach]))) ∧ lk 16 st.t = .fn 61 [] [.ptr 2 0, .ptr 3 0] ∧ st.h = [.cells (cellsOf .district d), .cells [.v (.int .i64 0)], .cells [.v (.int .i64 reach)], .cells (cellsOf .district d)] ∧ canals_up_p d reach ∧ okL (canals_Delay_l0 d reach) (canals_Delay_l0_p d reach) (canals_up d reach) 0) (runL (canals_Delay_l0 d reach) (canals_up d reach) 0) (fun x => x.elim) (fun x => x.elim) (fun s_0 => ⟨[(2, .ptr 0 0), (4, .ptr 1 0), (5, .v (.int .i64 (canals_check d ([reach]))))], [.cells (cellsOf .district d), .cells [.v (.int .i64 s_0)], .dead, .dead]⟩)) else none), ?_, ?_⟩
  · unfold bodyOf Try.f20
    simp only [loopsOk, true_and, and_true]
    · refine rangeL_ok mixed ts_ok hG (by decide) (by decide) (by kernel_rfl) (by kernel_rfl) fun st lc hC hp => ?_
      simp only [go_sem, Nat.reduceBEq, Option.some.injEq] at hC
      subst hC
      obtain ⟨t, h⟩ := st
      dsimp only [LC] at hp
      obtain ⟨e0_0, e0_1, e0_2, e0_3, rfl, hb0, hok0⟩ := hp
      refine ⟨61, [.ptr 2 0, .ptr 3 0], Int, _, _, (canals_up d reach), intI, (canals_Delay_l0 d reach), (canals_Delay_l0_p d reach), _, 0, _, _, _, [(2, .ptr 0 0), (4, .ptr 1 0), (5, .v (.int .i64 (canals_check d ([reach]))))], (fun s_0 => [.cells (cellsOf .district d), .cells [.v (.int .i64 s_0)], .dead, .dead]), (fun x => x.elim), [0, 1, 2, 3], ?_, rfl, hok0, Nat.le_of_ble_eq_true rfl, ?_, up_it d reach hb0, fun z_0 s_0 hq0 => ⟨rfl, L0, fun l => ?_, fun l => ?_, ?_⟩, fun s_0 => ?_, fun y => ?_⟩
      · simp only [go_sem, e0_0, e0_1, e0_2, e0_3]
      · simp only [go_sem, Nat.reduceBEq, Nat.reduceLeDiff, Nat.reduceLT, decide_true, Nat.reduceAdd, Nat.reduceSub, Nat.reduceMul, Int.reduceLE, Int.reduceLT, Int.reduceToNat, Int.reduceNeg, reduceCtorEq, killL, capIds, List.flatMap_cons, List.flatMap_nil, List.nil_append, List.append_nil, List.map_nil, e0_0, e0_1, e0_2, e0_3]
        all_goals (first | done | decide | (repeat' (first | refine And.intro ?_ ?_ | rfl | decide)))
      · simp only [loopsOk, and_self, true_and, and_true]
      · simp only [loopsOk, and_self, true_and, and_true]
      · unfold canals_Delay_l0_p at hq0
        simp only [go_sem, Nat.reduceBEq, Nat.reduceLeDiff, Nat.reduceLT, decide_true, Nat.reduceAdd, Nat.reduceSub, Nat.reduceMul, Int.reduceLE, Int.reduceLT, Int.reduceToNat, Int.reduceNeg, reduceCtorEq, canals_Delay_l0, psT, intI, List.cons_append, List.nil_append]
        all_goals exact crSxR8_0
      · simp only [go_sem, Nat.reduceBEq, Nat.reduceLeDiff, Nat.reduceLT, decide_true, Nat.reduceAdd, Nat.reduceSub, Nat.reduceMul, Int.reduceLE, Int.reduceLT, Int.reduceToNat, Int.reduceNeg, reduceCtorEq]
        all_goals exact crSxR8_0
      · simp only [go_sem, Nat.reduceBEq, Nat.reduceLeDiff, Nat.reduceLT, decide_true, Nat.reduceAdd, Nat.reduceSub, Nat.reduceMul, Int.reduceLE, Int.reduceLT, Int.reduceToNat, Int.reduceNeg, reduceCtorEq]
        all_goals exact crSxR8_0
  · unfold bodyOf Try.f20
    try unfold canals_Delay
    simp only [go_sem, Nat.reduceBEq, Nat.reduceLeDiff, Nat.reduceLT, decide_true, Nat.reduceAdd, Nat.reduceSub, Nat.reduceMul, Int.reduceLE, Int.reduceLT, Int.reduceToNat, Int.reduceNeg, reduceCtorEq]
    all_goals exact cl
@[go_sem] def law22_RoutingPath_l0 (a0 : District) (a1 : Int) (k_0 : Nat) (s_0 : Int × Int) : Unit ⊕ (Int × Int) := (bif ((decide ((((canals_Path a0 ((a0.farms.getD (Int.toNat (Int.tmod (IntKind.i64.wrap a1) (a0.farms.length : Int))) (default : Farm)).reach)).1).getD k_0 (0 : Int)) < 0)) || (decide ((((canals_Path a0 ((a0.farms.getD (Int.toNat (Int.tmod (IntKind.i64.wrap a1) (a0.farms.length : Int))) (default : Farm)).reach)).1).getD k_0 (0 : Int)) ≥ (a0.reaches.length : Int)))) then .inl () else (bif (decide (s_0.1 < (a0.reaches.getD (Int.toNat (((canals_Path a0 ((a0.farms.getD (Int.toNat (Int.tmod (IntKind.i64.wrap a1) (a0.farms.length : Int))) (default : Farm)).reach)).1).getD k_0 (0 : Int))) (default : Reach)).siphon)) then (bif ((losses_Worst (a0.reaches.getD (Int.toNat (((canals_Path a0 ((a0.farms.getD (Int.toNat (Int.tmod (IntKind.i64.wrap a1) (a0.farms.length : Int))) (default : Farm)).reach)).1).getD k_0 (0 : Int))) (default : Reach)) 0).2 != 0) then .inl () else .inr ((losses_Worst (a0.reaches.getD (Int.toNat (((canals_Path a0 ((a0.farms.getD (Int.toNat (Int.tmod (IntKind.i64.wrap a1) (a0.farms.length : Int))) (default : Farm)).reach)).1).getD k_0 (0 : Int))) (default : Reach)) 0).1, (IntKind.i64.wrap (s_0.2 + (a0.reaches.getD (Int.toNat (((canals_Path a0 ((a0.farms.getD (Int.toNat (Int.tmod (IntKind.i64.wrap a1) (a0.farms.length : Int))) (default : Farm)).reach)).1).getD k_0 (0 : Int))) (default : Reach)).delay)))) else (bif ((losses_Worst (a0.reaches.getD (Int.toNat (((canals_Path a0 ((a0.farms.getD (Int.toNat (Int.tmod (IntKind.i64.wrap a1) (a0.farms.length : Int))) (default : Farm)).reach)).1).getD k_0 (0 : Int))) (default : Reach)) s_0.1).2 != 0) then .inl () else .inr ((losses_Worst (a0.reaches.getD (Int.toNat (((canals_Path a0 ((a0.farms.getD (Int.toNat (Int.tmod (IntKind.i64.wrap a1) (a0.farms.length : Int))) (default : Farm)).reach)).1).getD k_0 (0 : Int))) (default : Reach)) s_0.1).1, (IntKind.i64.wrap (s_0.2 + (a0.reaches.getD (Int.toNat (((canals_Path a0 ((a0.farms.getD (Int.toNat (Int.tmod (IntKind.i64.wrap a1) (a0.farms.length : Int))) (default : Farm)).reach)).1).getD k_0 (0 : Int))) (default : Reach)).delay))))))
def law22_RoutingPath_l0_p (a0 : District) (a1 : Int) (k_0 : Nat) (s_0 : Int × Int) : Prop := (((decide ((((canals_Path a0 ((a0.farms.getD (Int.toNat (Int.tmod (IntKind.i64.wrap a1) (a0.farms.length : Int))) (default : Farm)).reach)).1).getD k_0 (0 : Int)) < 0)) || (decide ((((canals_Path a0 ((a0.farms.getD (Int.toNat (Int.tmod (IntKind.i64.wrap a1) (a0.farms.length : Int))) (default : Farm)).reach)).1).getD k_0 (0 : Int)) ≥ (a0.reaches.length : Int)))) = false → ((0 ≤ (((canals_Path a0 ((a0.farms.getD (Int.toNat (Int.tmod (IntKind.i64.wrap a1) (a0.farms.length : Int))) (default : Farm)).reach)).1).getD k_0 (0 : Int)) ∧ (((canals_Path a0 ((a0.farms.getD (Int.toNat (Int.tmod (IntKind.i64.wrap a1) (a0.farms.length : Int))) (default : Farm)).reach)).1).getD k_0 (0 : Int)) < (a0.reaches.length : Int)) ∧ (((decide (s_0.1 < (a0.reaches.getD (Int.toNat (((canals_Path a0 ((a0.farms.getD (Int.toNat (Int.tmod (IntKind.i64.wrap a1) (a0.farms.length : Int))) (default : Farm)).reach)).1).getD k_0 (0 : Int))) (default : Reach)).siphon)) = true → ((0 ≤ (((canals_Path a0 ((a0.farms.getD (Int.toNat (Int.tmod (IntKind.i64.wrap a1) (a0.farms.length : Int))) (default : Farm)).reach)).1).getD k_0 (0 : Int)) ∧ (((canals_Path a0 ((a0.farms.getD (Int.toNat (Int.tmod (IntKind.i64.wrap a1) (a0.farms.length : Int))) (default : Farm)).reach)).1).getD k_0 (0 : Int)) < (a0.reaches.length : Int)) ∧ (((losses_Worst (a0.reaches.getD (Int.toNat (((canals_Path a0 ((a0.farms.getD (Int.toNat (Int.tmod (IntKind.i64.wrap a1) (a0.farms.length : Int))) (default : Farm)).reach)).1).getD k_0 (0 : Int))) (default : Reach)) 0).2 != 0) = false → (0 ≤ (((canals_Path a0 ((a0.farms.getD (Int.toNat (Int.tmod (IntKind.i64.wrap a1) (a0.farms.length : Int))) (default : Farm)).reach)).1).getD k_0 (0 : Int)) ∧ (((canals_Path a0 ((a0.farms.getD (Int.toNat (Int.tmod (IntKind.i64.wrap a1) (a0.farms.length : Int))) (default : Farm)).reach)).1).getD k_0 (0 : Int)) < (a0.reaches.length : Int))))) ∧ ((decide (s_0.1 < (a0.reaches.getD (Int.toNat (((canals_Path a0 ((a0.farms.getD (Int.toNat (Int.tmod (IntKind.i64.wrap a1) (a0.farms.length : Int))) (default : Farm)).reach)).1).getD k_0 (0 : Int))) (default : Reach)).siphon)) = false → ((0 ≤ (((canals_Path a0 ((a0.farms.getD (Int.toNat (Int.tmod (IntKind.i64.wrap a1) (a0.farms.length : Int))) (default : Farm)).reach)).1).getD k_0 (0 : Int)) ∧ (((canals_Path a0 ((a0.farms.getD (Int.toNat (Int.tmod (IntKind.i64.wrap a1) (a0.farms.length : Int))) (default : Farm)).reach)).1).getD k_0 (0 : Int)) < (a0.reaches.length : Int)) ∧ (((losses_Worst (a0.reaches.getD (Int.toNat (((canals_Path a0 ((a0.farms.getD (Int.toNat (Int.tmod (IntKind.i64.wrap a1) (a0.farms.length : Int))) (default : Farm)).reach)).1).getD k_0 (0 : Int))) (default : Reach)) s_0.1).2 != 0) = false → (0 ≤ (((canals_Path a0 ((a0.farms.getD (Int.toNat (Int.tmod (IntKind.i64.wrap a1) (a0.farms.length : Int))) (default : Farm)).reach)).1).getD k_0 (0 : Int)) ∧ (((canals_Path a0 ((a0.farms.getD (Int.toNat (Int.tmod (IntKind.i64.wrap a1) (a0.farms.length : Int))) (default : Farm)).reach)).1).getD k_0 (0 : Int)) < (a0.reaches.length : Int))))))))
@[go_sem] def law22_RoutingPath_l1 (a0 : District) (a1 : Int) (a3 : Int) (a4 : Int) (k_1 : Nat) (s_1 : Int) : Unit ⊕ Int := (bif ((mgetT .acequialaw22Place .int (law22_gates ((routing_Plan a0 ([({ hour := a4, index := (Int.tmod (IntKind.i64.wrap a1) (a0.farms.length : Int)), litres := a3, outlet := true } : Order)])).1)) ({ reach := (((canals_Path a0 ((a0.farms.getD (Int.toNat (Int.tmod (IntKind.i64.wrap a1) (a0.farms.length : Int))) (default : Farm)).reach)).1).getD k_1 (0 : Int)), hour := (IntKind.i64.wrap (a4 - s_1)) } : Acequialaw22Place)) == 0) then .inl () else .inr (IntKind.i64.wrap (s_1 - (a0.reaches.getD (Int.toNat (((canals_Path a0 ((a0.farms.getD (Int.toNat (Int.tmod (IntKind.i64.wrap a1) (a0.farms.length : Int))) (default : Farm)).reach)).1).getD k_1 (0 : Int))) (default : Reach)).delay)))
def law22_RoutingPath_l1_p (a0 : District) (a1 : Int) (a3 : Int) (a4 : Int) (k_1 : Nat) (s_1 : Int) : Prop := (((mgetT .acequialaw22Place .int (law22_gates ((routing_Plan a0 ([({ hour := a4, index := (Int.tmod (IntKind.i64.wrap a1) (a0.farms.length : Int)), litres := a3, outlet := true } : Order)])).1)) ({ reach := (((canals_Path a0 ((a0.farms.getD (Int.toNat (Int.tmod (IntKind.i64.wrap a1) (a0.farms.length : Int))) (default : Farm)).reach)).1).getD k_1 (0 : Int)), hour := (IntKind.i64.wrap (a4 - s_1)) } : Acequialaw22Place)) == 0) = false → (0 ≤ (((canals_Path a0 ((a0.farms.getD (Int.toNat (Int.tmod (IntKind.i64.wrap a1) (a0.farms.length : Int))) (default : Farm)).reach)).1).getD k_1 (0 : Int)) ∧ (((canals_Path a0 ((a0.farms.getD (Int.toNat (Int.tmod (IntKind.i64.wrap a1) (a0.farms.length : Int))) (default : Farm)).reach)).1).getD k_1 (0 : Int)) < (a0.reaches.length : Int)))
def law22_RoutingPath (a0 : District) (a1 : Int) (a2 : Int) (a3 : Int) (a4 : Int) : Bool := (bif (!law22_sane) then false else (bif (((((((((!(ref22_Few a0 ([]))) || ((expand_Check a0) != 0)) || ((a0.farms.length : Int) == 0)) || (decide (a2 < 0))) || (decide (a2 > 1073741824))) || (decide (a3 < 1))) || (decide (a3 > 1073741824))) || (decide (a4 < 0))) || (decide (a4 ≥ a0.hours))) then true else (bif ((decide ((a0.farms.getD (Int.toNat (Int.tmod (IntKind.i64.wrap a1) (a0.farms.length : Int))) (default : Farm)).reach < 0)) || (decide ((a0.farms.getD (Int.toNat (Int.tmod (IntKind.i64.wrap a1) (a0.farms.length : Int))) (default : Farm)).reach ≥ (a0.reaches.length : Int)))) then false else (bif ((((((((routing_Worst a0 ((a0.farms.getD (Int.toNat (Int.tmod (IntKind.i64.wrap a1) (a0.farms.length : Int))) (default : Farm)).reach) a2).2 != 0) || ((routing_Need a0 ((a0.farms.getD (Int.toNat (Int.tmod (IntKind.i64.wrap a1) (a0.farms.length : Int))) (default : Farm)).reach) a3).2.2 != 0)) || ((canals_Path a0 ((a0.farms.getD (Int.toNat (Int.tmod (IntKind.i64.wrap a1) (a0.farms.length : Int))) (default : Farm)).reach)).2 != 0)) || ((canals_Delay a0 ((a0.farms.getD (Int.toNat (Int.tmod (IntKind.i64.wrap a1) (a0.farms.length : Int))) (default : Farm)).reach)).2 != 0)) || ((decide ((routing_Worst a0 ((a0.farms.getD (Int.toNat (Int.tmod (IntKind.i64.wrap a1) (a0.farms.length : Int))) (default : Farm)).reach) a2).1 ≥ a3)) != ((routing_Need a0 ((a0.farms.getD (Int.toNat (Int.tmod (IntKind.i64.wrap a1) (a0.farms.length : Int))) (default : Farm)).reach) a3).2.1 && (decide ((routing_Need a0 ((a0.farms.getD (Int.toNat (Int.tmod (IntKind.i64.wrap a1) (a0.farms.length : Int))) (default : Farm)).reach) a3).1 ≤ a2))))) || ((((canals_Path a0 ((a0.farms.getD (Int.toNat (Int.tmod (IntKind.i64.wrap a1) (a0.farms.length : Int))) (default : Farm)).reach)).1).length : Int) == 0)) || (decide ((((canals_Path a0 ((a0.farms.getD (Int.toNat (Int.tmod (IntKind.i64.wrap a1) (a0.farms.length : Int))) (default : Farm)).reach)).1).length : Int) > (a0.reaches.length : Int)))) then false else (match runI (law22_RoutingPath_l0 a0 a1) (((canals_Path a0 ((a0.farms.getD (Int.toNat (Int.tmod (IntKind.i64.wrap a1) (a0.farms.length : Int))) (default : Farm)).reach)).1).length) 0 (a2, 0) with | .inl x_0_0 => false | .inr s_0 => (bif ((s_0.1 != (routing_Worst a0 ((a0.farms.getD (Int.toNat (Int.tmod (IntKind.i64.wrap a1) (a0.farms.length : Int))) (default : Farm)).reach) a2).1) || (s_0.2 != (canals_Delay a0 ((a0.farms.getD (Int.toNat (Int.tmod (IntKind.i64.wrap a1) (a0.farms.length : Int))) (default : Farm)).reach)).1)) then false else (bif ((routing_Plan a0 ([({ hour := a4, index := (Int.tmod (IntKind.i64.wrap a1) (a0.farms.length : Int)), litres := a3, outlet := true } : Order)])).2.2 != 0) then ((routing_Plan a0 ([({ hour := a4, index := (Int.tmod (IntKind.i64.wrap a1) (a0.farms.length : Int)), litres := a3, outlet := true } : Order)])).2.2 == 2) else (bif (!(routing_Plan a0 ([({ hour := a4, index := (Int.tmod (IntKind.i64.wrap a1) (a0.farms.length : Int)), litres := a3, outlet := true } : Order)])).2.1) then ((!(routing_Need a0 ((a0.farms.getD (Int.toNat (Int.tmod (IntKind.i64.wrap a1) (a0.farms.length : Int))) (default : Farm)).reach) a3).2.1) || (decide ((canals_Delay a0 ((a0.farms.getD (Int.toNat (Int.tmod (IntKind.i64.wrap a1) (a0.farms.length : Int))) (default : Farm)).reach)).1 > a4))) else (bif (((!(routing_Need a0 ((a0.farms.getD (Int.toNat (Int.tmod (IntKind.i64.wrap a1) (a0.farms.length : Int))) (default : Farm)).reach) a3).2.1) || (decide ((canals_Delay a0 ((a0.farms.getD (Int.toNat (Int.tmod (IntKind.i64.wrap a1) (a0.farms.length : Int))) (default : Farm)).reach)).1 > a4))) || ((((routing_Plan a0 ([({ hour := a4, index := (Int.tmod (IntKind.i64.wrap a1) (a0.farms.length : Int)), litres := a3, outlet := true } : Order)])).1).length : Int) != (IntKind.i64.wrap ((((canals_Path a0 ((a0.farms.getD (Int.toNat (Int.tmod (IntKind.i64.wrap a1) (a0.farms.length : Int))) (default : Farm)).reach)).1).length : Int) + 1)))) then false else (match runI (law22_RoutingPath_l1 a0 a1 a3 a4) (((canals_Path a0 ((a0.farms.getD (Int.toNat (Int.tmod (IntKind.i64.wrap a1) (a0.farms.length : Int))) (default : Farm)).reach)).1).length) 0 ((canals_Delay a0 ((a0.farms.getD (Int.toNat (Int.tmod (IntKind.i64.wrap a1) (a0.farms.length : Int))) (default : Farm)).reach)).1) with | .inl x_1_0 => false | .inr s_1 => ((mgetT .acequialaw22Place .int (law22_gates ((routing_Plan a0 ([({ hour := a4, index := (Int.tmod (IntKind.i64.wrap a1) (a0.farms.length : Int)), litres := a3, outlet := true } : Order)])).1)) ({ reach := 0, hour := (IntKind.i64.wrap (a4 - (canals_Delay a0 ((a0.farms.getD (Int.toNat (Int.tmod (IntKind.i64.wrap a1) (a0.farms.length : Int))) (default : Farm)).reach)).1)) } : Acequialaw22Place)) == (routing_Need a0 ((a0.farms.getD (Int.toNat (Int.tmod (IntKind.i64.wrap a1) (a0.farms.length : Int))) (default : Farm)).reach) a3).1)))))))))))
def law22_RoutingPath_p (a0 : District) (a1 : Int) (a2 : Int) (a3 : Int) (a4 : Int) : Prop := ((law22_sane_p) ∧ ((!law22_sane) = false → ((((((((((!(ref22_Few a0 ([]))) || ((expand_Check a0) != 0)) || ((a0.farms.length : Int) == 0)) || (decide (a2 < 0))) || (decide (a2 > 1073741824))) || (decide (a3 < 1))) || (decide (a3 > 1073741824))) || (decide (a4 < 0))) || (decide (a4 ≥ a0.hours))) = false → (a0.farms.length ≤ maxL → ((a0.farms.length : Int) ≠ 0 ∧ ((0 ≤ (Int.tmod (IntKind.i64.wrap a1) (a0.farms.length : Int)) ∧ (Int.tmod (IntKind.i64.wrap a1) (a0.farms.length : Int)) < (a0.farms.length : Int)) ∧ (((decide ((a0.farms.getD (Int.toNat (Int.tmod (IntKind.i64.wrap a1) (a0.farms.length : Int))) (default : Farm)).reach < 0)) || (decide ((a0.farms.getD (Int.toNat (Int.tmod (IntKind.i64.wrap a1) (a0.farms.length : Int))) (default : Farm)).reach ≥ (a0.reaches.length : Int)))) = false → ((routing_Worst_p a0 ((a0.farms.getD (Int.toNat (Int.tmod (IntKind.i64.wrap a1) (a0.farms.length : Int))) (default : Farm)).reach) a2) ∧ ((routing_Need_p a0 ((a0.farms.getD (Int.toNat (Int.tmod (IntKind.i64.wrap a1) (a0.farms.length : Int))) (default : Farm)).reach) a3) ∧ ((canals_Path_p a0 ((a0.farms.getD (Int.toNat (Int.tmod (IntKind.i64.wrap a1) (a0.farms.length : Int))) (default : Farm)).reach)) ∧ ((canals_Delay_p a0 ((a0.farms.getD (Int.toNat (Int.tmod (IntKind.i64.wrap a1) (a0.farms.length : Int))) (default : Farm)).reach)) ∧ (((((((((routing_Worst a0 ((a0.farms.getD (Int.toNat (Int.tmod (IntKind.i64.wrap a1) (a0.farms.length : Int))) (default : Farm)).reach) a2).2 != 0) || ((routing_Need a0 ((a0.farms.getD (Int.toNat (Int.tmod (IntKind.i64.wrap a1) (a0.farms.length : Int))) (default : Farm)).reach) a3).2.2 != 0)) || ((canals_Path a0 ((a0.farms.getD (Int.toNat (Int.tmod (IntKind.i64.wrap a1) (a0.farms.length : Int))) (default : Farm)).reach)).2 != 0)) || ((canals_Delay a0 ((a0.farms.getD (Int.toNat (Int.tmod (IntKind.i64.wrap a1) (a0.farms.length : Int))) (default : Farm)).reach)).2 != 0)) || ((decide ((routing_Worst a0 ((a0.farms.getD (Int.toNat (Int.tmod (IntKind.i64.wrap a1) (a0.farms.length : Int))) (default : Farm)).reach) a2).1 ≥ a3)) != ((routing_Need a0 ((a0.farms.getD (Int.toNat (Int.tmod (IntKind.i64.wrap a1) (a0.farms.length : Int))) (default : Farm)).reach) a3).2.1 && (decide ((routing_Need a0 ((a0.farms.getD (Int.toNat (Int.tmod (IntKind.i64.wrap a1) (a0.farms.length : Int))) (default : Farm)).reach) a3).1 ≤ a2))))) || ((((canals_Path a0 ((a0.farms.getD (Int.toNat (Int.tmod (IntKind.i64.wrap a1) (a0.farms.length : Int))) (default : Farm)).reach)).1).length : Int) == 0)) || (decide ((((canals_Path a0 ((a0.farms.getD (Int.toNat (Int.tmod (IntKind.i64.wrap a1) (a0.farms.length : Int))) (default : Farm)).reach)).1).length : Int) > (a0.reaches.length : Int)))) = false → (((canals_Path a0 ((a0.farms.getD (Int.toNat (Int.tmod (IntKind.i64.wrap a1) (a0.farms.length : Int))) (default : Farm)).reach)).1).length ≤ maxL → (okI (law22_RoutingPath_l0 a0 a1) (law22_RoutingPath_l0_p a0 a1) (((canals_Path a0 ((a0.farms.getD (Int.toNat (Int.tmod (IntKind.i64.wrap a1) (a0.farms.length : Int))) (default : Farm)).reach)).1).length) 0 (a2, 0) ∧ (∀ s_0, runI (law22_RoutingPath_l0 a0 a1) (((canals_Path a0 ((a0.farms.getD (Int.toNat (Int.tmod (IntKind.i64.wrap a1) (a0.farms.length : Int))) (default : Farm)).reach)).1).length) 0 (a2, 0) = .inr s_0 → (((s_0.1 != (routing_Worst a0 ((a0.farms.getD (Int.toNat (Int.tmod (IntKind.i64.wrap a1) (a0.farms.length : Int))) (default : Farm)).reach) a2).1) || (s_0.2 != (canals_Delay a0 ((a0.farms.getD (Int.toNat (Int.tmod (IntKind.i64.wrap a1) (a0.farms.length : Int))) (default : Farm)).reach)).1)) = false → ((routing_Plan_p a0 ([({ hour := a4, index := (Int.tmod (IntKind.i64.wrap a1) (a0.farms.length : Int)), litres := a3, outlet := true } : Order)])) ∧ (((routing_Plan a0 ([({ hour := a4, index := (Int.tmod (IntKind.i64.wrap a1) (a0.farms.length : Int)), litres := a3, outlet := true } : Order)])).2.2 != 0) = false → ((!(routing_Plan a0 ([({ hour := a4, index := (Int.tmod (IntKind.i64.wrap a1) (a0.farms.length : Int)), litres := a3, outlet := true } : Order)])).2.1) = false → ((((!(routing_Need a0 ((a0.farms.getD (Int.toNat (Int.tmod (IntKind.i64.wrap a1) (a0.farms.length : Int))) (default : Farm)).reach) a3).2.1) || (decide ((canals_Delay a0 ((a0.farms.getD (Int.toNat (Int.tmod (IntKind.i64.wrap a1) (a0.farms.length : Int))) (default : Farm)).reach)).1 > a4))) || ((((routing_Plan a0 ([({ hour := a4, index := (Int.tmod (IntKind.i64.wrap a1) (a0.farms.length : Int)), litres := a3, outlet := true } : Order)])).1).length : Int) != (IntKind.i64.wrap ((((canals_Path a0 ((a0.farms.getD (Int.toNat (Int.tmod (IntKind.i64.wrap a1) (a0.farms.length : Int))) (default : Farm)).reach)).1).length : Int) + 1)))) = false → (((canals_Path a0 ((a0.farms.getD (Int.toNat (Int.tmod (IntKind.i64.wrap a1) (a0.farms.length : Int))) (default : Farm)).reach)).1).length ≤ maxL → okI (law22_RoutingPath_l1 a0 a1 a3 a4) (law22_RoutingPath_l1_p a0 a1 a3 a4) (((canals_Path a0 ((a0.farms.getD (Int.toNat (Int.tmod (IntKind.i64.wrap a1) (a0.farms.length : Int))) (default : Farm)).reach)).1).length) 0 ((canals_Delay a0 ((a0.farms.getD (Int.toNat (Int.tmod (IntKind.i64.wrap a1) (a0.farms.length : Int))) (default : Farm)).reach)).1))))))))))))))))))))))
@[go_sem] def C_law22_RoutingPath : List SV → Option Con := (pD .district fun a0 => (pW fun a1 => (pI fun a2 => (pI fun a3 => (pI fun a4 => (pE (.det (law22_RoutingPath_p a0 a1 a2 a3 a4) (.v (.bool (law22_RoutingPath a0 a1 a2 a3 a4))))))))))
set_option maxHeartbeats 4000000 in
theorem ok_law22_RoutingPath : FnOk Try.prog 6 C_law22_RoutingPath := by
  have hG : ConsOk Try.prog (mkG [(7, C_law22_sane), (8, fun l => C_ref22_Few (nrmA [.st .district, .sl .order] l)), (9, fun l => C_routing_Plan (nrmA [.st .district, .sl .order] l)), (14, fun l => C_law22_gates (nrmA [.sl .order] l)), (16, fun l => C_expand_Check (nrmA [.st .district] l)), (17, fun l => C_routing_Worst (nrmA [.st .district, .o, .o] l)), (18, fun l => C_routing_Need (nrmA [.st .district, .o, .o] l)), (19, fun l => C_canals_Path (nrmA [.st .district, .o] l)), (20, fun l => C_canals_Delay (nrmA [.st .district, .o] l)), (21, C_losses_Worst)] []) := mkG_ok (cgc ok_law22_sane (cgc (ok_ref22_Few.norm [.st .district, .sl .order]) (cgc (ok_routing_Plan.norm [.st .district, .sl .order]) (cgc (ok_law22_gates.norm [.sl .order]) (cgc (ok_expand_Check.norm [.st .district]) (cgc (ok_routing_Worst.norm [.st .district, .o, .o]) (cgc (ok_routing_Need.norm [.st .district, .o, .o]) (cgc (ok_canals_Path.norm [.st .district, .o]) (cgc (ok_canals_Delay.norm [.st .district, .o]) (cgc ok_losses_Worst cg0)))))))))) cg0
  refine fn_okN [.o] mixed ts_ok hG (fn := Try.f6) (c := bodyOf Try.f6) (by kernel_rfl) (by kernel_rfl) (by kernel_rfl) (by kernel_rfl) (pD_all fun a0 => (pW_all fun a1 => (pI_all fun a2 => (pI_all fun a3 => (pI_all fun a4 => (pE_all (fun hp => ?_)))))))
  dsimp only [conPre] at hp
  unfold law22_RoutingPath_p at hp
  refine ⟨Nat.le_of_ble_eq_true rfl, (fun id st => bif Nat.beq id 0 then some (LCR (ρ := Unit) (σ := (Int × Int)) 2 [] [0, 1] (fun k_0 s_0 => ⟨[(3, .v (.int .i64 a3)), (4, .v (.int .i64 a4)), (5, .ptr 0 0), (11, .v (.int .i64 (Int.tmod (IntKind.i64.wrap a1) (a0.farms.length : Int)))), (13, .v (.int .i64 ((routing_Worst a0 ((a0.farms.getD (Int.toNat (Int.tmod (IntKind.i64.wrap a1) (a0.farms.length : Int))) (default : Farm)).reach) a2).1))), (15, .v (.int .i64 ((routing_Need a0 ((a0.farms.getD (Int.toNat (Int.tmod (IntKind.i64.wrap a1) (a0.farms.length : Int))) (default : Farm)).reach) a3).1))), (16, .v (.bool ((routing_Need a0 ((a0.farms.getD (Int.toNat (Int.tmod (IntKind.i64.wrap a1) (a0.farms.length : Int))) (default : Farm)).reach) a3).2.1))), (18, .os 1), (20, .v (.int .i64 ((canals_Delay a0 ((a0.farms.getD (Int.toNat (Int.tmod (IntKind.i64.wrap a1) (a0.farms.length : Int))) (default : Farm)).reach)).1))), (22, .v (.int .i64 s_0.1)), (23, .v (.int .i64 s_0.2)), (165, .os 1), (166, .v (.int .i64 (((canals_Path a0 ((a0.farms.getD (Int.toNat (Int.tmod (IntKind.i64.wrap a1) (a0.farms.length : Int))) (default : Farm)).reach)).1).length : Int))), (167, .v (.int .i64 (k_0 : Int)))], [.cells (cellsOf .district a0), .row .int ((canals_Path a0 ((a0.farms.getD (Int.toNat (Int.tmod (IntKind.i64.wrap a1) (a0.farms.length : Int))) (default : Farm)).reach)).1)]⟩) (law22_RoutingPath_l0 a0 a1) (law22_RoutingPath_l0_p a0 a1) (((canals_Path a0 ((a0.farms.getD (Int.toNat (Int.tmod (IntKind.i64.wrap a1) (a0.farms.length : Int))) (default : Farm)).reach)).1).length) (a2, 0) (((canals_Path a0 ((a0.farms.getD (Int.toNat (Int.tmod (IntKind.i64.wrap a1) (a0.farms.length : Int))) (default : Farm)).reach)).1).length ≤ maxL) (fun _ => .ret) (fun x_0_0 => ⟨[(10, .v (.bool false))], [.dead, .dead]⟩) st) else bif Nat.beq id 2 then some (LCR (ρ := Unit) (σ := Int) 5 [] [0, 1, 2, 3, 4] (fun k_1 s_1 => ⟨[(4, .v (.int .i64 a4)), (5, .ptr 0 0), (15, .v (.int .i64 ((routing_Need a0 ((a0.farms.getD (Int.toNat (Int.tmod (IntKind.i64.wrap a1) (a0.farms.length : Int))) (default : Farm)).reach) a3).1))), (20, .v (.int .i64 ((canals_Delay a0 ((a0.farms.getD (Int.toNat (Int.tmod (IntKind.i64.wrap a1) (a0.farms.length : Int))) (default : Farm)).reach)).1))), (31, .os 4), (32, .v (.int .i64 s_1)), (260, .os 1), (261, .v (.int .i64 (((canals_Path a0 ((a0.farms.getD (Int.toNat (Int.tmod (IntKind.i64.wrap a1) (a0.farms.length : Int))) (default : Farm)).reach)).1).length : Int))), (262, .v (.int .i64 (k_1 : Int)))], [.cells (cellsOf .district a0), .row .int ((canals_Path a0 ((a0.farms.getD (Int.toNat (Int.tmod (IntKind.i64.wrap a1) (a0.farms.length : Int))) (default : Farm)).reach)).1), .dead, .dead, .mp .acequialaw22Place .int (law22_gates ((routing_Plan a0 ([({ hour := a4, index := (Int.tmod (IntKind.i64.wrap a1) (a0.farms.length : Int)), litres := a3, outlet := true } : Order)])).1)) none]⟩) (law22_RoutingPath_l1 a0 a1 a3 a4) (law22_RoutingPath_l1_p a0 a1 a3 a4) (((canals_Path a0 ((a0.farms.getD (Int.toNat (Int.tmod (IntKind.i64.wrap a1) (a0.farms.length : Int))) (default : Farm)).reach)).1).length) ((canals_Delay a0 ((a0.farms.getD (Int.toNat (Int.tmod (IntKind.i64.wrap a1) (a0.farms.length : Int))) (default : Farm)).reach)).1) (((canals_Path a0 ((a0.farms.getD (Int.toNat (Int.tmod (IntKind.i64.wrap a1) (a0.farms.length : Int))) (default : Farm)).reach)).1).length ≤ maxL) (fun _ => .ret) (fun x_1_0 => ⟨[(10, .v (.bool false))], [.dead, .dead, .dead, .dead, .dead]⟩) st) else none), ?_, ?_⟩
  · unfold bodyOf Try.f6
    simp only [loopsOk, true_and, and_true]
    refine ⟨?_, ?_⟩
    · refine loopR_ok mixed ts_ok hG (by kernel_rfl) (fun _ => rfl) (((canals_Path a0 ((a0.farms.getD (Int.toNat (Int.tmod (IntKind.i64.wrap a1) (a0.farms.length : Int))) (default : Farm)).reach)).1).length : Int) rfl lenB (fun hb0 k_0 s_0 hlt0 hq0 hw hc => ⟨L0, loopsOk0 _, ?_⟩) (fun hb0 s_0 hc => ?_)
      · unfold law22_RoutingPath_l0_p at hq0
        try simp only [hw, Int.toNat_natCast] at hq0
        exact exSxR8_1
      · exact ezSxR8_1
    · refine loopR_ok mixed ts_ok hG (by kernel_rfl) (fun _ => rfl) (((canals_Path a0 ((a0.farms.getD (Int.toNat (Int.tmod (IntKind.i64.wrap a1) (a0.farms.length : Int))) (default : Farm)).reach)).1).length : Int) rfl lenB (fun hb1 k_1 s_1 hlt1 hq1 hw hc => ⟨L0, loopsOk0 _, ?_⟩) (fun hb1 s_1 hc => ?_)
      · unfold law22_RoutingPath_l1_p at hq1
        try simp only [hw, Int.toNat_natCast] at hq1
        exact exSxR8_2
      · exact ezSxR8_2
  · unfold bodyOf Try.f6
    try unfold law22_RoutingPath
    simp only [go_sem, Nat.reduceBEq, Nat.reduceLeDiff, Nat.reduceLT, decide_true, Nat.reduceAdd, Nat.reduceSub, Nat.reduceMul, Int.reduceLE, Int.reduceLT, Int.reduceToNat, Int.reduceNeg, reduceCtorEq]
    all_goals exact cl3
end Go.Sx
end
section
namespace Go.Sx
open Go.Proofs Go.Shelf Go.Sort Go.Lib
theorem runL_append {ρ σ τ : Type} (step : τ → σ → ρ ⊕ σ) : ∀ (a b : List τ) (s : σ), runL step (a ++ b) s = match runL step a s with | .inl y => .inl y | .inr s' => runL step b s'
  | [], b, s => rfl
  | x :: a, b, s => by
    simp only [List.cons_append, runL]
    cases step x s with
    | inl y => rfl
    | inr s' => exact runL_append step a b s'
theorem runL_rev {ρ σ τ : Type} (step : τ → σ → ρ ⊕ σ) (x : τ) (a : List τ) (s : σ) : runL step (x :: a).reverse s = match runL step a.reverse s with | .inl y => .inl y | .inr s' => step x s' := by
  rw [List.reverse_cons, runL_append]
  cases runL step a.reverse s with
  | inl y => rfl
  | inr s' =>
    simp only [runL]
    cases step x s' <;> rfl
theorem runL_map {ρ σ τ υ : Type} (g : τ → υ) (step : υ → σ → ρ ⊕ σ) : ∀ (l : List τ) (s : σ), runL (fun x s => step (g x) s) l s = runL step (l.map g) s
  | [], _ => rfl
  | x :: l, s => by
    simp only [runL, List.map_cons]
    cases step (g x) s with
    | inl y => rfl
    | inr s' => exact runL_map g step l s'
theorem backL_snd : ∀ (l : List Int) (k : Nat), k ≤ l.length → (backL l k).map Prod.snd = (l.take k).reverse
  | l, 0, _ => by simp [backL]
  | l, k + 1, h => by
    rw [backL, List.map_cons, backL_snd l k (by omega), List.take_succ_eq_append_getElem (by omega), List.reverse_append]
    have : l.getD k 0 = l[k] := getD_el l 0 (by omega)
    simp only [List.reverse_cons, List.reverse_nil, List.nil_append, List.singleton_append, this]
def arr (x : Reach) (v : Int) : Int := if x.siphon ≤ v then wst x v else 0
def arrU (d : District) : List Int → Int → Int
  | [], v => v
  | r :: u, v => arr (rch d r) (arrU d u v)
def needU (d : District) : List Int → Int → Int × Bool
  | [], w => (w, true)
  | r :: u, w => if (routing_intake (rch d r) w).2 = true then needU d u (routing_intake (rch d r) w).1 else (0, false)
def delU (d : District) : List Int → Int
  | [] => 0
  | r :: u => (rch d r).delay + delU d u
section
variable {d : District}
theorem arr_nn (hr : Right1 d) {r v : Int} (h0 : 0 ≤ r) (h1 : r < (d.reaches.length : Int)) (v0 : 0 ≤ v) (v1 : v ≤ 1073741824) : 0 ≤ arr (rch d r) v ∧ arr (rch d r) v ≤ v := by
  have hx : expand_reach (r.toNat : Int) (rch d r) = true := hr.reach r.toNat (by omega)
  have := wst_nn hx v0 v1
  unfold arr; split <;> omega
theorem arrU_nn (hr : Right1 d) : ∀ {u : List Int}, (∀ x ∈ u, 0 ≤ x ∧ x < (d.reaches.length : Int)) → ∀ {v : Int}, 0 ≤ v → v ≤ 1073741824 → 0 ≤ arrU d u v ∧ arrU d u v ≤ v
  | [], _, v, v0, v1 => ⟨v0, Int.le_refl _⟩
  | r :: u, hu, v, v0, v1 => by
    have ih := arrU_nn hr (u := u) (fun x hx => hu x (List.mem_cons_of_mem _ hx)) v0 v1
    have hx := hu r List.mem_cons_self
    have := arr_nn hr hx.1 hx.2 ih.1 (by omega)
    simp only [arrU]; omega
theorem arr_ge (hr : Right1 d) {r v w : Int} (h0 : 0 ≤ r) (h1 : r < (d.reaches.length : Int)) (v0 : 0 ≤ v) (v1 : v ≤ 1073741824) (hw : 1 ≤ w) : w ≤ arr (rch d r) v ↔ (routing_intake (rch d r) w).2 = true ∧ (routing_intake (rch d r) w).1 ≤ v := by
  have hx : expand_reach (r.toNat : Int) (rch d r) = true := hr.reach r.toNat (by omega)
  rcases intake_ok (i := (r.toNat : Int)) (by omega) hx hw with ⟨n, e, e1, e2, e3, e4, e5⟩ | ⟨e, e1⟩
  · rw [e]
    simp only [true_and]
    unfold arr
    constructor
    · intro h
      split at h
      · exact e5 v v0 v1 (by assumption) h
      · omega
    · intro h
      rw [if_pos (by omega)]
      have := wst_mono hx (by omega : 0 ≤ n) h v1
      omega
  · rw [e]
    simp only [Bool.false_eq_true, false_and, iff_false]
    have := e1 v v0 v1
    unfold arr
    split
    · have e2 : ∀ z, wst (d.reaches.getD r.toNat default) z = wst (rch d r) z := fun _ => rfl
      omega
    · omega
theorem intake_pos (hr : Right1 d) {r w : Int} (h0 : 0 ≤ r) (h1 : r < (d.reaches.length : Int)) (hw : 1 ≤ w) (h : (routing_intake (rch d r) w).2 = true) : 1 ≤ (routing_intake (rch d r) w).1 ∧ (routing_intake (rch d r) w).1 ≤ 1073741824 := by
  have hx : expand_reach (r.toNat : Int) (rch d r) = true := hr.reach r.toNat (by omega)
  rcases intake_ok (i := (r.toNat : Int)) (by omega) hx hw with ⟨n, e, e1, e2, e3, e4, e5⟩ | ⟨e, e1⟩
  · have e' : routing_intake (rch d r) w = (n, true) := e
    rw [e']; exact ⟨e1, e2⟩
  · have e' : (routing_intake (rch d r) w).2 = false := e
    rw [e'] at h; cases h
theorem need_iff (hr : Right1 d) : ∀ {u : List Int}, (∀ x ∈ u, 0 ≤ x ∧ x < (d.reaches.length : Int)) → ∀ {v w : Int}, 0 ≤ v → v ≤ 1073741824 → 1 ≤ w → (w ≤ arrU d u v ↔ (needU d u w).2 = true ∧ (needU d u w).1 ≤ v)
  | [], _, v, w, _, _, _ => by simp [arrU, needU]
  | r :: u, hu, v, w, v0, v1, hw => by
    have hu' : ∀ x ∈ u, 0 ≤ x ∧ x < (d.reaches.length : Int) := fun x hx => hu x (List.mem_cons_of_mem _ hx)
    have hx := hu r List.mem_cons_self
    have ha := arrU_nn hr hu' v0 v1
    simp only [arrU, needU]
    rw [arr_ge hr hx.1 hx.2 ha.1 (by omega) hw]
    by_cases h : (routing_intake (rch d r) w).2 = true
    · rw [if_pos h]
      have hp := intake_pos hr hx.1 hx.2 hw h
      rw [need_iff hr hu' v0 v1 hp.1]
      simp only [h, true_and]
    · rw [if_neg h]
      simp only [h, false_and, Bool.false_eq_true]
theorem delU_nn (hr : Right1 d) : ∀ {u : List Int}, (∀ x ∈ u, 0 ≤ x ∧ x < (d.reaches.length : Int)) → 0 ≤ delU d u ∧ delU d u ≤ u.length * 16
  | [], _ => by simp [delU]
  | r :: u, hu => by
    have ih := delU_nn hr (u := u) fun x hx => hu x (List.mem_cons_of_mem _ hx)
    have hx := hu r List.mem_cons_self
    have := delay_pos hr (r := r.toNat) (by omega)
    rw [show ((r.toNat : Nat) : Int) = r from Int.toNat_of_nonneg hx.1] at this
    simp only [delU, List.length_cons]; omega
theorem worst_run (hr : Right1 d) : ∀ {u : List Int}, (∀ x ∈ u, 0 ≤ x ∧ x < (d.reaches.length : Int)) → ∀ {v : Int}, 0 ≤ v → v ≤ 1073741824 → ∀ {step : Int → Int → Empty ⊕ Int}, (∀ z s, step z s = bif decide (s ≥ (rch d z).siphon) then .inr (losses_Worst (rch d z) s).1 else .inr 0) → runL step u.reverse v = .inr (arrU d u v)
  | [], _, v, _, _, step, _ => rfl
  | r :: u, hu, v, v0, v1, step, hs => by
    have hu' : ∀ x ∈ u, 0 ≤ x ∧ x < (d.reaches.length : Int) := fun x hx => hu x (List.mem_cons_of_mem _ hx)
    have hx := hu r List.mem_cons_self
    have ha := arrU_nn hr hu' v0 v1
    have hxr : expand_reach (r.toNat : Int) (rch d r) = true := hr.reach r.toNat (by omega)
    rw [runL_rev, worst_run hr hu' v0 v1 hs]
    simp only [hs, arrU, arr]
    rw [losses_worst hxr ha.1 (by omega)]
    by_cases q : (rch d r).siphon ≤ arrU d u v
    · rw [decide_eq_true q, if_pos q]; rfl
    · rw [decide_eq_false q, if_neg q]; rfl
theorem pathW_eq {end_ v : Int} (h : PathOk d end_) (v0 : 0 ≤ v) (v1 : v ≤ 1073741824) : routing_Worst d end_ v = (arrU d (canals_up d end_) v, 0) := by
  rcases path_cases d end_ v with ⟨_, _, _, e⟩ | ⟨_, h2, _⟩ | ⟨h2, _⟩
  · unfold routing_Worst
    rw [e]
    simp only [bne_self_eq_false, cond_false]
    have e2 : runI (routing_Worst_l0 d end_ v) (canals_up d end_).reverse.length 0 v = runL (fun z s => bif decide (s ≥ (rch d z).siphon) then .inr (losses_Worst (rch d z) s).1 else .inr 0) (canals_up d end_).reverse v := by
      have := runI_eq_runL (ρ := Empty) (fun z s => bif decide (s ≥ (rch d z).siphon) then .inr (losses_Worst (rch d z) s).1 else .inr 0) (0 : Int) (canals_up d end_).reverse v
      rw [← this]
      congr 1
      funext k s
      unfold routing_Worst_l0
      rw [e]
    rw [e2, worst_run h.right h.up.2.2 v0 v1 fun _ _ => rfl]
  · exact absurd ⟨v0, v1⟩ h2
  · exact absurd h h2
theorem need_run (hr : Right1 d) : ∀ {u : List Int}, (∀ x ∈ u, 0 ≤ x ∧ x < (d.reaches.length : Int)) → ∀ {w : Int} {b : Bool} {step : Int → Int × Bool → Int ⊕ (Int × Bool)}, (∀ z s, step z s = bif (!(routing_intake (rch d z) s.1).2) then .inl (routing_intake (rch d z) s.1).1 else .inr ((routing_intake (rch d z) s.1).1, (routing_intake (rch d z) s.1).2)) →
    ((needU d u w).2 = true → ∃ b', runL step u (w, b) = .inr ((needU d u w).1, b')) ∧ ((needU d u w).2 = false → ∃ y, runL step u (w, b) = .inl y)
  | [], _, w, b, step, _ => ⟨fun _ => ⟨b, rfl⟩, fun h => by simp [needU] at h⟩
  | r :: u, hu, w, b, step, hs => by
    have hu' : ∀ x ∈ u, 0 ≤ x ∧ x < (d.reaches.length : Int) := fun x hx => hu x (List.mem_cons_of_mem _ hx)
    have hrun : ∀ s, runL step (r :: u) s = match step r s with | .inl y => .inl y | .inr s' => runL step u s' := fun s => by
      simp only [runL]
      cases step r s <;> rfl
    rw [hrun, hs]
    simp only [needU]
    by_cases h : (routing_intake (rch d r) w).2 = true
    · rw [h]
      simp only [Bool.not_true, cond_false, if_true]
      exact need_run hr hu' hs
    · have h' : (routing_intake (rch d r) w).2 = false := by simpa using h
      rw [h']
      exact ⟨fun e => by simp at e, fun _ => ⟨_, rfl⟩⟩
theorem needU_no {w : Int} : ∀ {u : List Int} {w : Int}, (needU d u w).2 = false → (needU d u w).1 = 0
  | [], w, h => by simp [needU] at h
  | r :: u, w, h => by
    simp only [needU] at h ⊢
    split at h
    · rename_i q; rw [if_pos q]; exact needU_no (w := 0) h
    · rename_i q; rw [if_neg q]
theorem pathN_eq {end_ w : Int} (h : PathOk d end_) (w0 : 0 ≤ w) (w1 : w ≤ 1073741824) : routing_Need d end_ w = ((needU d (canals_up d end_) w).1, (needU d (canals_up d end_) w).2, 0) := by
  rcases path_cases d end_ w with ⟨_, _, _, e⟩ | ⟨_, h2, _⟩ | ⟨h2, _⟩
  · unfold routing_Need slices_Backward
    rw [e]
    simp only [bne_self_eq_false, cond_false]
    have e2 : runL (routing_Need_l0 d end_ w) (backL (canals_up d end_).reverse (canals_up d end_).reverse.length) (w, false) = runL (fun z (s : Int × Bool) => bif (!(routing_intake (rch d z) s.1).2) then .inl (routing_intake (rch d z) s.1).1 else .inr ((routing_intake (rch d z) s.1).1, (routing_intake (rch d z) s.1).2)) (canals_up d end_) (w, false) := by
      have := runL_map (ρ := Int) Prod.snd (fun z (s : Int × Bool) => bif (!(routing_intake (rch d z) s.1).2) then .inl (routing_intake (rch d z) s.1).1 else .inr ((routing_intake (rch d z) s.1).1, (routing_intake (rch d z) s.1).2)) (backL (canals_up d end_).reverse (canals_up d end_).reverse.length) (w, false)
      rw [backL_snd _ _ (Nat.le_refl _), List.take_length, List.reverse_reverse] at this
      rw [← this]
      rfl
    rw [e2]
    obtain ⟨h1, h2⟩ := need_run (d := d) h.right h.up.2.2 (w := w) (b := false) (step := fun z (s : Int × Bool) => bif (!(routing_intake (rch d z) s.1).2) then .inl (routing_intake (rch d z) s.1).1 else .inr ((routing_intake (rch d z) s.1).1, (routing_intake (rch d z) s.1).2)) fun _ _ => rfl
    cases hq : (needU d (canals_up d end_) w).2 with
    | true =>
      obtain ⟨b', e3⟩ := h1 hq
      rw [e3]
    | false =>
      obtain ⟨y, e3⟩ := h2 hq
      rw [e3, needU_no (w := 0) hq]
  · exact absurd ⟨w0, w1⟩ h2
  · exact absurd h h2
theorem delay_run (hr : Right1 d) {end_ : Int} : ∀ {u : List Int}, (∀ x ∈ u, 0 ≤ x ∧ x < (d.reaches.length : Int)) → u.length ≤ 64 → ∀ {s : Int}, 0 ≤ s → s + (u.length : Int) * 16 ≤ 2000000 → runL (canals_Delay_l0 d end_) u s = .inr (s + delU d u)
  | [], _, _, s, _, _ => by simp [runL, delU]
  | r :: u, hu, hl, s, s0, s1 => by
    have hu' : ∀ x ∈ u, 0 ≤ x ∧ x < (d.reaches.length : Int) := fun x hx => hu x (List.mem_cons_of_mem _ hx)
    have hx := hu r List.mem_cons_self
    have hd := delay_pos hr (r := r.toNat) (by omega)
    rw [show ((r.toNat : Nat) : Int) = r from Int.toNat_of_nonneg hx.1] at hd
    have hl' : u.length + 1 ≤ 64 := by rwa [List.length_cons] at hl
    have s1' : s + ((u.length : Int) + 1) * 16 ≤ 2000000 := by rw [List.length_cons] at s1; exact s1
    have e : IntKind.i64.wrap (s + (d.reaches.getD (Int.toNat r) default).delay) = s + (rch d r).delay := wrapI (by show -9223372036854775808 ≤ s + (rch d r).delay; omega) (by show s + (rch d r).delay < 9223372036854775808; omega)
    have ih := delay_run (end_ := end_) (s := s + (rch d r).delay) hr hu' (by omega) (by omega) (by omega)
    have e2 : runL (canals_Delay_l0 d end_) (r :: u) s = runL (canals_Delay_l0 d end_) u (IntKind.i64.wrap (s + (d.reaches.getD (Int.toNat r) default).delay)) := rfl
    rw [e2, e, ih, delU, Int.add_assoc]
theorem delay_eq {end_ : Int} (h : PathOk d end_) : canals_Delay d end_ = (delU d (canals_up d end_), 0) := by
  unfold canals_Delay
  rw [(path_iff d end_).2 h]
  simp only [bne_self_eq_false, cond_false]
  have hu := h.up
  rw [delay_run h.right hu.2.2 hu.2.1 (Int.le_refl 0) (by omega), Int.zero_add]
theorem delayD_p (d : District) (end_ : Int) : canals_Delay_p d end_ := fun h => by
  have hp := (path_iff d end_).1 (by simpa using h)
  have hu := hp.up
  exact ⟨hu.1, okL_all _ _ fun x hx s => hu.2.2 x hx⟩
end
end Go.Sx
end
section
namespace Go.Sx
open Go.Proofs Go.Shelf Go.Sort Go.Lib
section
variable {d : District}
def cpL (d : District) : Nat → Int → Int → List (Int × Int)
  | 0, _, _ => []
  | f + 1, n, h => if 0 ≤ n then (n, h) :: cpL d f (rch d n).up (h - (rch d n).delay) else []
theorem upL_cons {f : Nat} {n : Int} (h : 0 ≤ n) : upL d (f + 1) n = n :: upL d f (rch d n).up := by
  rw [upL, if_pos h]; rfl
theorem cpL_cons {f : Nat} {n h : Int} (h0 : 0 ≤ n) : cpL d (f + 1) n h = (n, h) :: cpL d f (rch d n).up (h - (rch d n).delay) := by
  rw [cpL, if_pos h0]
theorem cpL_neg {f : Nat} {n h : Int} (h0 : ¬ 0 ≤ n) : cpL d f n h = [] := by
  cases f with
  | zero => rfl
  | succ f => rw [cpL, if_neg h0]
theorem upI_lt (hr : Right1 d) {n : Int} (h0 : 0 ≤ n) (h1 : n < (d.reaches.length : Int)) : (rch d n).up < n := by
  have := up_lt hr (r := n.toNat) (by omega)
  rwa [show ((n.toNat : Nat) : Int) = n from Int.toNat_of_nonneg h0] at this
theorem delI (hr : Right1 d) {n : Int} (h0 : 0 ≤ n) (h1 : n < (d.reaches.length : Int)) : 1 ≤ (rch d n).delay ∧ (rch d n).delay ≤ 16 := by
  have := delay_pos hr (r := n.toNat) (by omega)
  rwa [show ((n.toNat : Nat) : Int) = n from Int.toNat_of_nonneg h0] at this
theorem cpL_fst (hr : Right1 d) : ∀ (f : Nat) (n h : Int), n < (d.reaches.length : Int) → (cpL d f n h).map Prod.fst = upL d f n ∧ ∀ e ∈ cpL d f n h, 0 ≤ e.1 ∧ e.1 ≤ n
  | 0, n, h, _ => ⟨rfl, fun e he => by cases he⟩
  | f + 1, n, h, h1 => by
    by_cases h0 : 0 ≤ n
    · have hup := upI_lt hr h0 h1
      obtain ⟨i1, i2⟩ := cpL_fst hr f (rch d n).up (h - (rch d n).delay) (by omega)
      rw [cpL_cons h0, upL_cons h0]
      refine ⟨by rw [List.map_cons, i1], fun e he => ?_⟩
      rcases List.mem_cons.1 he with rfl | he
      · exact ⟨h0, Int.le_refl _⟩
      · have := i2 e he; omega
    · rw [cpL_neg h0, upL_end h0]; exact ⟨rfl, fun e he => by cases he⟩
theorem cpL_below (hr : Right1 d) : ∀ (f : Nat) (n h : Int), n < (d.reaches.length : Int) → ∀ a ∈ cpL d f n h, ∀ b ∈ cpL d f n h, b.1 < a.1 → b.1 ≤ (rch d a.1).up
  | 0, n, h, _ => fun a ha => by cases ha
  | f + 1, n, h, h1 => fun a ha b hb hlt => by
    by_cases h0 : 0 ≤ n
    · have hup := upI_lt hr h0 h1
      have hf := (cpL_fst hr f (rch d n).up (h - (rch d n).delay) (by omega)).2
      rw [cpL_cons h0] at ha hb
      rcases List.mem_cons.1 ha with rfl | ha <;> rcases List.mem_cons.1 hb with rfl | hb
      · omega
      · exact (hf b hb).2
      · have := (hf a ha).2; simp only at hlt; omega
      · exact cpL_below hr f _ _ (by omega) a ha b hb hlt
    · rw [cpL_neg h0] at ha; cases ha
theorem cpL_next (hr : Right1 d) : ∀ (f : Nat) (n h : Int), n < (d.reaches.length : Int) → n < f → ∀ a ∈ cpL d f n h, 0 ≤ (rch d a.1).up → ((rch d a.1).up, a.2 - (rch d a.1).delay) ∈ cpL d f n h
  | 0, n, h, _, _ => fun a ha => by cases ha
  | f + 1, n, h, h1, h2 => fun a ha hu => by
    by_cases h0 : 0 ≤ n
    · have hup := upI_lt hr h0 h1
      rw [cpL_cons h0] at ha ⊢
      rcases List.mem_cons.1 ha with rfl | ha
      · refine List.mem_cons_of_mem _ ?_
        simp only at hu ⊢
        cases f with
        | zero => omega
        | succ f => rw [cpL_cons hu]; exact List.mem_cons_self
      · exact List.mem_cons_of_mem _ (cpL_next hr f _ _ (by omega) (by omega) a ha hu)
    · rw [cpL_neg h0] at ha; cases ha
abbrev endOf (d : District) (x : Order) : Int := (d.farms.getD x.index.toNat default).reach
structure One (d : District) (x : Order) (gs : List Order) (R : Int) : Prop where
  right : Right1 d
  out : x.outlet = true
  l1 : 1 ≤ x.litres
  e0 : 0 ≤ endOf d x
  e1 : endOf d x < (d.reaches.length : Int)
  gate : ∀ y ∈ gs, PG d ([x] ++ gs) y
  uniq : gs.Pairwise fun x y => ¬ (x.index = y.index ∧ x.hour = y.hour)
  all : ∀ a b, R < a → 0 ≤ a → a < (d.reaches.length : Int) → 0 ≤ b → b < d.hours → drw d ([x] ++ gs) a b ≠ 0 → ∃ y ∈ gs, y.index = a ∧ y.hour + (rch d a).delay = b
abbrev cpX (d : District) (x : Order) : List (Int × Int) := cpL d ((endOf d x).toNat + 1) (endOf d x) x.hour
variable {x : Order} {gs : List Order} {R : Int}
theorem One.src (o : One d x gs R) {r h : Int} (hd : drw d ([x] ++ gs) r h ≠ 0) : (r = endOf d x ∧ h = x.hour) ∨ ∃ y ∈ gs, (rch d y.index).up = r ∧ y.hour = h := by
  obtain ⟨y, hy, hp⟩ := osum_ne hd
  rcases List.mem_append.1 hy with hy | hy
  · rw [List.mem_singleton] at hy
    subst hy
    unfold drawP at hp
    rw [o.out] at hp
    simp only [Bool.true_and, Bool.not_true, Bool.false_and, Bool.or_false, Bool.and_eq_true, beq_iff_eq] at hp
    exact .inl ⟨hp.2.symm, hp.1.symm⟩
  · unfold drawP at hp
    rw [(o.gate y hy).out] at hp
    simp only [Bool.false_and, Bool.not_false, Bool.true_and, Bool.false_or, Bool.and_eq_true, beq_iff_eq] at hp
    exact .inr ⟨y, hy, hp.2, hp.1⟩
theorem One.on (o : One d x gs R) : ∀ (k : Nat) (y : Order), y ∈ gs → (d.reaches.length : Int) - y.index ≤ k → (y.index, y.hour + (rch d y.index).delay) ∈ cpX d x := by
  have h0 := o.e0
  have h1 := o.e1
  intro k
  induction k with
  | zero => intro y hy hn; have := (o.gate y hy).i1; omega
  | succ k ih =>
    intro y hy hn
    have g := o.gate y hy
    have hw := g.w
    rcases o.src (by omega : drw d ([x] ++ gs) y.index (y.hour + (rch d y.index).delay) ≠ 0) with ⟨e1, e2⟩ | ⟨z, hz, e1, e2⟩
    · rw [e1, ← e1, e2, e1]
      unfold cpX
      rw [cpL_cons h0]; exact List.mem_cons_self
    · have gz := o.gate z hz
      have hup := upI_lt o.right gz.i0 gz.i1
      have := cpL_next o.right _ _ _ h1 (by omega) _ (ih z hz (by omega)) (by show 0 ≤ (rch d z.index).up; rw [e1]; exact g.i0)
      simp only at this
      rw [e1, show z.hour + (rch d z.index).delay - (rch d z.index).delay = z.hour by omega, e2] at this
      exact this
theorem One.onc (o : One d x gs R) {y : Order} (hy : y ∈ gs) : (y.index, y.hour + (rch d y.index).delay) ∈ cpX d x := o.on d.reaches.length y hy (by have := (o.gate y hy).i0; omega)
theorem One.step (o : One d x gs R) (hh : x.hour < d.hours) {n h w : Int} (hn : R < n) (hc : (n, h) ∈ cpX d x) (hb0 : 0 ≤ h) (hb1 : h < d.hours) (hw : drw d ([x] ++ gs) n h = w) (w1 : 1 ≤ w) :
    ∃ y ∈ gs, y.index = n ∧ y.hour = h - (rch d n).delay ∧ 0 ≤ y.hour ∧ routing_intake (rch d n) w = (y.litres, true) ∧ 1 ≤ y.litres ∧ (0 ≤ (rch d n).up → drw d ([x] ++ gs) (rch d n).up (h - (rch d n).delay) = y.litres ∧ ((rch d n).up, h - (rch d n).delay) ∈ cpX d x) := by
  have h0 := o.e0
  have h1 := o.e1
  have hf := (cpL_fst o.right _ _ _ h1).2 _ hc
  simp only at hf
  have hup := upI_lt o.right hf.1 (by omega)
  obtain ⟨y, hy, y1, y2⟩ := o.all n h hn hf.1 (by omega) hb0 hb1 (by omega)
  have g := o.gate y hy
  have gv := g.v
  rw [y1, show y.hour + (rch d n).delay = h from y2, hw] at gv
  have gl := gate_lit o.right g
  refine ⟨y, hy, y1, by omega, g.h0, gv, gl.1, fun hu => ?_⟩
  have hnx := cpL_next o.right _ _ _ h1 (by omega) _ hc hu
  refine ⟨?_, hnx⟩
  have hkeys : ([x] ++ gs).Pairwise fun x y => ¬ K x y := by
    rw [List.pairwise_append]
    refine ⟨List.pairwise_singleton _ _, o.uniq.imp fun {x y} q k => q ⟨k.2.1, k.1⟩, fun a ha b hb k => ?_⟩
    rw [List.mem_singleton] at ha
    subst ha
    have := k.2.2
    rw [o.out, (o.gate b hb).out] at this
    cases this
  have key : ∀ z ∈ [x] ++ gs, drawP d (rch d n).up (h - (rch d n).delay) z = true → z.outlet = false ∧ z.index = n ∧ z.hour = h - (rch d n).delay := fun z hz hp => by
    rcases List.mem_append.1 hz with hz | hz
    · exfalso
      rw [List.mem_singleton] at hz
      subst hz
      unfold drawP at hp
      rw [o.out] at hp
      simp only [Bool.true_and, Bool.not_true, Bool.false_and, Bool.or_false, Bool.and_eq_true, beq_iff_eq] at hp
      have : endOf d z = (rch d n).up := hp.2
      omega
    · have gz := o.gate z hz
      unfold drawP at hp
      rw [gz.out] at hp
      simp only [Bool.false_and, Bool.not_false, Bool.true_and, Bool.false_or, Bool.and_eq_true, beq_iff_eq] at hp
      have e1 : (rch d z.index).up = (rch d n).up := hp.2
      have hcz := o.onc hz
      have hupz := upI_lt o.right gz.i0 gz.i1
      refine ⟨gz.out, ?_, hp.1⟩
      rcases Int.lt_trichotomy z.index n with q | q | q
      · have := cpL_below o.right _ _ _ h1 _ hc _ hcz q
        simp only at this; omega
      · exact q
      · have := cpL_below o.right _ _ _ h1 _ hcz _ hc q
        simp only at this; omega
  have hyp : drawP d (rch d n).up (h - (rch d n).delay) y = true := by
    unfold drawP
    rw [g.out, y1, show y.hour = h - (rch d n).delay by omega]
    simp
  have hym : y ∈ [x] ++ gs := List.mem_append_right _ hy
  have hone : ∀ l : List Order, l.Pairwise (fun x y => ¬ K x y) → (∀ z ∈ l, drawP d (rch d n).up (h - (rch d n).delay) z = true → z.outlet = false ∧ z.index = n ∧ z.hour = h - (rch d n).delay) → y ∈ l → osum (drawP d (rch d n).up (h - (rch d n).delay)) l = y.litres := fun l hk hl hyl => by
    obtain ⟨i, hi, hiy⟩ := List.getElem_of_mem hyl
    subst hiy
    refine osum_one hi hyp fun j hj hne => ?_
    cases hq : drawP d (rch d n).up (h - (rch d n).delay) l[j] with
    | false => rfl
    | true =>
      exfalso
      have a1 := hl _ (List.getElem_mem hj) hq
      have a2 := hl _ (List.getElem_mem hi) hyp
      have hK : K l[i] l[j] := ⟨by rw [a1.2.2, a2.2.2], by rw [a1.2.1, a2.2.1], by rw [a1.1, a2.1]⟩
      rw [List.pairwise_iff_getElem] at hk
      rcases Nat.lt_trichotomy i j with q | q | q
      · exact hk i j hi hj q hK
      · exact hne q.symm
      · exact hk j i hj hi q hK.symm
  exact hone _ hkeys key hym
theorem One.start (o : One d x gs R) : drw d ([x] ++ gs) (endOf d x) x.hour = x.litres ∧ (endOf d x, x.hour) ∈ cpX d x := by
  refine ⟨?_, by unfold cpX; rw [cpL_cons o.e0]; exact List.mem_cons_self⟩
  rw [drw_app, drw_one]
  have e1 : drawP d (endOf d x) x.hour x = true := by unfold drawP; rw [o.out]; simp only [beq_self_eq_true, Bool.true_and, Bool.not_true, Bool.false_and, Bool.or_false]
  rw [e1]
  have : drw d gs (endOf d x) x.hour = 0 := osum_none fun y hy => by
    cases hq : drawP d (endOf d x) x.hour y with
    | false => rfl
    | true =>
      exfalso
      have g := o.gate y hy
      unfold drawP at hq
      rw [g.out] at hq
      simp only [Bool.false_and, Bool.not_false, Bool.true_and, Bool.false_or, Bool.and_eq_true, beq_iff_eq] at hq
      have e : (rch d y.index).up = endOf d x := hq.2
      have h1 := o.e1
      have := (cpL_fst o.right _ _ _ h1).2 _ (o.onc hy)
      have := upI_lt o.right g.i0 g.i1
      simp only at *
      omega
  rw [this]; exact Int.add_zero _
end
end Go.Sx
end
section
namespace Go.Sx
open Go.Proofs
set_option maxRecDepth 100000
set_option linter.unusedSimpArgs false
@[go_sem] def law22_RoutingFewer_l0 (a0 : District) (a1 : List Order) (a2 : Int) (a3 : Int) (k_0 : Acequialaw22Place × Int) (s_0 : Unit) : Unit ⊕ Unit := (bif (decide ((mgetT .acequialaw22Place .int (law22_gates ((routing_Plan a0 a1).1)) k_0.1) < k_0.2)) then .inl () else .inr ())
def law22_RoutingFewer_l0_p (a0 : District) (a1 : List Order) (a2 : Int) (a3 : Int) (k_0 : Acequialaw22Place × Int) (s_0 : Unit) : Prop := True
@[go_sem] def law22_RoutingFewer_l1 (a0 : District) (a1 : List Order) (a2 : Int) (k_1 : Acequialaw22Place × Int) (s_1 : Unit) : Unit ⊕ Unit := (bif (decide ((mgetT .acequialaw22Place .int (law22_gates ((routing_Plan a0 a1).1)) k_1.1) < k_1.2)) then .inl () else .inr ())
def law22_RoutingFewer_l1_p (a0 : District) (a1 : List Order) (a2 : Int) (k_1 : Acequialaw22Place × Int) (s_1 : Unit) : Prop := True
def law22_RoutingFewer (a0 : District) (a1 : List Order) (a2 : Int) (a3 : Int) : Bool := (bif (!law22_sane) then false else (bif ((!(ref22_Few a0 a1)) || ((a1.length : Int) == 0)) then true else (bif (((routing_Plan a0 a1).2.2 != 0) || (!(routing_Plan a0 a1).2.1)) then true else (bif ((decide (a3 > 0)) && (decide (a3 < (a1.getD (Int.toNat (Int.tmod (IntKind.i64.wrap a2) (a1.length : Int))) (default : Order)).litres))) then (bif (((routing_Plan a0 (((([]) ++ ((a1.take (Int.toNat (Int.tmod (IntKind.i64.wrap a2) (a1.length : Int)))).drop 0)) ++ ([({ hour := (a1.getD (Int.toNat (Int.tmod (IntKind.i64.wrap a2) (a1.length : Int))) (default : Order)).hour, index := (a1.getD (Int.toNat (Int.tmod (IntKind.i64.wrap a2) (a1.length : Int))) (default : Order)).index, litres := (IntKind.i64.wrap ((a1.getD (Int.toNat (Int.tmod (IntKind.i64.wrap a2) (a1.length : Int))) (default : Order)).litres - a3)), outlet := (a1.getD (Int.toNat (Int.tmod (IntKind.i64.wrap a2) (a1.length : Int))) (default : Order)).outlet } : Order)])) ++ ((a1.take (Int.toNat (a1.length : Int))).drop (Int.toNat (IntKind.i64.wrap ((Int.tmod (IntKind.i64.wrap a2) (a1.length : Int)) + 1)))))).2.2 != 0) || (!(routing_Plan a0 (((([]) ++ ((a1.take (Int.toNat (Int.tmod (IntKind.i64.wrap a2) (a1.length : Int)))).drop 0)) ++ ([({ hour := (a1.getD (Int.toNat (Int.tmod (IntKind.i64.wrap a2) (a1.length : Int))) (default : Order)).hour, index := (a1.getD (Int.toNat (Int.tmod (IntKind.i64.wrap a2) (a1.length : Int))) (default : Order)).index, litres := (IntKind.i64.wrap ((a1.getD (Int.toNat (Int.tmod (IntKind.i64.wrap a2) (a1.length : Int))) (default : Order)).litres - a3)), outlet := (a1.getD (Int.toNat (Int.tmod (IntKind.i64.wrap a2) (a1.length : Int))) (default : Order)).outlet } : Order)])) ++ ((a1.take (Int.toNat (a1.length : Int))).drop (Int.toNat (IntKind.i64.wrap ((Int.tmod (IntKind.i64.wrap a2) (a1.length : Int)) + 1)))))).2.1)) then false else (match runL (law22_RoutingFewer_l0 a0 a1 a2 a3) (law22_gates ((routing_Plan a0 (((([]) ++ ((a1.take (Int.toNat (Int.tmod (IntKind.i64.wrap a2) (a1.length : Int)))).drop 0)) ++ ([({ hour := (a1.getD (Int.toNat (Int.tmod (IntKind.i64.wrap a2) (a1.length : Int))) (default : Order)).hour, index := (a1.getD (Int.toNat (Int.tmod (IntKind.i64.wrap a2) (a1.length : Int))) (default : Order)).index, litres := (IntKind.i64.wrap ((a1.getD (Int.toNat (Int.tmod (IntKind.i64.wrap a2) (a1.length : Int))) (default : Order)).litres - a3)), outlet := (a1.getD (Int.toNat (Int.tmod (IntKind.i64.wrap a2) (a1.length : Int))) (default : Order)).outlet } : Order)])) ++ ((a1.take (Int.toNat (a1.length : Int))).drop (Int.toNat (IntKind.i64.wrap ((Int.tmod (IntKind.i64.wrap a2) (a1.length : Int)) + 1)))))).1)) () with | .inl x_0_0 => false | .inr s_0 => ((((routing_Fits a0 ((routing_Plan a0 a1).1)).2.2.2 == 0) && ((routing_Fits a0 ((routing_Plan a0 (((([]) ++ ((a1.take (Int.toNat (Int.tmod (IntKind.i64.wrap a2) (a1.length : Int)))).drop 0)) ++ ([({ hour := (a1.getD (Int.toNat (Int.tmod (IntKind.i64.wrap a2) (a1.length : Int))) (default : Order)).hour, index := (a1.getD (Int.toNat (Int.tmod (IntKind.i64.wrap a2) (a1.length : Int))) (default : Order)).index, litres := (IntKind.i64.wrap ((a1.getD (Int.toNat (Int.tmod (IntKind.i64.wrap a2) (a1.length : Int))) (default : Order)).litres - a3)), outlet := (a1.getD (Int.toNat (Int.tmod (IntKind.i64.wrap a2) (a1.length : Int))) (default : Order)).outlet } : Order)])) ++ ((a1.take (Int.toNat (a1.length : Int))).drop (Int.toNat (IntKind.i64.wrap ((Int.tmod (IntKind.i64.wrap a2) (a1.length : Int)) + 1)))))).1)).2.2.2 == 0)) && ((!(routing_Fits a0 ((routing_Plan a0 a1).1)).1) || (routing_Fits a0 ((routing_Plan a0 (((([]) ++ ((a1.take (Int.toNat (Int.tmod (IntKind.i64.wrap a2) (a1.length : Int)))).drop 0)) ++ ([({ hour := (a1.getD (Int.toNat (Int.tmod (IntKind.i64.wrap a2) (a1.length : Int))) (default : Order)).hour, index := (a1.getD (Int.toNat (Int.tmod (IntKind.i64.wrap a2) (a1.length : Int))) (default : Order)).index, litres := (IntKind.i64.wrap ((a1.getD (Int.toNat (Int.tmod (IntKind.i64.wrap a2) (a1.length : Int))) (default : Order)).litres - a3)), outlet := (a1.getD (Int.toNat (Int.tmod (IntKind.i64.wrap a2) (a1.length : Int))) (default : Order)).outlet } : Order)])) ++ ((a1.take (Int.toNat (a1.length : Int))).drop (Int.toNat (IntKind.i64.wrap ((Int.tmod (IntKind.i64.wrap a2) (a1.length : Int)) + 1)))))).1)).1)))) else (bif (((routing_Plan a0 ((([]) ++ ((a1.take (Int.toNat (Int.tmod (IntKind.i64.wrap a2) (a1.length : Int)))).drop 0)) ++ ((a1.take (Int.toNat (a1.length : Int))).drop (Int.toNat (IntKind.i64.wrap ((Int.tmod (IntKind.i64.wrap a2) (a1.length : Int)) + 1)))))).2.2 != 0) || (!(routing_Plan a0 ((([]) ++ ((a1.take (Int.toNat (Int.tmod (IntKind.i64.wrap a2) (a1.length : Int)))).drop 0)) ++ ((a1.take (Int.toNat (a1.length : Int))).drop (Int.toNat (IntKind.i64.wrap ((Int.tmod (IntKind.i64.wrap a2) (a1.length : Int)) + 1)))))).2.1)) then false else (match runL (law22_RoutingFewer_l1 a0 a1 a2) (law22_gates ((routing_Plan a0 ((([]) ++ ((a1.take (Int.toNat (Int.tmod (IntKind.i64.wrap a2) (a1.length : Int)))).drop 0)) ++ ((a1.take (Int.toNat (a1.length : Int))).drop (Int.toNat (IntKind.i64.wrap ((Int.tmod (IntKind.i64.wrap a2) (a1.length : Int)) + 1)))))).1)) () with | .inl x_1_0 => false | .inr s_1 => ((((routing_Fits a0 ((routing_Plan a0 a1).1)).2.2.2 == 0) && ((routing_Fits a0 ((routing_Plan a0 ((([]) ++ ((a1.take (Int.toNat (Int.tmod (IntKind.i64.wrap a2) (a1.length : Int)))).drop 0)) ++ ((a1.take (Int.toNat (a1.length : Int))).drop (Int.toNat (IntKind.i64.wrap ((Int.tmod (IntKind.i64.wrap a2) (a1.length : Int)) + 1)))))).1)).2.2.2 == 0)) && ((!(routing_Fits a0 ((routing_Plan a0 a1).1)).1) || (routing_Fits a0 ((routing_Plan a0 ((([]) ++ ((a1.take (Int.toNat (Int.tmod (IntKind.i64.wrap a2) (a1.length : Int)))).drop 0)) ++ ((a1.take (Int.toNat (a1.length : Int))).drop (Int.toNat (IntKind.i64.wrap ((Int.tmod (IntKind.i64.wrap a2) (a1.length : Int)) + 1)))))).1)).1))))))))
def law22_RoutingFewer_p (a0 : District) (a1 : List Order) (a2 : Int) (a3 : Int) : Prop := ((law22_sane_p) ∧ ((!law22_sane) = false → (((!(ref22_Few a0 a1)) || ((a1.length : Int) == 0)) = false → ((routing_Plan_p a0 a1) ∧ ((((routing_Plan a0 a1).2.2 != 0) || (!(routing_Plan a0 a1).2.1)) = false → (a1.length ≤ maxL → ((a1.length : Int) ≠ 0 ∧ ((0 ≤ 0 ∧ 0 ≤ (Int.tmod (IntKind.i64.wrap a2) (a1.length : Int)) ∧ (Int.tmod (IntKind.i64.wrap a2) (a1.length : Int)) ≤ (a1.length : Int)) ∧ (((([]) ++ ((a1.take (Int.toNat (Int.tmod (IntKind.i64.wrap a2) (a1.length : Int)))).drop 0)).length * 32 ≤ maxB) ∧ ((([]) ++ ((a1.take (Int.toNat (Int.tmod (IntKind.i64.wrap a2) (a1.length : Int)))).drop 0)).length ≤ maxL → (((decide (a3 > 0)) = true → (0 ≤ (Int.tmod (IntKind.i64.wrap a2) (a1.length : Int)) ∧ (Int.tmod (IntKind.i64.wrap a2) (a1.length : Int)) < (a1.length : Int))) ∧ ((((decide (a3 > 0)) && (decide (a3 < (a1.getD (Int.toNat (Int.tmod (IntKind.i64.wrap a2) (a1.length : Int))) (default : Order)).litres))) = true → ((0 ≤ (Int.tmod (IntKind.i64.wrap a2) (a1.length : Int)) ∧ (Int.tmod (IntKind.i64.wrap a2) (a1.length : Int)) < (a1.length : Int)) ∧ ((((([]) ++ ((a1.take (Int.toNat (Int.tmod (IntKind.i64.wrap a2) (a1.length : Int)))).drop 0)) ++ ([({ hour := (a1.getD (Int.toNat (Int.tmod (IntKind.i64.wrap a2) (a1.length : Int))) (default : Order)).hour, index := (a1.getD (Int.toNat (Int.tmod (IntKind.i64.wrap a2) (a1.length : Int))) (default : Order)).index, litres := (IntKind.i64.wrap ((a1.getD (Int.toNat (Int.tmod (IntKind.i64.wrap a2) (a1.length : Int))) (default : Order)).litres - a3)), outlet := (a1.getD (Int.toNat (Int.tmod (IntKind.i64.wrap a2) (a1.length : Int))) (default : Order)).outlet } : Order)])).length * 32 ≤ maxB) ∧ (((([]) ++ ((a1.take (Int.toNat (Int.tmod (IntKind.i64.wrap a2) (a1.length : Int)))).drop 0)) ++ ([({ hour := (a1.getD (Int.toNat (Int.tmod (IntKind.i64.wrap a2) (a1.length : Int))) (default : Order)).hour, index := (a1.getD (Int.toNat (Int.tmod (IntKind.i64.wrap a2) (a1.length : Int))) (default : Order)).index, litres := (IntKind.i64.wrap ((a1.getD (Int.toNat (Int.tmod (IntKind.i64.wrap a2) (a1.length : Int))) (default : Order)).litres - a3)), outlet := (a1.getD (Int.toNat (Int.tmod (IntKind.i64.wrap a2) (a1.length : Int))) (default : Order)).outlet } : Order)])).length ≤ maxL → ((0 ≤ (IntKind.i64.wrap ((Int.tmod (IntKind.i64.wrap a2) (a1.length : Int)) + 1)) ∧ (IntKind.i64.wrap ((Int.tmod (IntKind.i64.wrap a2) (a1.length : Int)) + 1)) ≤ (a1.length : Int) ∧ (a1.length : Int) ≤ (a1.length : Int)) ∧ (((((([]) ++ ((a1.take (Int.toNat (Int.tmod (IntKind.i64.wrap a2) (a1.length : Int)))).drop 0)) ++ ([({ hour := (a1.getD (Int.toNat (Int.tmod (IntKind.i64.wrap a2) (a1.length : Int))) (default : Order)).hour, index := (a1.getD (Int.toNat (Int.tmod (IntKind.i64.wrap a2) (a1.length : Int))) (default : Order)).index, litres := (IntKind.i64.wrap ((a1.getD (Int.toNat (Int.tmod (IntKind.i64.wrap a2) (a1.length : Int))) (default : Order)).litres - a3)), outlet := (a1.getD (Int.toNat (Int.tmod (IntKind.i64.wrap a2) (a1.length : Int))) (default : Order)).outlet } : Order)])) ++ ((a1.take (Int.toNat (a1.length : Int))).drop (Int.toNat (IntKind.i64.wrap ((Int.tmod (IntKind.i64.wrap a2) (a1.length : Int)) + 1))))).length * 32 ≤ maxB) ∧ ((((([]) ++ ((a1.take (Int.toNat (Int.tmod (IntKind.i64.wrap a2) (a1.length : Int)))).drop 0)) ++ ([({ hour := (a1.getD (Int.toNat (Int.tmod (IntKind.i64.wrap a2) (a1.length : Int))) (default : Order)).hour, index := (a1.getD (Int.toNat (Int.tmod (IntKind.i64.wrap a2) (a1.length : Int))) (default : Order)).index, litres := (IntKind.i64.wrap ((a1.getD (Int.toNat (Int.tmod (IntKind.i64.wrap a2) (a1.length : Int))) (default : Order)).litres - a3)), outlet := (a1.getD (Int.toNat (Int.tmod (IntKind.i64.wrap a2) (a1.length : Int))) (default : Order)).outlet } : Order)])) ++ ((a1.take (Int.toNat (a1.length : Int))).drop (Int.toNat (IntKind.i64.wrap ((Int.tmod (IntKind.i64.wrap a2) (a1.length : Int)) + 1))))).length ≤ maxL → ((routing_Plan_p a0 (((([]) ++ ((a1.take (Int.toNat (Int.tmod (IntKind.i64.wrap a2) (a1.length : Int)))).drop 0)) ++ ([({ hour := (a1.getD (Int.toNat (Int.tmod (IntKind.i64.wrap a2) (a1.length : Int))) (default : Order)).hour, index := (a1.getD (Int.toNat (Int.tmod (IntKind.i64.wrap a2) (a1.length : Int))) (default : Order)).index, litres := (IntKind.i64.wrap ((a1.getD (Int.toNat (Int.tmod (IntKind.i64.wrap a2) (a1.length : Int))) (default : Order)).litres - a3)), outlet := (a1.getD (Int.toNat (Int.tmod (IntKind.i64.wrap a2) (a1.length : Int))) (default : Order)).outlet } : Order)])) ++ ((a1.take (Int.toNat (a1.length : Int))).drop (Int.toNat (IntKind.i64.wrap ((Int.tmod (IntKind.i64.wrap a2) (a1.length : Int)) + 1)))))) ∧ ((((routing_Plan a0 (((([]) ++ ((a1.take (Int.toNat (Int.tmod (IntKind.i64.wrap a2) (a1.length : Int)))).drop 0)) ++ ([({ hour := (a1.getD (Int.toNat (Int.tmod (IntKind.i64.wrap a2) (a1.length : Int))) (default : Order)).hour, index := (a1.getD (Int.toNat (Int.tmod (IntKind.i64.wrap a2) (a1.length : Int))) (default : Order)).index, litres := (IntKind.i64.wrap ((a1.getD (Int.toNat (Int.tmod (IntKind.i64.wrap a2) (a1.length : Int))) (default : Order)).litres - a3)), outlet := (a1.getD (Int.toNat (Int.tmod (IntKind.i64.wrap a2) (a1.length : Int))) (default : Order)).outlet } : Order)])) ++ ((a1.take (Int.toNat (a1.length : Int))).drop (Int.toNat (IntKind.i64.wrap ((Int.tmod (IntKind.i64.wrap a2) (a1.length : Int)) + 1)))))).2.2 != 0) || (!(routing_Plan a0 (((([]) ++ ((a1.take (Int.toNat (Int.tmod (IntKind.i64.wrap a2) (a1.length : Int)))).drop 0)) ++ ([({ hour := (a1.getD (Int.toNat (Int.tmod (IntKind.i64.wrap a2) (a1.length : Int))) (default : Order)).hour, index := (a1.getD (Int.toNat (Int.tmod (IntKind.i64.wrap a2) (a1.length : Int))) (default : Order)).index, litres := (IntKind.i64.wrap ((a1.getD (Int.toNat (Int.tmod (IntKind.i64.wrap a2) (a1.length : Int))) (default : Order)).litres - a3)), outlet := (a1.getD (Int.toNat (Int.tmod (IntKind.i64.wrap a2) (a1.length : Int))) (default : Order)).outlet } : Order)])) ++ ((a1.take (Int.toNat (a1.length : Int))).drop (Int.toNat (IntKind.i64.wrap ((Int.tmod (IntKind.i64.wrap a2) (a1.length : Int)) + 1)))))).2.1)) = false → (okM (law22_RoutingFewer_l0 a0 a1 a2 a3) (law22_RoutingFewer_l0_p a0 a1 a2 a3) (law22_gates ((routing_Plan a0 (((([]) ++ ((a1.take (Int.toNat (Int.tmod (IntKind.i64.wrap a2) (a1.length : Int)))).drop 0)) ++ ([({ hour := (a1.getD (Int.toNat (Int.tmod (IntKind.i64.wrap a2) (a1.length : Int))) (default : Order)).hour, index := (a1.getD (Int.toNat (Int.tmod (IntKind.i64.wrap a2) (a1.length : Int))) (default : Order)).index, litres := (IntKind.i64.wrap ((a1.getD (Int.toNat (Int.tmod (IntKind.i64.wrap a2) (a1.length : Int))) (default : Order)).litres - a3)), outlet := (a1.getD (Int.toNat (Int.tmod (IntKind.i64.wrap a2) (a1.length : Int))) (default : Order)).outlet } : Order)])) ++ ((a1.take (Int.toNat (a1.length : Int))).drop (Int.toNat (IntKind.i64.wrap ((Int.tmod (IntKind.i64.wrap a2) (a1.length : Int)) + 1)))))).1)) () ∧ (∀ s_0, runL (law22_RoutingFewer_l0 a0 a1 a2 a3) (law22_gates ((routing_Plan a0 (((([]) ++ ((a1.take (Int.toNat (Int.tmod (IntKind.i64.wrap a2) (a1.length : Int)))).drop 0)) ++ ([({ hour := (a1.getD (Int.toNat (Int.tmod (IntKind.i64.wrap a2) (a1.length : Int))) (default : Order)).hour, index := (a1.getD (Int.toNat (Int.tmod (IntKind.i64.wrap a2) (a1.length : Int))) (default : Order)).index, litres := (IntKind.i64.wrap ((a1.getD (Int.toNat (Int.tmod (IntKind.i64.wrap a2) (a1.length : Int))) (default : Order)).litres - a3)), outlet := (a1.getD (Int.toNat (Int.tmod (IntKind.i64.wrap a2) (a1.length : Int))) (default : Order)).outlet } : Order)])) ++ ((a1.take (Int.toNat (a1.length : Int))).drop (Int.toNat (IntKind.i64.wrap ((Int.tmod (IntKind.i64.wrap a2) (a1.length : Int)) + 1)))))).1)) () = .inr s_0 → ((routing_Fits_p a0 ((routing_Plan a0 a1).1)) ∧ (routing_Fits_p a0 ((routing_Plan a0 (((([]) ++ ((a1.take (Int.toNat (Int.tmod (IntKind.i64.wrap a2) (a1.length : Int)))).drop 0)) ++ ([({ hour := (a1.getD (Int.toNat (Int.tmod (IntKind.i64.wrap a2) (a1.length : Int))) (default : Order)).hour, index := (a1.getD (Int.toNat (Int.tmod (IntKind.i64.wrap a2) (a1.length : Int))) (default : Order)).index, litres := (IntKind.i64.wrap ((a1.getD (Int.toNat (Int.tmod (IntKind.i64.wrap a2) (a1.length : Int))) (default : Order)).litres - a3)), outlet := (a1.getD (Int.toNat (Int.tmod (IntKind.i64.wrap a2) (a1.length : Int))) (default : Order)).outlet } : Order)])) ++ ((a1.take (Int.toNat (a1.length : Int))).drop (Int.toNat (IntKind.i64.wrap ((Int.tmod (IntKind.i64.wrap a2) (a1.length : Int)) + 1)))))).1)))))))))))))) ∧ (((decide (a3 > 0)) && (decide (a3 < (a1.getD (Int.toNat (Int.tmod (IntKind.i64.wrap a2) (a1.length : Int))) (default : Order)).litres))) = false → ((0 ≤ (IntKind.i64.wrap ((Int.tmod (IntKind.i64.wrap a2) (a1.length : Int)) + 1)) ∧ (IntKind.i64.wrap ((Int.tmod (IntKind.i64.wrap a2) (a1.length : Int)) + 1)) ≤ (a1.length : Int) ∧ (a1.length : Int) ≤ (a1.length : Int)) ∧ ((((([]) ++ ((a1.take (Int.toNat (Int.tmod (IntKind.i64.wrap a2) (a1.length : Int)))).drop 0)) ++ ((a1.take (Int.toNat (a1.length : Int))).drop (Int.toNat (IntKind.i64.wrap ((Int.tmod (IntKind.i64.wrap a2) (a1.length : Int)) + 1))))).length * 32 ≤ maxB) ∧ (((([]) ++ ((a1.take (Int.toNat (Int.tmod (IntKind.i64.wrap a2) (a1.length : Int)))).drop 0)) ++ ((a1.take (Int.toNat (a1.length : Int))).drop (Int.toNat (IntKind.i64.wrap ((Int.tmod (IntKind.i64.wrap a2) (a1.length : Int)) + 1))))).length ≤ maxL → ((routing_Plan_p a0 ((([]) ++ ((a1.take (Int.toNat (Int.tmod (IntKind.i64.wrap a2) (a1.length : Int)))).drop 0)) ++ ((a1.take (Int.toNat (a1.length : Int))).drop (Int.toNat (IntKind.i64.wrap ((Int.tmod (IntKind.i64.wrap a2) (a1.length : Int)) + 1)))))) ∧ ((((routing_Plan a0 ((([]) ++ ((a1.take (Int.toNat (Int.tmod (IntKind.i64.wrap a2) (a1.length : Int)))).drop 0)) ++ ((a1.take (Int.toNat (a1.length : Int))).drop (Int.toNat (IntKind.i64.wrap ((Int.tmod (IntKind.i64.wrap a2) (a1.length : Int)) + 1)))))).2.2 != 0) || (!(routing_Plan a0 ((([]) ++ ((a1.take (Int.toNat (Int.tmod (IntKind.i64.wrap a2) (a1.length : Int)))).drop 0)) ++ ((a1.take (Int.toNat (a1.length : Int))).drop (Int.toNat (IntKind.i64.wrap ((Int.tmod (IntKind.i64.wrap a2) (a1.length : Int)) + 1)))))).2.1)) = false → (okM (law22_RoutingFewer_l1 a0 a1 a2) (law22_RoutingFewer_l1_p a0 a1 a2) (law22_gates ((routing_Plan a0 ((([]) ++ ((a1.take (Int.toNat (Int.tmod (IntKind.i64.wrap a2) (a1.length : Int)))).drop 0)) ++ ((a1.take (Int.toNat (a1.length : Int))).drop (Int.toNat (IntKind.i64.wrap ((Int.tmod (IntKind.i64.wrap a2) (a1.length : Int)) + 1)))))).1)) () ∧ (∀ s_1, runL (law22_RoutingFewer_l1 a0 a1 a2) (law22_gates ((routing_Plan a0 ((([]) ++ ((a1.take (Int.toNat (Int.tmod (IntKind.i64.wrap a2) (a1.length : Int)))).drop 0)) ++ ((a1.take (Int.toNat (a1.length : Int))).drop (Int.toNat (IntKind.i64.wrap ((Int.tmod (IntKind.i64.wrap a2) (a1.length : Int)) + 1)))))).1)) () = .inr s_1 → ((routing_Fits_p a0 ((routing_Plan a0 a1).1)) ∧ (routing_Fits_p a0 ((routing_Plan a0 ((([]) ++ ((a1.take (Int.toNat (Int.tmod (IntKind.i64.wrap a2) (a1.length : Int)))).drop 0)) ++ ((a1.take (Int.toNat (a1.length : Int))).drop (Int.toNat (IntKind.i64.wrap ((Int.tmod (IntKind.i64.wrap a2) (a1.length : Int)) + 1)))))).1)))))))))))))))))))))))
@[go_sem] def C_law22_RoutingFewer : List SV → Option Con := (pD .district fun a0 => (pR .order fun a1 => (pW fun a2 => (pI fun a3 => (pE (.det (law22_RoutingFewer_p a0 a1 a2 a3) (.v (.bool (law22_RoutingFewer a0 a1 a2 a3)))))))))
@[go_sem] def law22_RoutingTogether_l0 (a1 : List Order) (a2 : List Int) (k_0 : Nat) (s_0 : List Order × List Order) : Empty ⊕ (List Order × List Order) := (bif (decide ((k_0 : Int) < (a2.length : Int))) then (bif (decide ((if (IntKind.i64.wrap (a2.getD k_0 (0 : Int))) < (a1.getD k_0 (default : Order)).litres then (IntKind.i64.wrap (a2.getD k_0 (0 : Int))) else (a1.getD k_0 (default : Order)).litres) > 0)) then (bif (decide ((if (IntKind.i64.wrap (a2.getD k_0 (0 : Int))) < (a1.getD k_0 (default : Order)).litres then (IntKind.i64.wrap (a2.getD k_0 (0 : Int))) else (a1.getD k_0 (default : Order)).litres) < (a1.getD k_0 (default : Order)).litres)) then .inr ((s_0.1 ++ ([({ hour := (a1.getD k_0 (default : Order)).hour, index := (a1.getD k_0 (default : Order)).index, litres := (if (IntKind.i64.wrap (a2.getD k_0 (0 : Int))) < (a1.getD k_0 (default : Order)).litres then (IntKind.i64.wrap (a2.getD k_0 (0 : Int))) else (a1.getD k_0 (default : Order)).litres), outlet := (a1.getD k_0 (default : Order)).outlet } : Order)])), (s_0.2 ++ ([({ hour := (a1.getD k_0 (default : Order)).hour, index := (a1.getD k_0 (default : Order)).index, litres := (IntKind.i64.wrap ((a1.getD k_0 (default : Order)).litres - (if (IntKind.i64.wrap (a2.getD k_0 (0 : Int))) < (a1.getD k_0 (default : Order)).litres then (IntKind.i64.wrap (a2.getD k_0 (0 : Int))) else (a1.getD k_0 (default : Order)).litres))), outlet := (a1.getD k_0 (default : Order)).outlet } : Order)]))) else .inr ((s_0.1 ++ ([({ hour := (a1.getD k_0 (default : Order)).hour, index := (a1.getD k_0 (default : Order)).index, litres := (if (IntKind.i64.wrap (a2.getD k_0 (0 : Int))) < (a1.getD k_0 (default : Order)).litres then (IntKind.i64.wrap (a2.getD k_0 (0 : Int))) else (a1.getD k_0 (default : Order)).litres), outlet := (a1.getD k_0 (default : Order)).outlet } : Order)])), s_0.2)) else (bif (decide ((if (IntKind.i64.wrap (a2.getD k_0 (0 : Int))) < (a1.getD k_0 (default : Order)).litres then (IntKind.i64.wrap (a2.getD k_0 (0 : Int))) else (a1.getD k_0 (default : Order)).litres) < (a1.getD k_0 (default : Order)).litres)) then .inr (s_0.1, (s_0.2 ++ ([({ hour := (a1.getD k_0 (default : Order)).hour, index := (a1.getD k_0 (default : Order)).index, litres := (IntKind.i64.wrap ((a1.getD k_0 (default : Order)).litres - (if (IntKind.i64.wrap (a2.getD k_0 (0 : Int))) < (a1.getD k_0 (default : Order)).litres then (IntKind.i64.wrap (a2.getD k_0 (0 : Int))) else (a1.getD k_0 (default : Order)).litres))), outlet := (a1.getD k_0 (default : Order)).outlet } : Order)]))) else .inr (s_0.1, s_0.2))) else (bif (decide ((a1.getD k_0 (default : Order)).litres > 0)) then (bif (decide ((a1.getD k_0 (default : Order)).litres < (a1.getD k_0 (default : Order)).litres)) then .inr ((s_0.1 ++ ([(a1.getD k_0 (default : Order))])), (s_0.2 ++ ([({ hour := (a1.getD k_0 (default : Order)).hour, index := (a1.getD k_0 (default : Order)).index, litres := (IntKind.i64.wrap ((a1.getD k_0 (default : Order)).litres - (a1.getD k_0 (default : Order)).litres)), outlet := (a1.getD k_0 (default : Order)).outlet } : Order)]))) else .inr ((s_0.1 ++ ([(a1.getD k_0 (default : Order))])), s_0.2)) else (bif (decide ((a1.getD k_0 (default : Order)).litres < (a1.getD k_0 (default : Order)).litres)) then .inr (s_0.1, (s_0.2 ++ ([({ hour := (a1.getD k_0 (default : Order)).hour, index := (a1.getD k_0 (default : Order)).index, litres := (IntKind.i64.wrap ((a1.getD k_0 (default : Order)).litres - (a1.getD k_0 (default : Order)).litres)), outlet := (a1.getD k_0 (default : Order)).outlet } : Order)]))) else .inr (s_0.1, s_0.2))))
def law22_RoutingTogether_l0_p (a1 : List Order) (a2 : List Int) (k_0 : Nat) (s_0 : List Order × List Order) : Prop := (a2.length ≤ maxL → (((decide ((k_0 : Int) < (a2.length : Int))) = true → ((0 ≤ (k_0 : Int) ∧ (k_0 : Int) < (a2.length : Int)) ∧ (((decide ((if (IntKind.i64.wrap (a2.getD k_0 (0 : Int))) < (a1.getD k_0 (default : Order)).litres then (IntKind.i64.wrap (a2.getD k_0 (0 : Int))) else (a1.getD k_0 (default : Order)).litres) > 0)) = true → (((s_0.1 ++ ([({ hour := (a1.getD k_0 (default : Order)).hour, index := (a1.getD k_0 (default : Order)).index, litres := (if (IntKind.i64.wrap (a2.getD k_0 (0 : Int))) < (a1.getD k_0 (default : Order)).litres then (IntKind.i64.wrap (a2.getD k_0 (0 : Int))) else (a1.getD k_0 (default : Order)).litres), outlet := (a1.getD k_0 (default : Order)).outlet } : Order)])).length * 32 ≤ maxB) ∧ ((s_0.1 ++ ([({ hour := (a1.getD k_0 (default : Order)).hour, index := (a1.getD k_0 (default : Order)).index, litres := (if (IntKind.i64.wrap (a2.getD k_0 (0 : Int))) < (a1.getD k_0 (default : Order)).litres then (IntKind.i64.wrap (a2.getD k_0 (0 : Int))) else (a1.getD k_0 (default : Order)).litres), outlet := (a1.getD k_0 (default : Order)).outlet } : Order)])).length ≤ maxL → ((decide ((if (IntKind.i64.wrap (a2.getD k_0 (0 : Int))) < (a1.getD k_0 (default : Order)).litres then (IntKind.i64.wrap (a2.getD k_0 (0 : Int))) else (a1.getD k_0 (default : Order)).litres) < (a1.getD k_0 (default : Order)).litres)) = true → ((s_0.2 ++ ([({ hour := (a1.getD k_0 (default : Order)).hour, index := (a1.getD k_0 (default : Order)).index, litres := (IntKind.i64.wrap ((a1.getD k_0 (default : Order)).litres - (if (IntKind.i64.wrap (a2.getD k_0 (0 : Int))) < (a1.getD k_0 (default : Order)).litres then (IntKind.i64.wrap (a2.getD k_0 (0 : Int))) else (a1.getD k_0 (default : Order)).litres))), outlet := (a1.getD k_0 (default : Order)).outlet } : Order)])).length * 32 ≤ maxB))))) ∧ ((decide ((if (IntKind.i64.wrap (a2.getD k_0 (0 : Int))) < (a1.getD k_0 (default : Order)).litres then (IntKind.i64.wrap (a2.getD k_0 (0 : Int))) else (a1.getD k_0 (default : Order)).litres) > 0)) = false → ((decide ((if (IntKind.i64.wrap (a2.getD k_0 (0 : Int))) < (a1.getD k_0 (default : Order)).litres then (IntKind.i64.wrap (a2.getD k_0 (0 : Int))) else (a1.getD k_0 (default : Order)).litres) < (a1.getD k_0 (default : Order)).litres)) = true → ((s_0.2 ++ ([({ hour := (a1.getD k_0 (default : Order)).hour, index := (a1.getD k_0 (default : Order)).index, litres := (IntKind.i64.wrap ((a1.getD k_0 (default : Order)).litres - (if (IntKind.i64.wrap (a2.getD k_0 (0 : Int))) < (a1.getD k_0 (default : Order)).litres then (IntKind.i64.wrap (a2.getD k_0 (0 : Int))) else (a1.getD k_0 (default : Order)).litres))), outlet := (a1.getD k_0 (default : Order)).outlet } : Order)])).length * 32 ≤ maxB)))))) ∧ ((decide ((k_0 : Int) < (a2.length : Int))) = false → (((decide ((a1.getD k_0 (default : Order)).litres > 0)) = true → (((s_0.1 ++ ([(a1.getD k_0 (default : Order))])).length * 32 ≤ maxB) ∧ ((s_0.1 ++ ([(a1.getD k_0 (default : Order))])).length ≤ maxL → ((decide ((a1.getD k_0 (default : Order)).litres < (a1.getD k_0 (default : Order)).litres)) = true → ((s_0.2 ++ ([({ hour := (a1.getD k_0 (default : Order)).hour, index := (a1.getD k_0 (default : Order)).index, litres := (IntKind.i64.wrap ((a1.getD k_0 (default : Order)).litres - (a1.getD k_0 (default : Order)).litres)), outlet := (a1.getD k_0 (default : Order)).outlet } : Order)])).length * 32 ≤ maxB))))) ∧ ((decide ((a1.getD k_0 (default : Order)).litres > 0)) = false → ((decide ((a1.getD k_0 (default : Order)).litres < (a1.getD k_0 (default : Order)).litres)) = true → ((s_0.2 ++ ([({ hour := (a1.getD k_0 (default : Order)).hour, index := (a1.getD k_0 (default : Order)).index, litres := (IntKind.i64.wrap ((a1.getD k_0 (default : Order)).litres - (a1.getD k_0 (default : Order)).litres)), outlet := (a1.getD k_0 (default : Order)).outlet } : Order)])).length * 32 ≤ maxB)))))))
@[go_sem] def law22_RoutingTogether_l1 (a0 : District) (s_0 : List Order × List Order) (k_1 : Acequialaw22Place × Int) (s_1 : Unit) : Unit ⊕ Unit := (bif (decide ((IntKind.i64.wrap (k_1.2 + (mgetT .acequialaw22Place .int (law22_gates ((routing_Plan a0 s_0.2).1)) k_1.1))) > 1073741824)) then .inl () else .inr ())
def law22_RoutingTogether_l1_p (a0 : District) (s_0 : List Order × List Order) (k_1 : Acequialaw22Place × Int) (s_1 : Unit) : Prop := True
@[go_sem] def law22_RoutingTogether_l2 (a0 : District) (a1 : List Order) (s_0 : List Order × List Order) (k_2 : Acequialaw22Place × Int) (s_2 : Unit) : Unit ⊕ Unit := (bif (decide (k_2.2 > (IntKind.i64.wrap ((mgetT .acequialaw22Place .int (law22_gates ((routing_Plan a0 s_0.1).1)) k_2.1) + (mgetT .acequialaw22Place .int (law22_gates ((routing_Plan a0 s_0.2).1)) k_2.1))))) then .inl () else .inr ())
def law22_RoutingTogether_l2_p (a0 : District) (a1 : List Order) (s_0 : List Order × List Order) (k_2 : Acequialaw22Place × Int) (s_2 : Unit) : Prop := True
def law22_RoutingTogether (a0 : District) (a1 : List Order) (a2 : List Int) : Bool := (bif (!law22_sane) then false else (bif ((!(ref22_Few a0 a1)) || ((routing_Check a0 a1) != 0)) then true else (match runI (law22_RoutingTogether_l0 a1 a2) a1.length 0 ([], []) with | .inl x => x.elim | .inr s_0 => (bif ((((((routing_Plan a0 s_0.1).2.2 != 0) || ((routing_Plan a0 s_0.2).2.2 != 0)) || ((routing_Plan a0 a1).2.2 != 0)) || (!(routing_Plan a0 s_0.1).2.1)) || (!(routing_Plan a0 s_0.2).2.1)) then true else (bif (!(routing_Plan a0 a1).2.1) then (match runL (law22_RoutingTogether_l1 a0 s_0) (law22_gates ((routing_Plan a0 s_0.1).1)) () with | .inl x_1_0 => true | .inr s_1 => false) else (match runL (law22_RoutingTogether_l2 a0 a1 s_0) (law22_gates ((routing_Plan a0 a1).1)) () with | .inl x_2_0 => false | .inr s_2 => true))))))
def law22_RoutingTogether_p (a0 : District) (a1 : List Order) (a2 : List Int) : Prop := ((law22_sane_p) ∧ ((!law22_sane) = false → (((!(ref22_Few a0 a1)) = false → (routing_Check_p a0 a1)) ∧ (((!(ref22_Few a0 a1)) || ((routing_Check a0 a1) != 0)) = false → (a1.length ≤ maxL → (okI (law22_RoutingTogether_l0 a1 a2) (law22_RoutingTogether_l0_p a1 a2) a1.length 0 ([], []) ∧ (∀ s_0, runI (law22_RoutingTogether_l0 a1 a2) a1.length 0 ([], []) = .inr s_0 → ((routing_Plan_p a0 s_0.1) ∧ ((routing_Plan_p a0 s_0.2) ∧ ((routing_Plan_p a0 a1) ∧ (((((((routing_Plan a0 s_0.1).2.2 != 0) || ((routing_Plan a0 s_0.2).2.2 != 0)) || ((routing_Plan a0 a1).2.2 != 0)) || (!(routing_Plan a0 s_0.1).2.1)) || (!(routing_Plan a0 s_0.2).2.1)) = false → (((!(routing_Plan a0 a1).2.1) = true → okM (law22_RoutingTogether_l1 a0 s_0) (law22_RoutingTogether_l1_p a0 s_0) (law22_gates ((routing_Plan a0 s_0.1).1)) ()) ∧ ((!(routing_Plan a0 a1).2.1) = false → okM (law22_RoutingTogether_l2 a0 a1 s_0) (law22_RoutingTogether_l2_p a0 a1 s_0) (law22_gates ((routing_Plan a0 a1).1)) ())))))))))))))
@[go_sem] def C_law22_RoutingTogether : List SV → Option Con := (pD .district fun a0 => (pR .order fun a1 => (pR .u8 fun a2 => (pE (.det (law22_RoutingTogether_p a0 a1 a2) (.v (.bool (law22_RoutingTogether a0 a1 a2))))))))
end Go.Sx
end
section
namespace Go.Sx
open Go.Proofs Go.Shelf Go.Sort Go.Lib
theorem length_dom : ∀ (A B : List Order), A.Pairwise (fun x y => ¬ K x y) → (∀ x ∈ A, ∃ z ∈ B, K z x) → A.length ≤ B.length
  | [], _, _, _ => Nat.zero_le _
  | x :: A, B, hA, hd => by
    have hA' := List.pairwise_cons.1 hA
    obtain ⟨z, hz, hk⟩ := hd x List.mem_cons_self
    have := length_dom A (B.erase z) hA'.2 fun y hy => by
      obtain ⟨w, hw, hkw⟩ := hd y (List.mem_cons_of_mem _ hy)
      refine ⟨w, ?_, hkw⟩
      have hne : w ≠ z := fun e => by
        subst e
        exact hA'.1 y hy ⟨hk.1.symm.trans hkw.1, hk.2.1.symm.trans hkw.2.1, hk.2.2.symm.trans hkw.2.2⟩
      exact (List.mem_erase_of_ne hne).2 hw
    rw [List.length_erase_of_mem hz] at this
    have : 0 < B.length := List.length_pos_of_mem hz
    rw [List.length_cons]; omega
end Go.Sx
end
section
namespace Go.Sx
open Go.Proofs Go.Shelf Go.Sort Go.Lib
theorem pick_rng {a n : Int} (h0 : 0 ≤ a) (h1 : a ≤ 65535) (hn : 0 < n) : ∃ k : Nat, Int.tmod (IntKind.i64.wrap a) n = (k : Int) ∧ (k : Int) < n := by
  rw [wrapI (by omega) (by omega), Int.tmod_eq_emod_of_nonneg h0]
  have e0 := Int.emod_nonneg a (by omega : n ≠ 0)
  have e1 := Int.emod_lt_of_pos a hn
  exact ⟨(a % n).toNat, (Int.toNat_of_nonneg e0).symm, by omega⟩
end Go.Sx
end
section
namespace Go.Sx
open Go.Proofs Go.Shelf Go.Sort Go.Lib
theorem up_zero {i : Int} {x : Reach} (h : expand_reach i x = true) (hi : 0 ≤ i) (hu : x.up < 0) : i = 0 := by
  unfold expand_reach at h
  cases hd : decide (i > 0) with
  | true =>
    rw [hd] at h
    simp only [cond_true, Bool.and_eq_true, expand_index, decide_eq_true_eq] at h hd
    omega
  | false => simp only [decide_eq_false_iff_not] at hd; omega
theorem upL_rng {d : District} (hr : Right1 d) {f : Nat} {n : Int} (h1 : n < (d.reaches.length : Int)) (h2 : n < f) : ∀ x ∈ upL d f n, 0 ≤ x ∧ x < (d.reaches.length : Int) := (up_facts hr f n h1 h2).2.2
section
variable {d : District} {x : Order} {gs : List Order} {R : Int}
theorem One.full (o : One d x gs R) (hR : R = -1) (hh : x.hour < d.hours) : ∀ (f : Nat) (n h w : Int), 0 ≤ n → n < (d.reaches.length : Int) → n < f → (n, h) ∈ cpX d x → 0 ≤ h → h < d.hours → drw d ([x] ++ gs) n h = w → 1 ≤ w →
    (needU d (upL d f n) w).2 = true ∧ delU d (upL d f n) ≤ h ∧ (∃ y ∈ gs, y.index = 0 ∧ y.hour = h - delU d (upL d f n) ∧ y.litres = (needU d (upL d f n) w).1) ∧ ∀ e ∈ cpL d f n h, ∃ y ∈ gs, y.index = e.1 ∧ y.hour = e.2 - (rch d e.1).delay
  | 0, n, h, w, h0, _, h2, _, _, _, _, _ => by omega
  | f + 1, n, h, w, h0, h1, h2, hc, hb0, hb1, hw, w1 => by
    obtain ⟨y, hy, y1, y2, y3, y4, y5, y6⟩ := o.step hh (by omega) hc hb0 hb1 hw w1
    have hup := upI_lt o.right h0 h1
    have hdl := delI o.right h0 h1
    rw [upL_cons h0, cpL_cons h0]
    simp only [needU, delU, y4, if_true]
    by_cases hu : 0 ≤ (rch d n).up
    · obtain ⟨z1, z2⟩ := y6 hu
      obtain ⟨i1, i2, ⟨z, hz, i3, i4, i5⟩, i6⟩ := One.full o hR hh f (rch d n).up (h - (rch d n).delay) y.litres hu (by omega) (by omega) z2 (by omega) (by omega) z1 y5
      refine ⟨i1, by omega, ⟨z, hz, i3, by omega, i5⟩, fun e he => ?_⟩
      rcases List.mem_cons.1 he with rfl | he
      · exact ⟨y, hy, y1, y2⟩
      · exact i6 e he
    · have hn0 : n = 0 := by
        have hx : expand_reach (n.toNat : Int) (rch d n) = true := o.right.reach n.toNat (by omega)
        have := up_zero hx (by omega) (by omega)
        omega
      rw [upL_end hu, cpL_neg hu]
      simp only [needU, delU, Int.add_zero]
      refine ⟨trivial, by omega, ⟨y, hy, by omega, y2, rfl⟩, fun e he => ?_⟩
      rcases List.mem_cons.1 he with rfl | he
      · exact ⟨y, hy, y1, y2⟩
      · cases he
theorem One.part (o : One d x gs R) (hh : x.hour < d.hours) {hq : Int} (hR0 : 0 ≤ R) (hno : (routing_intake (rch d R) (drw d ([x] ++ gs) R hq)).2 = false ∨ hq < (rch d R).delay) : ∀ (f : Nat) (n h w : Int), 0 ≤ n → n < (d.reaches.length : Int) → n < f → (n, h) ∈ cpX d x → 0 ≤ h → h < d.hours → drw d ([x] ++ gs) n h = w → 1 ≤ w → (R, hq) ∈ cpL d f n h →
    (needU d (upL d f n) w).2 = false ∨ h < delU d (upL d f n)
  | 0, n, h, w, h0, _, h2, _, _, _, _, _, _ => by omega
  | f + 1, n, h, w, h0, h1, h2, hc, hb0, hb1, hw, w1, hin => by
    have hup := upI_lt o.right h0 h1
    have hdl := delI o.right h0 h1
    have hf := (cpL_fst o.right f (rch d n).up (h - (rch d n).delay) (by omega)).2
    have hdu : 0 ≤ delU d (upL d f (rch d n).up) := (delU_nn o.right (upL_rng o.right (by omega) (by omega))).1
    rw [cpL_cons h0] at hin
    rw [upL_cons h0]
    simp only [needU, delU]
    rcases List.mem_cons.1 hin with e | hin
    · cases e
      rcases hno with q | q
      · left
        rw [hw] at q
        rw [if_neg (by rw [q]; simp)]
      · right; omega
    · have hlt := (hf _ hin).2
      simp only at hlt
      obtain ⟨y, hy, y1, y2, y3, y4, y5, y6⟩ := o.step hh (by omega) hc hb0 hb1 hw w1
      have hu : 0 ≤ (rch d n).up := by omega
      obtain ⟨z1, z2⟩ := y6 hu
      simp only [y4, if_true]
      rcases One.part o hh hR0 hno f (rch d n).up (h - (rch d n).delay) y.litres hu (by omega) (by omega) z2 (by omega) (by omega) z1 y5 hin with q | q
      · exact .inl q
      · right; omega
end
section
variable {d : District}
theorem path_run0 (hr : Right1 d) {f : Int → Int × Int → Unit ⊕ (Int × Int)} (hf : ∀ z s, f z s = bif (decide (z < 0) || decide (z ≥ (d.reaches.length : Int))) then .inl () else (bif decide (s.1 < (rch d z).siphon) then (bif ((losses_Worst (rch d z) 0).2 != 0) then .inl () else .inr ((losses_Worst (rch d z) 0).1, IntKind.i64.wrap (s.2 + (rch d z).delay))) else (bif ((losses_Worst (rch d z) s.1).2 != 0) then .inl () else .inr ((losses_Worst (rch d z) s.1).1, IntKind.i64.wrap (s.2 + (rch d z).delay))))) :
    ∀ {u : List Int}, (∀ x ∈ u, 0 ≤ x ∧ x < (d.reaches.length : Int)) → u.length ≤ 64 → ∀ {v : Int}, 0 ≤ v → v ≤ 1073741824 → runL f u.reverse (v, 0) = .inr (arrU d u v, delU d u)
  | [], _, _, v, _, _ => rfl
  | r :: u, hu, hl, v, v0, v1 => by
    have hu' : ∀ x ∈ u, 0 ≤ x ∧ x < (d.reaches.length : Int) := fun x hx => hu x (List.mem_cons_of_mem _ hx)
    have hx := hu r List.mem_cons_self
    have hl' : u.length + 1 ≤ 64 := by rwa [List.length_cons] at hl
    have ha := arrU_nn hr hu' v0 v1
    have hd := delI hr hx.1 hx.2
    have hdu := delU_nn hr hu'
    have hxr : expand_reach (r.toNat : Int) (rch d r) = true := hr.reach r.toNat (by omega)
    rw [runL_rev, path_run0 hr hf hu' (by omega) v0 v1]
    simp only [hf, arrU, delU, arr]
    have e1 : (decide (r < 0) || decide (r ≥ (d.reaches.length : Int))) = false := by rw [Bool.or_eq_false_iff, decide_eq_false_iff_not, decide_eq_false_iff_not]; omega
    have e2 : IntKind.i64.wrap (delU d u + (rch d r).delay) = (rch d r).delay + delU d u := by rw [wrapI (by omega) (by omega), Int.add_comm]
    rw [e1, e2, losses_worst hxr ha.1 (by omega), losses_worst hxr (Int.le_refl 0) (by omega), wst_zero hxr]
    by_cases q : (rch d r).siphon ≤ arrU d u v
    · rw [decide_eq_false (by omega), if_pos q]; rfl
    · rw [decide_eq_true (by omega), if_neg q]; rfl
theorem path_run1 (hr : Right1 d) {g : Int → Int → Int} {H : Int} (hH : H ≤ 4096) {st : Int → Int → Unit ⊕ Int} (hst : ∀ z s, st z s = bif (g z (IntKind.i64.wrap (H - s)) == 0) then .inl () else .inr (IntKind.i64.wrap (s - (rch d z).delay))) :
    ∀ (f : Nat) (n c : Int), n < (d.reaches.length : Int) → n < f → 0 ≤ c → c + delU d (upL d f n) ≤ H → (∀ e ∈ cpL d f n (H - c), g e.1 (e.2 - (rch d e.1).delay) ≠ 0) → runL st (upL d f n).reverse (c + delU d (upL d f n)) = .inr c
  | 0, n, c, _, _, _, _, _ => by simp [upL, delU, runL]
  | f + 1, n, c, h1, h2, c0, c1, hg => by
    by_cases h0 : 0 ≤ n
    · have hup := upI_lt hr h0 h1
      have hd := delI hr h0 h1
      have hdu : 0 ≤ delU d (upL d f (rch d n).up) := (delU_nn hr (upL_rng hr (by omega) (by omega))).1
      rw [upL_cons h0] at c1 ⊢
      rw [cpL_cons h0] at hg
      simp only [delU] at c1 ⊢
      have ih := path_run1 hr hH hst f (rch d n).up (c + (rch d n).delay) (by omega) (by omega) (by omega) (by omega) (fun e he => hg e (List.mem_cons_of_mem _ (by rw [show H - c - (rch d n).delay = H - (c + (rch d n).delay) by omega]; exact he)))
      rw [runL_rev, show c + ((rch d n).delay + delU d (upL d f (rch d n).up)) = c + (rch d n).delay + delU d (upL d f (rch d n).up) by omega, ih]
      simp only [hst]
      have hne := hg (n, H - c) List.mem_cons_self
      simp only at hne
      rw [wrapI (by omega) (by omega), wrapI (by omega) (by omega), show H - (c + (rch d n).delay) = H - c - (rch d n).delay by omega, beq_eq_false_iff_ne.2 hne, cond_false]
      congr 1
      omega
    · rw [upL_end h0]; simp [delU, runL]
end
end Go.Sx
end
section
namespace Go.Sx
open Go.Proofs Go.Shelf Go.Sort Go.Lib
section
variable {d : District}
theorem path_l0 {a E v : Int} (hE : (d.farms.getD (Int.toNat (Int.tmod (IntKind.i64.wrap a) (d.farms.length : Int))) default).reach = E) (h : PathOk d E) (v0 : 0 ≤ v) (v1 : v ≤ 1073741824) : runI (law22_RoutingPath_l0 d a) (canals_up d E).reverse.length 0 (v, 0) = .inr (arrU d (canals_up d E) v, delU d (canals_up d E)) := by
  let f : Int → Int × Int → Unit ⊕ (Int × Int) := fun z s => bif (decide (z < 0) || decide (z ≥ (d.reaches.length : Int))) then .inl () else (bif decide (s.1 < (rch d z).siphon) then (bif ((losses_Worst (rch d z) 0).2 != 0) then .inl () else .inr ((losses_Worst (rch d z) 0).1, IntKind.i64.wrap (s.2 + (rch d z).delay))) else (bif ((losses_Worst (rch d z) s.1).2 != 0) then .inl () else .inr ((losses_Worst (rch d z) s.1).1, IntKind.i64.wrap (s.2 + (rch d z).delay))))
  have e2 : runI (law22_RoutingPath_l0 d a) (canals_up d E).reverse.length 0 (v, 0) = runL f (canals_up d E).reverse (v, 0) := by
    rw [← runI_eq_runL f (0 : Int)]
    congr 1
    funext k s
    unfold law22_RoutingPath_l0
    rw [hE, canals_path_eq h]
  rw [e2]
  exact path_run0 h.right (f := f) (fun _ _ => rfl) h.up.2.2 h.up.2.1 v0 v1
theorem path_l1 {a E w H : Int} {l : List Order} {b : Bool} {e : Int} (hE : (d.farms.getD (Int.toNat (Int.tmod (IntKind.i64.wrap a) (d.farms.length : Int))) default).reach = E) (h : PathOk d E) (hl : Good d l) (hP : routing_Plan d ([({ hour := H, index := (Int.tmod (IntKind.i64.wrap a) (d.farms.length : Int)), litres := w, outlet := true } : Order)]) = (l, b, e)) (hH : H ≤ 4096) (hd : delU d (canals_up d E) ≤ H) (hg : ∀ e ∈ cpL d (E.toNat + 1) E H, glit l e.1 (e.2 - (rch d e.1).delay) ≠ 0) : runI (law22_RoutingPath_l1 d a w H) (canals_up d E).reverse.length 0 (delU d (canals_up d E)) = .inr 0 := by
  let f : Int → Int → Unit ⊕ Int := fun z s => bif (glit l z (IntKind.i64.wrap (H - s)) == 0) then .inl () else .inr (IntKind.i64.wrap (s - (rch d z).delay))
  have e2 : runI (law22_RoutingPath_l1 d a w H) (canals_up d E).reverse.length 0 (delU d (canals_up d E)) = runL f (canals_up d E).reverse (delU d (canals_up d E)) := by
    rw [← runI_eq_runL f (0 : Int)]
    congr 1
    funext k s
    unfold law22_RoutingPath_l1
    rw [hE, canals_path_eq h, hP]
    simp only
    rw [(gates_of hl).get]
  rw [e2]
  have := path_run1 h.right hH (g := glit l) (st := f) (fun _ _ => rfl) (E.toNat + 1) E 0 h.r1 (by have := h.r0; omega) (Int.le_refl 0) (by rw [Int.zero_add]; exact hd) (by rw [Int.sub_zero]; exact hg)
  rw [Int.zero_add] at this
  exact this
theorem path_t (d : District) (a v w hour : Int) (h0 : 0 ≤ a ∧ a ≤ 65535) (_ : (-9223372036854775808) ≤ v ∧ v ≤ 9223372036854775807) (_ : (-9223372036854775808) ≤ w ∧ w ≤ 9223372036854775807) (_ : (-9223372036854775808) ≤ hour ∧ hour ≤ 9223372036854775807) : law22_RoutingPath d a v w hour = true := by
  unfold law22_RoutingPath
  rw [sane_t]
  simp only [Bool.not_true, cond_false]
  cases hf : ((((((((!(ref22_Few d []) || (expand_Check d != 0)) || ((d.farms.length : Int) == 0)) || decide (v < 0)) || decide (v > 1073741824)) || decide (w < 1)) || decide (w > 1073741824)) || decide (hour < 0)) || decide (hour ≥ d.hours)) with
  | true => rfl
  | false =>
    simp only [Bool.or_eq_false_iff, bne_eq_false_iff_eq, beq_eq_false_iff_ne, decide_eq_false_iff_not] at hf
    obtain ⟨⟨⟨⟨⟨⟨⟨⟨_, c1⟩, c2⟩, c3⟩, c4⟩, c5⟩, c6⟩, c7⟩, c8⟩ := hf
    have hr : Right1 d := check_right (by rw [c1]; rfl)
    obtain ⟨k, hk1, hk2⟩ := pick_rng h0.1 h0.2 (n := (d.farms.length : Int)) (by omega)
    have hfarm := hr.farm k (by omega)
    have hl0 := fun E (hE : (d.farms.getD (Int.toNat (Int.tmod (IntKind.i64.wrap a) (d.farms.length : Int))) default).reach = E) (h : PathOk d E) => path_l0 (v := v) hE h (by omega) (by omega)
    have hl1 := fun E (l : List Order) (b : Bool) (e : Int) (hE : (d.farms.getD (Int.toNat (Int.tmod (IntKind.i64.wrap a) (d.farms.length : Int))) default).reach = E) (h : PathOk d E) (hl : Good d l) => path_l1 (a := a) (E := E) (w := w) (H := hour) (l := l) (b := b) (e := e) hE h hl
    rw [hk1] at hl0 hl1 ⊢
    simp only [Int.toNat_natCast, cond_false] at hl0 hl1 ⊢
    obtain ⟨E, hE⟩ : ∃ E, (d.farms.getD k default).reach = E := ⟨_, rfl⟩
    rw [hE] at hfarm
    simp only [hE]
    have hp : PathOk d E := ⟨c1, hfarm.1, hfarm.2⟩
    have hu := hp.up
    have e1 : (decide (E < 0) || decide (E ≥ (d.reaches.length : Int))) = false := by rw [Bool.or_eq_false_iff, decide_eq_false_iff_not, decide_eq_false_iff_not]; omega
    have hlen : (canals_up d E).length ≤ E.toNat + 1 := (up_facts hr (E.toNat + 1) E hp.r1 (by have := hp.r0; omega)).2.1
    have hpos : 0 < (canals_up d E).length := by
      unfold canals_up
      rw [upL_cons hp.r0]; simp
    rw [e1, pathW_eq hp (by omega) (by omega), pathN_eq hp (by omega) (by omega), canals_path_eq hp, delay_eq hp]
    simp only [bne_self_eq_false, Bool.or_false, Bool.false_or, cond_false, List.length_reverse]
    have hneed := need_iff hr hu.2.2 (v := v) (w := w) (by omega) (by omega) (by omega)
    have e2 : (decide (arrU d (canals_up d E) v ≥ w) != ((needU d (canals_up d E) w).2 && decide ((needU d (canals_up d E) w).1 ≤ v))) = false := by
      rw [bne_eq_false_iff_eq, Bool.eq_iff_iff, decide_eq_true_eq, Bool.and_eq_true, decide_eq_true_eq]
      exact hneed
    have e3 : (((canals_up d E).length : Int) == 0) = false := by rw [beq_eq_false_iff_ne]; omega
    have e4 : decide (((canals_up d E).length : Int) > (d.reaches.length : Int)) = false := by
      rw [decide_eq_false_iff_not]
      have := hp.r1
      omega
    have hll := hl0 E hE hp
    rw [List.length_reverse] at hll
    rw [e2, e3, e4, hll]
    simp only [Bool.or_self, cond_false, bne_self_eq_false]
    generalize hx : ({ hour := hour, index := (k : Int), litres := w, outlet := true } : Order) = x at *
    have xh : x.hour = hour := by rw [← hx]
    have xi : x.index = k := by rw [← hx]
    have xl : x.litres = w := by rw [← hx]
    have xo : x.outlet = true := by rw [← hx]
    have xe : endOf d x = E := by unfold endOf; rw [xi, Int.toNat_natCast, hE]
    have hg : Good d [x] := ⟨c1, by simp, fun y hy => by
      rw [List.mem_singleton] at hy
      subst hy
      exact ⟨by omega, by omega, by omega, fun _ => by omega, fun e => (by rw [xo] at e; cases e), by omega, by omega⟩, List.pairwise_singleton _ _⟩
    have hstart : ∀ {gs : List Order} {R : Int}, One d x gs R → drw d ([x] ++ gs) E hour = w ∧ (E, hour) ∈ cpX d x := fun o => by
      have := o.start
      rw [xe, xh, xl] at this
      exact this
    have hE0 := hp.r0
    have hE1 := hp.r1
    have hH := hr.hours
    rcases plan_cases d [x] with ⟨hn, e⟩ | ⟨_, hna, e⟩ | ⟨hN, hall, ⟨gs, r, h, hx⟩, e⟩ | ⟨_, _, _, _, _, e⟩ | ⟨hN, hall, gs, hP, e⟩
    · rw [e]
      have : routing_narrow d [x] = 2 := by
        unfold routing_narrow at hn ⊢
        rw [check_of hg] at hn ⊢
        cases hq : (((0 : Int) == 0) && decide (IntKind.i64.wrap ((d.reaches.length : Int) * d.hours) > 1024)) with
        | true => rfl
        | false => rw [hq] at hn; exact absurd rfl hn
      rw [this]; rfl
    · exact absurd (fun y hy => by rw [List.mem_singleton] at hy; subst hy; exact xo) hna
    · rw [e]
      simp only [bne_self_eq_false, cond_false, Bool.not_false, cond_true]
      obtain ⟨m, p⟩ := hx.part
      have o : One d x gs r := ⟨hr, xo, by omega, by rw [xe]; exact hE0, by rw [xe]; exact hE1, fun y hy => (p.gate y hy).1, p.uniq, fun b c h1 h2 h3 h4 h5 h6 => p.all b c h2 h3 h4 h5 (.inl h1) h6⟩
      obtain ⟨s1, s2⟩ := hstart o
      have hin : ((r : Int), (h : Int)) ∈ cpL d (E.toNat + 1) E hour := by
        have hw := hx.w
        have h1 : ((r : Int), (h : Int)) ∈ cpX d x := by
          rcases o.src (by omega : drw d ([x] ++ gs) r h ≠ 0) with ⟨q1, q2⟩ | ⟨y, hy, q1, q2⟩
          · rw [q1, q2]
            unfold cpX
            rw [cpL_cons o.e0]; exact List.mem_cons_self
          · have gy := o.gate y hy
            have hup := upI_lt hr gy.i0 gy.i1
            have := cpL_next hr _ _ _ o.e1 (by have := o.e0; omega) _ (o.onc hy) (by show 0 ≤ (rch d y.index).up; omega)
            simp only at this
            rw [q1, show y.hour + (rch d y.index).delay - (rch d y.index).delay = y.hour by omega, q2] at this
            exact this
        unfold cpX at h1
        rw [xe, xh] at h1
        exact h1
      have := One.part o (by omega) (by omega) hx.no (E.toNat + 1) E hour w hE0 hE1 (by omega) s2 (by omega) (by omega) s1 (by omega) hin
      rw [Bool.or_eq_true, Bool.not_eq_true', decide_eq_true_eq]
      exact this
    · rw [e]; rfl
    · have hall' : ∀ y ∈ [x], y.outlet = true := hall
      have o : One d x gs (-1) := ⟨hr, xo, by omega, by rw [xe]; exact hE0, by rw [xe]; exact hE1, fun y hy => hP.fin.gate y hy, hP.fin.uniq, fun b c h1 h2 h3 h4 h5 h6 => hP.fin.all b c h2 h3 h4 h5 h6⟩
      obtain ⟨s1, s2⟩ := hstart o
      obtain ⟨f1, f2, ⟨y, hy, y1, y2, y3⟩, f4⟩ := One.full o rfl (by omega) (E.toNat + 1) E hour w hE0 hE1 (by omega) s2 (by omega) (by omega) s1 (by omega)
      have hL : Good d (srt routing_by_1 ([x] ++ gs)) := hP.good
      have hmem : ∀ z ∈ gs, z ∈ srt routing_by_1 ([x] ++ gs) := fun z hz => (srt_perm _).mem_iff.2 (List.mem_append_right _ hz)
      have hgl : ∀ z ∈ gs, glit (srt routing_by_1 ([x] ++ gs)) z.index z.hour = z.litres := fun z hz => glit_mem hL.keys (hmem z hz) (hP.fin.gate z hz).out
      have hlen2 : (srt routing_by_1 ([x] ++ gs)).length = (canals_up d E).length + 1 := by
        rw [(srt_perm _).length_eq]
        let mk : Int × Int → Order := fun e => { hour := e.2 - (rch d e.1).delay, index := e.1, litres := 0, outlet := false }
        have hcl : (cpL d (E.toNat + 1) E hour).length = (canals_up d E).length := by
          have := (cpL_fst hr (E.toNat + 1) E hour hE1).1
          unfold canals_up
          rw [← this, List.length_map]
        have hku : gs.Pairwise fun x y => ¬ K x y := hP.fin.uniq.imp fun {x y} q k => q ⟨k.2.1, k.1⟩
        have hB : ((cpL d (E.toNat + 1) E hour).map mk).Pairwise fun x y => ¬ K x y := by
          rw [List.pairwise_map]
          have : ∀ (f : Nat) (n h : Int), n < (d.reaches.length : Int) → (cpL d f n h).Pairwise fun a b => a.1 ≠ b.1 := by
            intro f
            induction f with
            | zero => intro n h _; exact List.Pairwise.nil
            | succ f ih =>
              intro n h hn
              by_cases q : 0 ≤ n
              · have hup := upI_lt hr q hn
                rw [cpL_cons q]
                refine List.pairwise_cons.2 ⟨fun b hb => ?_, ih _ _ (by omega)⟩
                have := ((cpL_fst hr f (rch d n).up (h - (rch d n).delay) (by omega)).2 b hb).2
                simp only; omega
              · rw [cpL_neg q]; exact List.Pairwise.nil
          exact (this _ _ _ hE1).imp fun {a b} q k => q k.2.1
        have h1 := length_dom gs ((cpL d (E.toNat + 1) E hour).map mk) hku fun z hz => by
          have hc := o.onc hz
          unfold cpX at hc
          rw [xe, xh] at hc
          refine ⟨_, List.mem_map.2 ⟨_, hc, rfl⟩, ?_⟩
          exact ⟨by show z.hour + (rch d z.index).delay - (rch d z.index).delay = z.hour; omega, rfl, (hP.fin.gate z hz).out.symm⟩
        have h2 := length_dom _ gs hB fun z hz => by
          obtain ⟨e, he, rfl⟩ := List.mem_map.1 hz
          obtain ⟨z, hz, q1, q2⟩ := f4 e he
          exact ⟨z, hz, q2, q1, (hP.fin.gate z hz).out⟩
        rw [List.length_map] at h1 h2
        simp only [List.length_append, List.length_cons, List.length_nil]
        omega
      rw [e]
      simp only [bne_self_eq_false, cond_false, Bool.not_true]
      have e5 : (!(needU d (canals_up d E) w).2 || decide (delU d (canals_up d E) > hour) || (((srt routing_by_1 ([x] ++ gs)).length : Int) != IntKind.i64.wrap (((canals_up d E).length : Int) + 1))) = false := by
        have q1 : (needU d (canals_up d E) w).2 = true := f1
        have q2 : delU d (canals_up d E) ≤ hour := f2
        have hu2 := hu.2.1
        rw [q1, decide_eq_false (by omega), wrapI (by omega) (by omega), hlen2]
        simp
      rw [e5]
      have hx2 := hl1 E (srt routing_by_1 ([x] ++ gs)) true 0 hE hp hL e (by omega) f2 fun e he => by
        obtain ⟨z, hz, q1, q2⟩ := f4 e he
        have := hgl z hz
        rw [q1, q2] at this
        rw [this]
        have := (gate_lit hr (hP.fin.gate z hz)).1
        omega
      rw [List.length_reverse] at hx2
      rw [hx2]
      simp only [cond_false]
      rw [(gates_of hL).get]
      have q2 : delU d (canals_up d E) ≤ hour := f2
      have hdn := (delU_nn hr hu.2.2).1
      simp only
      rw [wrapI (by omega) (by omega)]
      have := hgl y hy
      rw [y1, y2, y3] at this
      rw [beq_iff_eq]
      exact this
theorem path_p' (d : District) (a v w hour : Int) (h0 : 0 ≤ a ∧ a ≤ 65535) (_ : (-9223372036854775808) ≤ v ∧ v ≤ 9223372036854775807) (_ : (-9223372036854775808) ≤ w ∧ w ≤ 9223372036854775807) (_ : (-9223372036854775808) ≤ hour ∧ hour ≤ 9223372036854775807) : law22_RoutingPath_p d a v w hour := by
  refine ⟨sane_p, fun _ hf _ => ?_⟩
  simp only [Bool.or_eq_false_iff, bne_eq_false_iff_eq, beq_eq_false_iff_ne, decide_eq_false_iff_not] at hf
  obtain ⟨⟨⟨⟨⟨⟨⟨⟨_, c1⟩, c2⟩, c3⟩, c4⟩, c5⟩, c6⟩, c7⟩, c8⟩ := hf
  have hr : Right1 d := check_right (by rw [c1]; rfl)
  obtain ⟨k, hk1, hk2⟩ := pick_rng h0.1 h0.2 (n := (d.farms.length : Int)) (by omega)
  have hfarm := hr.farm k (by omega)
  have hE : (d.farms.getD (Int.toNat (Int.tmod (IntKind.i64.wrap a) (d.farms.length : Int))) default).reach = (d.farms.getD k default).reach := by rw [hk1, Int.toNat_natCast]
  have hp : PathOk d (d.farms.getD k default).reach := ⟨c1, hfarm.1, hfarm.2⟩
  have hu := hp.up
  have hmem : ∀ j, j < (canals_Path d ((d.farms.getD (Int.toNat (Int.tmod (IntKind.i64.wrap a) (d.farms.length : Int))) default).reach)).1.length → 0 ≤ ((canals_Path d ((d.farms.getD (Int.toNat (Int.tmod (IntKind.i64.wrap a) (d.farms.length : Int))) default).reach)).1).getD j 0 ∧ ((canals_Path d ((d.farms.getD (Int.toNat (Int.tmod (IntKind.i64.wrap a) (d.farms.length : Int))) default).reach)).1).getD j 0 < (d.reaches.length : Int) := fun j hj => by
    rw [hE, canals_path_eq hp] at hj ⊢
    exact hu.2.2 _ (List.mem_reverse.1 (getD_mem' _ 0 hj))
  refine ⟨c2, ⟨by rw [hk1]; omega, by rw [hk1]; omega⟩, fun _ => ⟨worstR_p _ _ _, needR_p _ _ _, canals_path_p _ _, delayD_p _ _, fun _ _ => ⟨okI_all _ _ _ fun j s _ hj => ?_, fun s _ _ => ⟨plan_p _ _, fun _ _ _ _ => okI_all _ _ _ fun j s _ hj => ?_⟩⟩⟩⟩
  · have := hmem j (by omega)
    exact fun _ => ⟨this, fun _ => ⟨this, fun _ => this⟩, fun _ => ⟨this, fun _ => this⟩⟩
  · have := hmem j (by omega)
    exact fun _ => this
end
end Go.Sx
end
section
namespace Go.Sx
open Go.RowKit Go.Deep
section
variable {F : Nat → Prop} {own : Own} {w : World}
def RC (F : Nat → Prop) (own : Own) (w : World) (ks : List Kd) (cs : List Value) : Prop :=
  ∃ l : List SV, fits ks l = true ∧ l.length = cs.length ∧ ∀ (j : Nat) (s : SV) (v : Value), l[j]? = some s → cs[j]? = some v → Rel F own w s v
theorem fits_app : ∀ {a b : List Kd} {l m : List SV}, fits a l = true → fits b m = true → fits (a ++ b) (l ++ m) = true
  | [], b, l, m, h1, h2 => by rw [fits_nil h1]; exact h2
  | k :: a, b, l, m, h1, h2 => by
    obtain ⟨x, r, rfl, e1, e2⟩ := fits_cons h1
    simp only [List.cons_append, fits, e1, fits_app e2 h2, Bool.and_self]
theorem RC.nil : RC F own w [] [] := ⟨[], rfl, rfl, fun j s v h => by cases h⟩
theorem RC.app {a b : List Kd} {c d : List Value} (h1 : RC F own w a c) (h2 : RC F own w b d) : RC F own w (a ++ b) (c ++ d) := by
  obtain ⟨l, f1, n1, r1⟩ := h1
  obtain ⟨m, f2, n2, r2⟩ := h2
  refine ⟨l ++ m, fits_app f1 f2, by simp [n1, n2], fun j s v hs hv => ?_⟩
  by_cases hj : j < l.length
  · rw [List.getElem?_append_left hj] at hs
    rw [List.getElem?_append_left (by omega)] at hv
    exact r1 j s v hs hv
  · rw [List.getElem?_append_right (by omega)] at hs
    rw [List.getElem?_append_right (by omega), ← n1] at hv
    exact r2 _ s v hs hv
theorem RC.one {k : Kd} {s : SV} {v : Value} (h1 : fit k s = true) (h2 : Rel F own w s v) : RC F own w [k] [v] :=
  ⟨[s], by simp [fits, h1], rfl, fun j s' v' hs hv => by
    cases j with
    | zero => simp only [List.getElem?_cons_zero, Option.some.injEq] at hs hv; subst hs; subst hv; exact h2
    | succ j => simp at hs⟩
end
def eqKd : Kd → Kd → Bool
  | .s, .s => true
  | .b, .b => true
  | .n a, .n b => decide (a = b)
  | .r a, .r b => decide (a = b)
  | .m a c, .m b d => decide (a = b) && decide (c = d)
  | _, _ => false
theorem eqKd_ok : ∀ {a b : Kd}, eqKd a b = true → a = b := by
  intro a b h
  cases a <;> cases b <;> simp_all [eqKd]
def eqKs : List Kd → List Kd → Bool
  | [], [] => true
  | a :: l, b :: m => eqKd a b && eqKs l m
  | _, _ => false
theorem eqKs_ok : ∀ {a b : List Kd}, eqKs a b = true → a = b
  | [], [], _ => rfl
  | a :: l, b :: m, h => by
    simp only [eqKs, Bool.and_eq_true] at h
    rw [eqKd_ok h.1, eqKs_ok h.2]
def kindsF (P : Program) (g : TypeId → Option (List Kd)) : List Field → Nat → Nat → Option (List Kd)
  | [], off, tot => bif Nat.beq off tot then some [] else none
  | f :: r, off, tot => match g f.type with
    | some a => bif Nat.beq f.offset off && Nat.beq a.length (P.cellsOf f.type) then (kindsF P g r (off + a.length) tot).map (a ++ ·) else none
    | none => none
def kindsA (a : List Kd) : Nat → List Kd
  | 0 => []
  | n + 1 => a ++ kindsA a n
def kindsT (P : Program) : Nat → TypeId → Option (List Kd)
  | 0, _ => none
  | n + 1, t => match P.underlying t with
    | some .bool => some [.b]
    | some (.int k) => some [.n k]
    | some .string => some [.s]
    | some (.slice e) => match tagT P e, kindsT P n e with
      | some k, some ks => bif eqKs ks (kindsOf k) && Nat.beq (P.cellsOf e) (sizeOfTag k) && Nat.ble 1 (sizeOfTag k) then some [.r k] else none
      | _, _ => none
    | some (.struct fs) => kindsF P (kindsT P n) fs.toList 0 (P.cellsOf t)
    | some (.array m e) => match kindsT P n e with
      | some a => bif Nat.beq a.length (P.cellsOf e) && Nat.beq (P.cellsOf t) (m * a.length) then some (kindsA a m) else none
      | none => none
    | _ => none
section
variable {H : Type} {enc : TypeId × Value → H} {P : Program} {F : Nat → Prop} {own : Own} {w : World} {base : Nat} {spare : Nat → Bool} {held : Bool} {S : DataW H → Prop}
theorem kF_read {g : TypeId → Option (List Kd)} (hg : ∀ t ks, g t = some ks → ∀ (fuel : Nat) (cs : List Value) (x : DataW H × List MemPlace), DataW.trod enc P w base spare held fuel t cs = some x → S x.1 → RC F own w ks cs)
    (fuel : Nat) (cs : List Value) : ∀ (fs : List Field) (off : Nat) (ks : List Kd), kindsF P g fs off cs.length = some ks → (∀ f ∈ fs, ∃ x, DataW.trod enc P w base spare held fuel f.type ((cs.drop f.offset).take (P.cellsOf f.type)) = some x ∧ S x.1) → RC F own w ks (cs.drop off)
  | [], off, ks, h, _ => by
    unfold kindsF at h
    cases hb : Nat.beq off cs.length with
    | false => rw [hb] at h; cases h
    | true =>
      rw [hb] at h
      have : off = cs.length := Nat.eq_of_beq_eq_true hb
      subst this
      cases h
      rw [List.drop_length]
      exact RC.nil
  | f :: r, off, ks, h, hx => by
    unfold kindsF at h
    cases ha : g f.type with
    | none => rw [ha] at h; cases h
    | some a =>
      rw [ha] at h
      dsimp only at h
      cases hb : Nat.beq f.offset off && Nat.beq a.length (P.cellsOf f.type) with
      | false => rw [hb] at h; cases h
      | true =>
        rw [hb] at h
        simp only [cond_true, Option.map_eq_some_iff] at h
        obtain ⟨ks2, h2, rfl⟩ := h
        rw [Bool.and_eq_true] at hb
        have e1 : f.offset = off := Nat.eq_of_beq_eq_true hb.1
        have e2 : a.length = P.cellsOf f.type := Nat.eq_of_beq_eq_true hb.2
        obtain ⟨x, hx1, hs1⟩ := hx f (by simp)
        have h3 := hg _ _ ha _ _ _ hx1 hs1
        have h4 := kF_read hg fuel cs r (off + a.length) ks2 h2 fun f hf => hx f (by simp [hf])
        have := h3.app h4
        rw [e1, ← e2] at this
        rwa [← List.drop_drop, List.take_append_drop] at this
theorem kA_read {e : TypeId} {a : List Kd} (ha : ∀ (fuel : Nat) (cs : List Value) (x : DataW H × List MemPlace), DataW.trod enc P w base spare held fuel e cs = some x → S x.1 → RC F own w a cs)
    (fuel : Nat) : ∀ (m : Nat) (cs : List Value), cs.length = m * a.length → (∀ i, i < m → ∃ x, DataW.trod enc P w base spare held fuel e ((cs.drop (i * a.length)).take a.length) = some x ∧ S x.1) → RC F own w (kindsA a m) cs
  | 0, cs, h, _ => by
    have : cs = [] := by simpa using h
    subst this
    exact RC.nil
  | m + 1, cs, h, hx => by
    obtain ⟨x, hx1, hs1⟩ := hx 0 (by omega)
    rw [Nat.zero_mul, List.drop_zero] at hx1
    have h3 := ha _ _ _ hx1 hs1
    have h4 := kA_read ha fuel m (cs.drop a.length) (by rw [List.length_drop, h, Nat.succ_mul]; omega) fun i hi => by
      obtain ⟨x, hx2, hs2⟩ := hx (i + 1) (by omega)
      refine ⟨x, ?_, hs2⟩
      rw [List.drop_drop]
      rwa [Nat.succ_mul, Nat.add_comm] at hx2
    have := h3.app h4
    rwa [List.take_append_drop] at this
structure Small (S : DataW H → Prop) : Prop where
  agg : ∀ l, S (.agg l) → ∀ d ∈ l, S d
  slice : ∀ l m, S (.slice l m) → l.length ≤ maxL ∧ ∀ d ∈ l, S d
theorem kinds_read (hS : Small S) (hown : ∀ b, ¬ ownB F own b) : ∀ (n : Nat) (t : TypeId) (ks : List Kd), kindsT P n t = some ks → ∀ (fuel : Nat) (cs : List Value) (x : DataW H × List MemPlace), DataW.trod enc P w base spare held fuel t cs = some x → S x.1 → RC F own w ks cs
  | 0, _, _, h, _, _, _, _, _ => by cases h
  | n + 1, t, ks, h, fuel, cs, x, hx, hs => by
    unfold kindsT at h
    split at h
    · rename_i ht
      cases h
      obtain ⟨b, rfl, rfl⟩ := DataW.trod_bool ht hx
      exact RC.one (s := .v (.bool b)) rfl (.v _)
    · rename_i k ht
      cases h
      obtain ⟨m, rfl, rfl, _⟩ := DataW.trod_int ht hx
      exact RC.one (s := .v (.int k m)) (by simp [fit]) (.v _)
    · rename_i ht
      cases h
      obtain ⟨b, rfl, rfl, _⟩ := DataW.trod_string ht hx
      exact RC.one (s := .v (.string b)) rfl (.v _)
    · rename_i e ht
      split at h
      · rename_i k ks2 hk hks
        cases hb : eqKs ks2 (kindsOf k) && Nat.beq (P.cellsOf e) (sizeOfTag k) && Nat.ble 1 (sizeOfTag k) with
        | false => rw [hb] at h; cases h
        | true =>
          rw [hb] at h
          cases h
          simp only [Bool.and_eq_true] at hb
          have e1 := eqKs_ok hb.1.1
          have e2 : P.cellsOf e = sizeOfTag k := Nat.eq_of_beq_eq_true hb.1.2
          have e3 : 1 ≤ sizeOfTag k := Nat.le_of_ble_eq_true hb.2
          subst e1
          rcases open_slice ht hx with ⟨rfl, rfl⟩ | ⟨a, len, cap, m, f2, D, Pl, rfl, hb1, hl, hm, hmm, rfl, hel⟩
          · exact RC.one (s := .rs k []) (by simp [fit]) .rs0
          · have hlm : len ≤ m := by subst hmm; split <;> omega
            obtain ⟨hs1, hs2⟩ := hS.slice _ _ hs
            simp only [List.length_map, List.length_range] at hs1
            have helt : ∀ i, i < len → ∃ cs', cs'.length = sizeOfTag k ∧ (∀ j v, cs'[j]? = some v → w.cell? ((a.add (i * sizeOfTag k)).add j) = some v) ∧ RC F own w (kindsOf k) cs' := fun i hi => by
              obtain ⟨cs', h1, h2⟩ := hel i (by omega)
              have h3 := kinds_read hS hown n e (kindsOf k) hks f2 cs' _ h2 (hs2 _ (List.mem_map_of_mem (List.mem_range.2 hi)))
              unfold World.cells? at h1
              split at h1
              · refine ⟨cs', by rw [mapM_some_length h1, List.length_range, e2], fun j v hj => ?_, h3⟩
                have hlt : j < P.cellsOf e := by
                  have := (List.getElem?_eq_some_iff.1 hj).1
                  rwa [mapM_some_length h1, List.length_range] at this
                have := mapM_some_get h1 j j (by simp [hlt])
                rw [e2] at this
                rw [this, hj]
              · cases h1
            by_cases h0 : len = 0
            · subst h0
              exact RC.one (s := .rs k []) (by simp [fit]) .rs0
            · have hsp : a.spot = none := by
                obtain ⟨cs', h1, h2, _⟩ := helt 0 (by omega)
                have := h2 0 (cs'[0]'(by omega)) (by rw [List.getElem?_eq_getElem])
                rw [Nat.zero_mul] at this
                simp only [Addr.add, if_true] at this
                unfold World.cell? at this
                split at this
                · cases hsp : a.spot with
                  | none => rfl
                  | some q => rw [hsp] at this; simp at this
                · cases this
              obtain ⟨ab, ao, asp⟩ := a
              dsimp only at hsp
              subst hsp
              haveI : Inhabited k.T := ⟨dflt k⟩
              obtain ⟨X, hX⟩ := choose_lt (p := fun i (x : k.T) => ∀ (j : Nat) (s : SV), (cellsOf k x)[j]? = some s → ∃ v, w.cell? ⟨ab, ao + i * sizeOfTag k + j, none⟩ = some v ∧ Rel F own w s v) (n := len) fun i hi => by
                obtain ⟨cs', h1, h2, l, h3, h4, h5⟩ := helt i hi
                refine ⟨mkE k l, fun j s hj => ?_⟩
                rw [elemO_cells (k := k) (l := l) (x := mkE k l) (by unfold elemO; rw [h3]; rfl)] at hj
                have hlt : j < cs'.length := by
                  have := (List.getElem?_eq_some_iff.1 hj).1
                  omega
                refine ⟨cs'[j], ?_, h5 j s _ hj (List.getElem?_eq_getElem hlt)⟩
                have := h2 j cs'[j] (List.getElem?_eq_getElem hlt)
                have hadd : ∀ p q, ((⟨ab, ao, none⟩ : Addr).add p).add q = ⟨ab, ao + p + q, none⟩ := fun p q => by
                  unfold Addr.add
                  by_cases hp : p = 0 <;> by_cases hq : q = 0 <;> simp [hp, hq]
                rwa [hadd] at this
              have hL : ((List.range len).map X).length = len := by simp
              refine RC.one (s := .rs k ((List.range len).map X)) (by simp [fit]) ?_
              have hget : ∀ (i : Nat) (x : k.T), ((List.range len).map X)[i]? = some x → i < len ∧ x = X i := fun i x hi => by
                obtain ⟨h1, h2⟩ := List.getElem?_eq_some_iff.1 hi
                rw [hL] at h1
                simp only [List.getElem_map, List.getElem_range] at h2
                subst h2
                exact ⟨h1, rfl⟩
              have := Rel.rs (F := F) (own := own) (w := w) (k := k) (l := (List.range len).map X) (b := ab) (o := ao) (cap := cap) (fun i j => (w.cell? ⟨ab, ao + i * sizeOfTag k + j, none⟩).getD undef) (by rw [hL]; exact hl) (by rw [hL]; exact hs1)
                (fun i x hi j s hj => by
                  obtain ⟨h1, rfl⟩ := hget i x hi
                  obtain ⟨v, h2, _⟩ := hX i h1 j s hj
                  exact ⟨hown _, by rw [h2]; rfl⟩)
                (fun i x hi j s hj => by
                  obtain ⟨h1, rfl⟩ := hget i x hi
                  obtain ⟨v, h2, h3⟩ := hX i h1 j s hj
                  rw [h2]; exact h3)
              rwa [hL] at this
      · cases h
    · rename_i fs ht
      obtain ⟨xs, m, rfl, rfl, hl, hlen, hf⟩ := DataW.trod_struct ht hx
      rw [← hl] at h
      have := kF_read (kinds_read hS hown n) m cs fs.toList 0 ks h fun f hfm => by
        obtain ⟨i, hi, rfl⟩ := List.getElem_of_mem hfm
        have hi' : i < fs.size := by simpa using hi
        have h1 := hf i fs[i] (by simp [hi'])
        rw [List.getElem?_eq_getElem (by omega)] at h1
        refine ⟨_, by simpa using h1, hS.agg _ hs _ (List.mem_map_of_mem (List.getElem_mem _))⟩
      simpa using this
    · rename_i m e ht
      split at h
      · rename_i a ha
        cases hb : Nat.beq a.length (P.cellsOf e) && Nat.beq (P.cellsOf t) (m * a.length) with
        | false => rw [hb] at h; cases h
        | true =>
          rw [hb] at h
          cases h
          rw [Bool.and_eq_true] at hb
          have e1 : a.length = P.cellsOf e := Nat.eq_of_beq_eq_true hb.1
          have e2 : P.cellsOf t = m * a.length := Nat.eq_of_beq_eq_true hb.2
          obtain ⟨xs, f2, rfl, rfl, hl, hlen, hf⟩ := DataW.trod_array ht hx
          refine kA_read (kinds_read hS hown n e a ha) f2 m cs (by rw [hl, e2]) fun i hi => ?_
          have h1 := hf i hi
          rw [List.getElem?_eq_getElem (by omega), ← e1] at h1
          exact ⟨_, h1, hS.agg _ hs _ (List.mem_map_of_mem (List.getElem_mem _))⟩
      · cases h
    · cases h
end
end Go.Sx
end
section
namespace Go.Sx
open Go.Proofs
section
variable {F : Nat → Prop} {own : Own} {w : World}
theorem agg_rel {k : Tag} {cs : Array Value} (h : RC F own w (kindsOf k) cs.toList) : ∃ x : k.T, Rel F own w (.agg (cellsOf k x)) (.agg cs) := by
  obtain ⟨l, h3, h4, h5⟩ := h
  refine ⟨mkE k l, ?_⟩
  rw [elemO_cells (k := k) (l := l) (x := mkE k l) (by unfold elemO; rw [h3]; rfl)]
  refine .agg (by simpa using h4.symm) fun j s hj => ?_
  have hlt : j < cs.size := by
    have := (List.getElem?_eq_some_iff.1 hj).1
    simpa [h4] using this
  exact h5 j s _ hj (by simp [Array.getD, hlt])
end
end Go.Sx
end
