/- Part of the proof that the law RoutingPlanSpec returns true and leaves its arguments as they were, for all arguments of bulk at most 1048576 (the Upto form). -/
import Derived.Test.YtfbcohfemignhaaGreatC109
import Derived.Test.YtfbcohfemignhaaGreatC108
import Derived.Test.YtfbcohfemignhaaGreatC107
import Derived.Test.YtfbcohfemignhaaGreatC106
import Derived.Deep.Slices
import Derived.OpenShut
set_option linter.all false
set_option maxHeartbeats 4000000
section
namespace Go.Sx
open Go.Proofs
set_option maxRecDepth 100000
set_option linter.unusedSimpArgs false
theorem crSxH3_2 {p : Prop} (h : p := by (first | done | (repeat' (first | with_reducible refine And.intro ?_ ?_ | ((with_reducible show _ ≠ _); first | assumption | omega | (simp_all [outR, outL]; done) | grind) | with_reducible intro _)) <;> (first | done | exact Empty.elim ‹Empty› | assumption | rfl | omega | decide | exact fk [0, 1, 4] | exact fk [0, 1, 2] | exact czl | (simp only [*, cond_true, cond_false, Bool.not_true, Bool.not_false, go_sem, Nat.reduceBEq, Nat.reduceLeDiff, Nat.reduceLT, decide_true, Nat.reduceAdd, Nat.reduceSub, Nat.reduceMul, Int.reduceLE, Int.reduceLT, Int.reduceToNat, Int.reduceNeg, reduceCtorEq]; (repeat' (first | with_reducible refine And.intro ?_ ?_ | ((with_reducible show _ ≠ _); first | assumption | omega | (simp_all [outR, outL]; done) | grind) | with_reducible intro _)) <;> (first | done | assumption | rfl | omega | decide | exact fk [0, 1, 4] | exact fk [0, 1, 2] | (simp_all [outR, outL]; done))) | (simp_all [okI, outR, outL]; done) | (simp_all [outR, outL]; (first | done | exact fk2 [0, 1, 4] | exact fk2 [0, 1, 2])) | exact fk2 [0, 1, 4] | exact fk2 [0, 1, 2]))) : p := h
theorem crSxH3_4 {p : Prop} (h : p := by (first | done | (repeat' (first | with_reducible refine And.intro ?_ ?_ | ((with_reducible show _ ≠ _); first | assumption | omega | (simp_all [outR, outL]; done) | grind) | with_reducible intro _)) <;> (first | done | exact Empty.elim ‹Empty› | assumption | rfl | omega | decide | exact fk [0, 1, 3] | exact fk [0, 1, 2] | exact czl | (simp only [*, cond_true, cond_false, Bool.not_true, Bool.not_false, go_sem, Nat.reduceBEq, Nat.reduceLeDiff, Nat.reduceLT, decide_true, Nat.reduceAdd, Nat.reduceSub, Nat.reduceMul, Int.reduceLE, Int.reduceLT, Int.reduceToNat, Int.reduceNeg, reduceCtorEq]; (repeat' (first | with_reducible refine And.intro ?_ ?_ | ((with_reducible show _ ≠ _); first | assumption | omega | (simp_all [outR, outL]; done) | grind) | with_reducible intro _)) <;> (first | done | assumption | rfl | omega | decide | exact fk [0, 1, 3] | exact fk [0, 1, 2] | (simp_all [outR, outL]; done))) | (simp_all [okI, outR, outL]; done) | (simp_all [outR, outL]; (first | done | exact fk2 [0, 1, 3] | exact fk2 [0, 1, 2])) | exact fk2 [0, 1, 3] | exact fk2 [0, 1, 2]))) : p := h
theorem crSxH3_5 {p : Prop} (h : p := by (first | done | (repeat' (first | with_reducible refine And.intro ?_ ?_ | ((with_reducible show _ ≠ _); first | assumption | omega | (simp_all [outR, outL]; done) | grind) | with_reducible intro _)) <;> (first | done | exact Empty.elim ‹Empty› | assumption | rfl | omega | decide | exact fk [0, 1, 2, 4] | exact fk [0, 1, 2, 3] | exact czl | (simp only [*, cond_true, cond_false, Bool.not_true, Bool.not_false, go_sem, Nat.reduceBEq, Nat.reduceLeDiff, Nat.reduceLT, decide_true, Nat.reduceAdd, Nat.reduceSub, Nat.reduceMul, Int.reduceLE, Int.reduceLT, Int.reduceToNat, Int.reduceNeg, reduceCtorEq]; (repeat' (first | with_reducible refine And.intro ?_ ?_ | ((with_reducible show _ ≠ _); first | assumption | omega | (simp_all [outR, outL]; done) | grind) | with_reducible intro _)) <;> (first | done | assumption | rfl | omega | decide | exact fk [0, 1, 2, 4] | exact fk [0, 1, 2, 3] | (simp_all [outR, outL]; done))) | (simp_all [okI, outR, outL]; done) | (simp_all [outR, outL]; (first | done | exact fk2 [0, 1, 2, 4] | exact fk2 [0, 1, 2, 3])) | exact fk2 [0, 1, 2, 4] | exact fk2 [0, 1, 2, 3]))) : p := h
theorem evSxH3_3 {p : Prop} (h : p := by simp only [go_sem, Nat.reduceBEq, Nat.reduceLeDiff, Nat.reduceLT, decide_true, Nat.reduceAdd, Nat.reduceSub, Nat.reduceMul, Int.reduceLE, Int.reduceLT, Int.reduceToNat, Int.reduceNeg, reduceCtorEq]; all_goals exact crSxR5_2) : p := h
theorem exSxH3_4 {p : Prop} (h : p := by simp only [go_sem, Nat.reduceBEq, Nat.reduceLeDiff, Nat.reduceLT, decide_true, Nat.reduceAdd, Nat.reduceSub, Nat.reduceMul, Int.reduceLE, Int.reduceLT, Int.reduceToNat, Int.reduceNeg, reduceCtorEq, hc, hw]; all_goals exact crSxH3_4) : p := h
theorem ezSxH3_4 {p : Prop} (h : p := by simp only [go_sem, Nat.reduceBEq, Nat.reduceLeDiff, Nat.reduceLT, decide_true, Nat.reduceAdd, Nat.reduceSub, Nat.reduceMul, Int.reduceLE, Int.reduceLT, Int.reduceToNat, Int.reduceNeg, reduceCtorEq, hc]; all_goals exact crSxH3_4) : p := h
theorem exSxH3_5 {p : Prop} (h : p := by simp only [go_sem, Nat.reduceBEq, Nat.reduceLeDiff, Nat.reduceLT, decide_true, Nat.reduceAdd, Nat.reduceSub, Nat.reduceMul, Int.reduceLE, Int.reduceLT, Int.reduceToNat, Int.reduceNeg, reduceCtorEq, hc, hw]; all_goals exact crSxH3_5) : p := h
theorem ezSxH3_5 {p : Prop} (h : p := by simp only [go_sem, Nat.reduceBEq, Nat.reduceLeDiff, Nat.reduceLT, decide_true, Nat.reduceAdd, Nat.reduceSub, Nat.reduceMul, Int.reduceLE, Int.reduceLT, Int.reduceToNat, Int.reduceNeg, reduceCtorEq, hc]; all_goals exact crSxH3_5) : p := h
def ref22_valid (d : District) (x : Order) : Bool := (bif (((((decide (x.hour < 0)) || (decide (x.hour ≥ d.hours))) || (decide (x.litres < 1))) || (decide (x.litres > 1073741824))) || (decide (x.index < 0))) then false else (bif x.outlet then (decide (x.index < (d.farms.length : Int))) else (decide (x.index < (d.reaches.length : Int)))))
@[go_sem] def C_ref22_valid : List SV → Option Con := (pD .district fun d => (pD .order fun x => (pE (.det True (.v (.bool (ref22_valid d x)))))))
theorem ok_ref22_valid : FnOk Tryz.prog 29 C_ref22_valid := by
  have hG : ConsOk Tryz.prog (mkG [] []) := mkG_ok cg0 cg0
  refine fn_okN [.o] mixed ts_ok hG (fn := Tryz.f29) (c := bodyOf Tryz.f29) (by kernel_rfl) (by kernel_rfl) (by kernel_rfl) (by kernel_rfl) (pD_all fun d => (pD_all fun x => (pE_all (fun hp => ?_))))
  dsimp only [conPre] at hp
  refine ⟨Nat.le_of_ble_eq_true rfl, L0, loopsOk0 _, ?_⟩
  · unfold bodyOf Tryz.f29
    try unfold ref22_valid
    simp only [go_sem, Nat.reduceBEq, Nat.reduceLeDiff, Nat.reduceLT, decide_true, Nat.reduceAdd, Nat.reduceSub, Nat.reduceMul, Int.reduceLE, Int.reduceLT, Int.reduceToNat, Int.reduceNeg, reduceCtorEq]
    all_goals exact cl
def ref22_Before (a : Order) (b : Order) : Bool := (bif (a.hour != b.hour) then (decide (a.hour < b.hour)) else (bif (a.outlet != b.outlet) then b.outlet else (decide (a.index < b.index))))
@[go_sem] def C_ref22_Before : List SV → Option Con := (pD .order fun a => (pD .order fun b => (pE (.det True (.v (.bool (ref22_Before a b)))))))
theorem ok_ref22_Before : FnOk Tryz.prog 30 C_ref22_Before := by
  have hG : ConsOk Tryz.prog (mkG [] []) := mkG_ok cg0 cg0
  refine fn_okN [.o] mixed ts_ok hG (fn := Tryz.f30) (c := bodyOf Tryz.f30) (by kernel_rfl) (by kernel_rfl) (by kernel_rfl) (by kernel_rfl) (pD_all fun a => (pD_all fun b => (pE_all (fun hp => ?_))))
  dsimp only [conPre] at hp
  refine ⟨Nat.le_of_ble_eq_true rfl, L0, loopsOk0 _, ?_⟩
  · unfold bodyOf Tryz.f30
    try unfold ref22_Before
    simp only [go_sem, Nat.reduceBEq, Nat.reduceLeDiff, Nat.reduceLT, decide_true, Nat.reduceAdd, Nat.reduceSub, Nat.reduceMul, Int.reduceLE, Int.reduceLT, Int.reduceToNat, Int.reduceNeg, reduceCtorEq]
    all_goals exact cl
@[go_sem] def ref22_Check_l0 (d : District) (l_ : List Order) (k_0 : Nat) (s_0 : Unit) : Unit ⊕ Unit := (bif ((!(ref22_valid d (l_.getD k_0 (default : Order)))) || ((decide ((k_0 : Int) > 0)) && (!(ref22_Before (l_.getD (Int.toNat (IntKind.i64.wrap ((k_0 : Int) - 1))) (default : Order)) (l_.getD k_0 (default : Order)))))) then .inl () else .inr ())
def ref22_Check_l0_p (d : District) (l_ : List Order) (k_0 : Nat) (s_0 : Unit) : Prop := (l_.length ≤ maxL → ((!(ref22_valid d (l_.getD k_0 (default : Order)))) = false → ((decide ((k_0 : Int) > 0)) = true → (0 ≤ (IntKind.i64.wrap ((k_0 : Int) - 1)) ∧ (IntKind.i64.wrap ((k_0 : Int) - 1)) < (l_.length : Int)))))
def ref22_Check (d : District) (l_ : List Order) : Int := (bif ((ref19_Check d) != 0) then (ref19_Check d) else (bif (decide ((l_.length : Int) > 4096)) then 2 else (match runI (ref22_Check_l0 d l_) l_.length 0 () with | .inl x_0_0 => 220 | .inr s_0 => 0)))
def ref22_Check_p (d : District) (l_ : List Order) : Prop := ((ref19_Check_p d) ∧ (((ref19_Check d) != 0) = false → (l_.length ≤ maxL → ((decide ((l_.length : Int) > 4096)) = false → okI (ref22_Check_l0 d l_) (ref22_Check_l0_p d l_) l_.length 0 ()))))
@[go_sem] def C_ref22_Check : List SV → Option Con := (pD .district fun d => (pR .order fun l_ => (pE (.det (ref22_Check_p d l_) (.v (.int .i64 (ref22_Check d l_)))))))
theorem ok_ref22_Check : FnOk Tryz.prog 9 C_ref22_Check := by
  have hG : ConsOk Tryz.prog (mkG [(28, fun l => C_ref19_Check (nrmA [.st .district] l)), (29, fun l => C_ref22_valid (nrmA [.st .district, .st .order] l)), (30, C_ref22_Before)] []) := mkG_ok (cgc (ok_ref19_Check.norm [.st .district]) (cgc (ok_ref22_valid.norm [.st .district, .st .order]) (cgc ok_ref22_Before cg0))) cg0
  refine fn_okN [.o] mixed ts_ok hG (fn := Tryz.f9) (c := bodyOf Tryz.f9) (by kernel_rfl) (by kernel_rfl) (by kernel_rfl) (by kernel_rfl) (pD_all fun d => (pR_all fun l_ => (pE_all (fun hp => ?_))))
  dsimp only [conPre] at hp
  unfold ref22_Check_p at hp
  refine ⟨Nat.le_of_ble_eq_true rfl, (fun id st => bif Nat.beq id 0 then some (LCR (ρ := Unit) (σ := Unit) 1 [] [0] (fun k_0 s_0 => ⟨[(1, .rs .order l_), (2, .ptr 0 0), (6, .v (.int .i64 (k_0 : Int)))], [.cells (cellsOf .district d)]⟩) (ref22_Check_l0 d l_) (ref22_Check_l0_p d l_) l_.length () (True) (fun _ => .ret) (fun x_0_0 => ⟨[(4, .v (.int .i64 220))], [.dead]⟩) st) else none), ?_, ?_⟩
  · unfold bodyOf Tryz.f9
    simp only [loopsOk, true_and, and_true]
    · refine loopI_ok (l_.length ≤ maxL) mixed ts_ok hG (by kernel_rfl) (fun _ => rfl) (l_.length : Int) rfl lenB (fun hb0 k_0 s_0 hlt0 hq0 hw hc => ⟨L0, loopsOk0 _, ?_⟩) (fun hb0 s_0 hc => ?_) fun hb0 k_0 s_0 => ?_
      · unfold ref22_Check_l0_p at hq0
        try simp only [hw, Int.toNat_natCast] at hq0
        exact exSxR1_0
      · exact ezSxR1_0
      · simp only [go_sem, Nat.reduceBEq, Nat.reduceLeDiff, Nat.reduceLT, decide_true, Nat.reduceAdd, Nat.reduceSub, Nat.reduceMul, Int.reduceLE, Int.reduceLT, Int.reduceToNat, Int.reduceNeg, reduceCtorEq, hb0]
  · unfold bodyOf Tryz.f9
    try unfold ref22_Check
    simp only [go_sem, Nat.reduceBEq, Nat.reduceLeDiff, Nat.reduceLT, decide_true, Nat.reduceAdd, Nat.reduceSub, Nat.reduceMul, Int.reduceLE, Int.reduceLT, Int.reduceToNat, Int.reduceNeg, reduceCtorEq]
    all_goals exact cl
def ref22_Wide (d : District) : Bool := (decide ((IntKind.i64.wrap ((d.reaches.length : Int) * d.hours)) > 1024))
@[go_sem] def C_ref22_Wide : List SV → Option Con := (pD .district fun d => (pE (.det True (.v (.bool (ref22_Wide d))))))
theorem ok_ref22_Wide : FnOk Tryz.prog 24 C_ref22_Wide := by
  have hG : ConsOk Tryz.prog (mkG [] []) := mkG_ok cg0 cg0
  refine fn_okN [.o] mixed ts_ok hG (fn := Tryz.f24) (c := bodyOf Tryz.f24) (by kernel_rfl) (by kernel_rfl) (by kernel_rfl) (by kernel_rfl) (pD_all fun d => (pE_all (fun hp => ?_)))
  dsimp only [conPre] at hp
  refine ⟨Nat.le_of_ble_eq_true rfl, L0, loopsOk0 _, ?_⟩
  · unfold bodyOf Tryz.f24
    try unfold ref22_Wide
    simp only [go_sem, Nat.reduceBEq, Nat.reduceLeDiff, Nat.reduceLT, decide_true, Nat.reduceAdd, Nat.reduceSub, Nat.reduceMul, Int.reduceLE, Int.reduceLT, Int.reduceToNat, Int.reduceNeg, reduceCtorEq]
    all_goals exact cl
@[go_sem] def ref22_Demands_l0 (d : District) (l_ : List Order) (reach : Int) (k_0 : Nat) (s_0 : List Int) : Empty ⊕ (List Int) := (bif ((l_.getD k_0 (default : Order)).outlet && ((d.farms.getD (Int.toNat ((l_.getD k_0 (default : Order)).index)) (default : Farm)).reach == reach)) then .inr (s_0.set (Int.toNat ((l_.getD k_0 (default : Order)).hour)) (IntKind.i64.wrap ((s_0.getD (Int.toNat ((l_.getD k_0 (default : Order)).hour)) (0 : Int)) + (l_.getD k_0 (default : Order)).litres))) else .inr s_0)
def ref22_Demands_l0_p (d : District) (l_ : List Order) (reach : Int) (k_0 : Nat) (s_0 : List Int) : Prop := (l_.length ≤ maxL → (((l_.getD k_0 (default : Order)).outlet = true → (0 ≤ (l_.getD k_0 (default : Order)).index ∧ (l_.getD k_0 (default : Order)).index < (d.farms.length : Int))) ∧ (((l_.getD k_0 (default : Order)).outlet && ((d.farms.getD (Int.toNat ((l_.getD k_0 (default : Order)).index)) (default : Farm)).reach == reach)) = true → ((0 ≤ (l_.getD k_0 (default : Order)).hour ∧ (l_.getD k_0 (default : Order)).hour < (s_0.length : Int)) ∧ (0 ≤ (l_.getD k_0 (default : Order)).hour ∧ (l_.getD k_0 (default : Order)).hour < (s_0.length : Int))))))
def ref22_Demands (d : District) (l_ : List Order) (reach : Int) : List Int := (match runI (ref22_Demands_l0 d l_ reach) l_.length 0 (List.replicate (Int.toNat d.hours) (0 : Int)) with | .inl x => x.elim | .inr s_0 => s_0)
def ref22_Demands_p (d : District) (l_ : List Order) (reach : Int) : Prop := ((d.hours = d.hours ∧ 0 ≤ d.hours ∧ d.hours * ((8 : Nat) : Int) ≤ ((maxB : Nat) : Int)) ∧ (d.hours ≤ ((maxL : Nat) : Int) → okI (ref22_Demands_l0 d l_ reach) (ref22_Demands_l0_p d l_ reach) l_.length 0 (List.replicate (Int.toNat d.hours) (0 : Int))))
@[go_sem] def C_ref22_Demands : List SV → Option Con := (pD .district fun d => (pR .order fun l_ => (pI fun reach => (pE (.det (ref22_Demands_p d l_ reach) (.nw .int (ref22_Demands d l_ reach)))))))
theorem ok_ref22_Demands : FnOk Tryz.prog 43 C_ref22_Demands := by
  have hG : ConsOk Tryz.prog (mkG [] []) := mkG_ok cg0 cg0
  refine fn_okE true mixed ts_ok hG (fn := Tryz.f43) (c := bodyOf Tryz.f43) (by kernel_rfl) (by kernel_rfl) (by kernel_rfl) (by kernel_rfl) (pD_all fun d => (pR_all fun l_ => (pI_all fun reach => (pE_all (fun hp => ?_)))))
  dsimp only [conPre] at hp
  unfold ref22_Demands_p at hp
  refine ⟨Nat.le_of_ble_eq_true rfl, (fun id st => bif Nat.beq id 0 then some (LCR (ρ := Empty) (σ := (List Int)) 2 [] [0, 1] (fun k_0 s_0 => ⟨[(1, .rs .order l_), (2, .v (.int .i64 reach)), (3, .ptr 0 0), (7, .os 1), (8, .v (.int .i64 (k_0 : Int)))], [.cells (cellsOf .district d), .row .int s_0]⟩) (ref22_Demands_l0 d l_ reach) (ref22_Demands_l0_p d l_ reach) l_.length (List.replicate (Int.toNat d.hours) (0 : Int)) (True) ((·.elim)) ((·.elim)) st) else none), ?_, ?_⟩
  · unfold bodyOf Tryz.f43
    simp only [loopsOk, true_and, and_true]
    · refine loopI_ok (l_.length ≤ maxL) mixed ts_ok hG (by kernel_rfl) (fun _ => rfl) (l_.length : Int) rfl lenB (fun hb0 k_0 s_0 hlt0 hq0 hw hc => ⟨L0, loopsOk0 _, ?_⟩) (fun hb0 s_0 hc => ?_) fun hb0 k_0 s_0 => ?_
      · unfold ref22_Demands_l0_p at hq0
        try simp only [hw, Int.toNat_natCast] at hq0
        exact exSxR4_1
      · exact ezSxR4_1
      · simp only [go_sem, Nat.reduceBEq, Nat.reduceLeDiff, Nat.reduceLT, decide_true, Nat.reduceAdd, Nat.reduceSub, Nat.reduceMul, Int.reduceLE, Int.reduceLT, Int.reduceToNat, Int.reduceNeg, reduceCtorEq, hb0]
  · unfold bodyOf Tryz.f43
    try unfold ref22_Demands
    simp only [go_sem, Nat.reduceBEq, Nat.reduceLeDiff, Nat.reduceLT, decide_true, Nat.reduceAdd, Nat.reduceSub, Nat.reduceMul, Int.reduceLE, Int.reduceLT, Int.reduceToNat, Int.reduceNeg, reduceCtorEq]
    all_goals exact cl
@[go_sem] def ref22_Put_l0 (l_ : List Order) (x : Order) (k_0 : Nat) (s_0 : Int) : Int ⊕ Int := (bif ((decide (s_0 < (l_.length : Int))) && (ref22_Before (l_.getD (Int.toNat s_0) (default : Order)) x)) then .inr (IntKind.i64.wrap (s_0 + 1)) else .inl s_0)
def ref22_Put_l0_p (l_ : List Order) (x : Order) (k_0 : Nat) (s_0 : Int) : Prop := (l_.length ≤ maxL → ((decide (s_0 < (l_.length : Int))) = true → (0 ≤ s_0 ∧ s_0 < (l_.length : Int))))
def ref22_Put (l_ : List Order) (x : Order) : List Order := (match runI (ref22_Put_l0 l_ x) (l_.length + 1) 0 0 with | .inl x_0_0 => (((([]) ++ ((l_.take (Int.toNat x_0_0)).drop 0)) ++ ([x])) ++ ((l_.take (Int.toNat (l_.length : Int))).drop (Int.toNat x_0_0))) | .inr s_0 => default)
def ref22_Put_p (l_ : List Order) (x : Order) : Prop := (okI (ref22_Put_l0 l_ x) (ref22_Put_l0_p l_ x) (l_.length + 1) 0 0 ∧ (∀ z_, runI (ref22_Put_l0 l_ x) (l_.length + 1) 0 0 ≠ .inr z_) ∧ (∀ x_0_0, runI (ref22_Put_l0 l_ x) (l_.length + 1) 0 0 = .inl x_0_0 → ((0 ≤ 0 ∧ 0 ≤ x_0_0 ∧ x_0_0 ≤ (l_.length : Int)) ∧ (((([]) ++ ((l_.take (Int.toNat x_0_0)).drop 0)).length * 32 ≤ maxB) ∧ ((([]) ++ ((l_.take (Int.toNat x_0_0)).drop 0)).length ≤ maxL → ((((([]) ++ ((l_.take (Int.toNat x_0_0)).drop 0)) ++ ([x])).length * 32 ≤ maxB) ∧ (((([]) ++ ((l_.take (Int.toNat x_0_0)).drop 0)) ++ ([x])).length ≤ maxL → ((0 ≤ x_0_0 ∧ x_0_0 ≤ (l_.length : Int) ∧ (l_.length : Int) ≤ (l_.length : Int)) ∧ ((((([]) ++ ((l_.take (Int.toNat x_0_0)).drop 0)) ++ ([x])) ++ ((l_.take (Int.toNat (l_.length : Int))).drop (Int.toNat x_0_0))).length * 32 ≤ maxB)))))))))
@[go_sem] def C_ref22_Put : List SV → Option Con := (pR .order fun l_ => (pD .order fun x => (pE (.det (ref22_Put_p l_ x) (.nw .order (ref22_Put l_ x))))))
theorem ok_ref22_Put : FnOk Tryz.prog 26 C_ref22_Put := by
  have hG : ConsOk Tryz.prog (mkG [(30, C_ref22_Before)] []) := mkG_ok (cgc ok_ref22_Before cg0) cg0
  refine fn_okE true mixed ts_ok hG (fn := Tryz.f26) (c := bodyOf Tryz.f26) (by kernel_rfl) (by kernel_rfl) (by kernel_rfl) (by kernel_rfl) (pR_all fun l_ => (pD_all fun x => (pE_all (fun hp => ?_))))
  dsimp only [conPre] at hp
  unfold ref22_Put_p at hp
  refine ⟨Nat.le_of_ble_eq_true rfl, (fun id st => bif Nat.beq id 0 then some (LCV (ρ := Int) (σ := Int) 1 [] [0] (fun k_0 s_0 => ⟨[(0, .rs .order l_), (3, .ptr 0 0), (5, .v (.int .i64 s_0))], [.cells (cellsOf .order x)]⟩) (ref22_Put_l0 l_ x) (ref22_Put_l0_p l_ x) (l_.length + 1) 0 (fun _ => .normal) (fun x_0_0 => ⟨[(0, .rs .order l_), (3, .ptr 0 0), (5, .v (.int .i64 x_0_0))], [.cells (cellsOf .order x)]⟩) st) else none), ?_, ?_⟩
  · unfold bodyOf Tryz.f26
    simp only [loopsOk, true_and, and_true]
    · refine loopV_ok mixed ts_ok hG (by kernel_rfl) (fun _ => rfl) fun k_0 s_0 hq0 => ⟨L0, loopsOk0 _, ?_⟩
      · unfold ref22_Put_l0_p at hq0
        exact evSxR3_0
  · unfold bodyOf Tryz.f26
    try unfold ref22_Put
    simp only [go_sem, Nat.reduceBEq, Nat.reduceLeDiff, Nat.reduceLT, decide_true, Nat.reduceAdd, Nat.reduceSub, Nat.reduceMul, Int.reduceLE, Int.reduceLT, Int.reduceToNat, Int.reduceNeg, reduceCtorEq]
    all_goals exact cl
@[go_sem] def ref22_Intakes_l2 (a0 : District) (s_0 : List (List Int) × Int) (s_1 : List Int × Int) (k_2 : Nat) (s_2 : List Int × Int) : (List Int) ⊕ (List Int × Int) := (bif ((decide (s_2.2 < a0.hours)) && ((a0.reaches.getD (Int.toNat s_1.2) (default : Reach)).up == s_0.2)) then .inr ((s_2.1.set (Int.toNat s_2.2) (IntKind.i64.wrap ((s_2.1.getD (Int.toNat s_2.2) (0 : Int)) + (((s_0.1.set (Int.toNat s_0.2) (List.replicate (Int.toNat a0.hours) (0 : Int))).getD (Int.toNat s_1.2) []).getD (Int.toNat s_2.2) (0 : Int))))), (IntKind.i64.wrap (s_2.2 + 1))) else .inl s_2.1)
def ref22_Intakes_l2_p (a0 : District) (s_0 : List (List Int) × Int) (s_1 : List Int × Int) (k_2 : Nat) (s_2 : List Int × Int) : Prop := (((decide (s_2.2 < a0.hours)) = true → (0 ≤ s_1.2 ∧ s_1.2 < (a0.reaches.length : Int))) ∧ (((decide (s_2.2 < a0.hours)) && ((a0.reaches.getD (Int.toNat s_1.2) (default : Reach)).up == s_0.2)) = true → ((0 ≤ s_2.2 ∧ s_2.2 < (s_2.1.length : Int)) ∧ ((0 ≤ s_1.2 ∧ s_1.2 < ((s_0.1.set (Int.toNat s_0.2) (List.replicate (Int.toNat a0.hours) (0 : Int))).length : Int)) ∧ ((0 ≤ s_2.2 ∧ s_2.2 < (((s_0.1.set (Int.toNat s_0.2) (List.replicate (Int.toNat a0.hours) (0 : Int))).getD (Int.toNat s_1.2) []).length : Int)) ∧ (0 ≤ s_2.2 ∧ s_2.2 < (s_2.1.length : Int)))))))
@[go_sem] def ref22_Intakes_l1 (a0 : District) (s_0 : List (List Int) × Int) (k_1 : Nat) (s_1 : List Int × Int) : (List Int) ⊕ (List Int × Int) := (bif (decide (s_1.2 < (a0.reaches.length : Int))) then (match runI (ref22_Intakes_l2 a0 s_0 s_1) (Int.toNat a0.hours + 1) 0 (s_1.1, 0) with | .inl x_2_0 => .inr (x_2_0, (IntKind.i64.wrap (s_1.2 + 1))) | .inr s_2 => .inr default) else .inl s_1.1)
def ref22_Intakes_l1_p (a0 : District) (s_0 : List (List Int) × Int) (k_1 : Nat) (s_1 : List Int × Int) : Prop := (a0.reaches.length ≤ maxL → ((decide (s_1.2 < (a0.reaches.length : Int))) = true → (okI (ref22_Intakes_l2 a0 s_0 s_1) (ref22_Intakes_l2_p a0 s_0 s_1) (Int.toNat a0.hours + 1) 0 (s_1.1, 0) ∧ (∀ z_, runI (ref22_Intakes_l2 a0 s_0 s_1) (Int.toNat a0.hours + 1) 0 (s_1.1, 0) ≠ .inr z_))))
@[go_sem] def ref22_Intakes_l3 (a0 : District) (s_0 : List (List Int) × Int) (x_1_0 : List Int) (k_3 : Nat) (s_3 : List (List Int)) : Unit ⊕ (List (List Int)) := (bif ((!(ref22_Intake (a0.reaches.getD (Int.toNat s_0.2) (default : Reach)) (x_1_0.getD k_3 (0 : Int))).2) || ((decide ((ref22_Intake (a0.reaches.getD (Int.toNat s_0.2) (default : Reach)) (x_1_0.getD k_3 (0 : Int))).1 > 0)) && (decide ((IntKind.i64.wrap ((k_3 : Int) - (a0.reaches.getD (Int.toNat s_0.2) (default : Reach)).delay)) < 0)))) then .inl () else (bif (decide ((ref22_Intake (a0.reaches.getD (Int.toNat s_0.2) (default : Reach)) (x_1_0.getD k_3 (0 : Int))).1 > 0)) then .inr (s_3.set (Int.toNat s_0.2) ((s_3.getD (Int.toNat s_0.2) []).set (Int.toNat (IntKind.i64.wrap ((k_3 : Int) - (a0.reaches.getD (Int.toNat s_0.2) (default : Reach)).delay))) (ref22_Intake (a0.reaches.getD (Int.toNat s_0.2) (default : Reach)) (x_1_0.getD k_3 (0 : Int))).1)) else .inr s_3))
def ref22_Intakes_l3_p (a0 : District) (s_0 : List (List Int) × Int) (x_1_0 : List Int) (k_3 : Nat) (s_3 : List (List Int)) : Prop := ((0 ≤ s_0.2 ∧ s_0.2 < (a0.reaches.length : Int)) ∧ ((0 ≤ (k_3 : Int) ∧ (k_3 : Int) < (x_1_0.length : Int)) ∧ ((ref22_Intake_p (a0.reaches.getD (Int.toNat s_0.2) (default : Reach)) (x_1_0.getD k_3 (0 : Int))) ∧ ((0 ≤ s_0.2 ∧ s_0.2 < (a0.reaches.length : Int)) ∧ (((!(ref22_Intake (a0.reaches.getD (Int.toNat s_0.2) (default : Reach)) (x_1_0.getD k_3 (0 : Int))).2) || ((decide ((ref22_Intake (a0.reaches.getD (Int.toNat s_0.2) (default : Reach)) (x_1_0.getD k_3 (0 : Int))).1 > 0)) && (decide ((IntKind.i64.wrap ((k_3 : Int) - (a0.reaches.getD (Int.toNat s_0.2) (default : Reach)).delay)) < 0)))) = false → ((decide ((ref22_Intake (a0.reaches.getD (Int.toNat s_0.2) (default : Reach)) (x_1_0.getD k_3 (0 : Int))).1 > 0)) = true → ((0 ≤ s_0.2 ∧ s_0.2 < (s_3.length : Int)) ∧ (0 ≤ (IntKind.i64.wrap ((k_3 : Int) - (a0.reaches.getD (Int.toNat s_0.2) (default : Reach)).delay)) ∧ (IntKind.i64.wrap ((k_3 : Int) - (a0.reaches.getD (Int.toNat s_0.2) (default : Reach)).delay)) < ((s_3.getD (Int.toNat s_0.2) []).length : Int)))))))))
@[go_sem] def ref22_Intakes_l0 (a0 : District) (a1 : List Order) (k_0 : Nat) (s_0 : List (List Int) × Int) : (Unit ⊕ (List (List Int))) ⊕ (List (List Int) × Int) := (bif (decide (s_0.2 ≥ 0)) then (match runI (ref22_Intakes_l1 a0 s_0) (a0.reaches.length + 1) 0 ((ref22_Demands a0 a1 s_0.2), (IntKind.i64.wrap (s_0.2 + 1))) with | .inl x_1_0 => (match runI (ref22_Intakes_l3 a0 s_0 x_1_0) (Int.toNat a0.hours) 0 (s_0.1.set (Int.toNat s_0.2) (List.replicate (Int.toNat a0.hours) (0 : Int))) with | .inl x_3_0 => .inl (.inl ()) | .inr s_3 => .inr (s_3, (IntKind.i64.wrap (s_0.2 - 1)))) | .inr s_1 => .inr default) else .inl (.inr s_0.1))
def ref22_Intakes_l0_p (a0 : District) (a1 : List Order) (k_0 : Nat) (s_0 : List (List Int) × Int) : Prop := ((decide (s_0.2 ≥ 0)) = true → ((a0.hours = a0.hours ∧ 0 ≤ a0.hours ∧ a0.hours * ((8 : Nat) : Int) ≤ ((maxB : Nat) : Int)) ∧ (a0.hours ≤ ((maxL : Nat) : Int) → ((0 ≤ s_0.2 ∧ s_0.2 < (s_0.1.length : Int)) ∧ ((ref22_Demands_p a0 a1 s_0.2) ∧ (okI (ref22_Intakes_l1 a0 s_0) (ref22_Intakes_l1_p a0 s_0) (a0.reaches.length + 1) 0 ((ref22_Demands a0 a1 s_0.2), (IntKind.i64.wrap (s_0.2 + 1))) ∧ (∀ z_, runI (ref22_Intakes_l1 a0 s_0) (a0.reaches.length + 1) 0 ((ref22_Demands a0 a1 s_0.2), (IntKind.i64.wrap (s_0.2 + 1))) ≠ .inr z_) ∧ (∀ x_1_0, runI (ref22_Intakes_l1 a0 s_0) (a0.reaches.length + 1) 0 ((ref22_Demands a0 a1 s_0.2), (IntKind.i64.wrap (s_0.2 + 1))) = .inl x_1_0 → ((a0.hours < 9223372036854775808) ∧ okI (ref22_Intakes_l3 a0 s_0 x_1_0) (ref22_Intakes_l3_p a0 s_0 x_1_0) (Int.toNat a0.hours) 0 (s_0.1.set (Int.toNat s_0.2) (List.replicate (Int.toNat a0.hours) (0 : Int)))))))))))
def ref22_Intakes (a0 : District) (a1 : List Order) : List (List Int) × Bool := (match runI (ref22_Intakes_l0 a0 a1) (a0.reaches.length + 1) 0 ((List.replicate a0.reaches.length []), (IntKind.i64.wrap ((a0.reaches.length : Int) - 1))) with | .inl (.inl x_0_0) => ([], false) | .inl (.inr x_0_1) => (x_0_1, true) | .inr s_0 => default)
def ref22_Intakes_p (a0 : District) (a1 : List Order) : Prop := (a0.reaches.length ≤ maxL → (((a0.reaches.length : Int) = (a0.reaches.length : Int) ∧ 0 ≤ (a0.reaches.length : Int) ∧ (a0.reaches.length : Int) * ((24 : Nat) : Int) ≤ ((maxB : Nat) : Int)) ∧ ((a0.reaches.length : Int) ≤ ((maxL : Nat) : Int) → (a0.reaches.length ≤ maxL → (okI (ref22_Intakes_l0 a0 a1) (ref22_Intakes_l0_p a0 a1) (a0.reaches.length + 1) 0 ((List.replicate a0.reaches.length []), (IntKind.i64.wrap ((a0.reaches.length : Int) - 1))) ∧ (∀ z_, runI (ref22_Intakes_l0 a0 a1) (a0.reaches.length + 1) 0 ((List.replicate a0.reaches.length []), (IntKind.i64.wrap ((a0.reaches.length : Int) - 1))) ≠ .inr z_))))))
@[go_sem] def C_ref22_Intakes : List SV → Option Con := (pD .district fun a0 => (pR .order fun a1 => (pE (.det (ref22_Intakes_p a0 a1) (.tup [.rs .ints ((ref22_Intakes a0 a1).1), .v (.bool ((ref22_Intakes a0 a1).2))])))))
theorem ok_ref22_Intakes : FnOk Tryz.prog 25 C_ref22_Intakes := by
  have hG : ConsOk Tryz.prog (mkG [(43, fun l => C_ref22_Demands (nrmA [.st .district, .sl .order, .o] l)), (44, C_ref22_Intake)] []) := mkG_ok (cgc (ok_ref22_Demands.norm [.st .district, .sl .order, .o]) (cgc ok_ref22_Intake cg0)) cg0
  refine fn_okN [.sl .ints, .o] mixed ts_ok hG (fn := Tryz.f25) (c := bodyOf Tryz.f25) (by kernel_rfl) (by kernel_rfl) (by kernel_rfl) (by kernel_rfl) (pD_all fun a0 => (pR_all fun a1 => (pE_all (fun hp => ?_))))
  dsimp only [conPre] at hp
  unfold ref22_Intakes_p at hp
  refine ⟨Nat.le_of_ble_eq_true rfl, (fun id st => bif Nat.beq id 0 then some (LCV (ρ := (Unit ⊕ (List (List Int)))) (σ := (List (List Int) × Int)) 2 [] [0, 1, 1] (fun k_0 s_0 => ⟨[(1, .rs .order a1), (2, .ptr 0 0), (6, .os 2), (7, .v (.int .i64 s_0.2))], [.cells (cellsOf .district a0), .dead, .grid .int s_0.1]⟩) (ref22_Intakes_l0 a0 a1) (ref22_Intakes_l0_p a0 a1) (a0.reaches.length + 1) ((List.replicate a0.reaches.length []), (IntKind.i64.wrap ((a0.reaches.length : Int) - 1))) (fun x => match x with | (.inl _) => .ret | (.inr _) => .normal) (fun x => match x with | (.inl x_0_0) => ⟨[(4, .v (.slice none 0 0)), (5, .v (.bool false))], [.dead, .dead, .dead]⟩ | (.inr x_0_1) => ⟨[(6, .os 2)], [.dead, .dead, .grid .int x_0_1]⟩) st) else none), ?_, ?_⟩
  · unfold bodyOf Tryz.f25
    simp only [loopsOk, true_and, and_true]
    · refine loopV_ok mixed ts_ok hG (by kernel_rfl) (fun _ => rfl) fun k_0 s_0 hq0 => ⟨(fun id st => bif Nat.beq id 2 then some (LCV (ρ := (List Int)) (σ := (List Int × Int)) 6 [] [0, 1, 2, 3, 4, 5] (fun k_1 s_1 => ⟨[(1, .rs .order a1), (2, .ptr 0 0), (6, .os 4), (7, .v (.int .i64 s_0.2)), (8, .os 5), (9, .v (.int .i64 s_1.2))], [.cells (cellsOf .district a0), .dead, .dead, .dead, .grid .int (s_0.1.set (Int.toNat s_0.2) (List.replicate (Int.toNat a0.hours) (0 : Int))), .row .int s_1.1]⟩) (ref22_Intakes_l1 a0 s_0) (ref22_Intakes_l1_p a0 s_0) (a0.reaches.length + 1) ((ref22_Demands a0 a1 s_0.2), (IntKind.i64.wrap (s_0.2 + 1))) (fun _ => .normal) (fun x_1_0 => ⟨[(1, .rs .order a1), (2, .ptr 0 0), (6, .os 4), (7, .v (.int .i64 s_0.2)), (8, .os 5)], [.cells (cellsOf .district a0), .dead, .dead, .dead, .grid .int (s_0.1.set (Int.toNat s_0.2) (List.replicate (Int.toNat a0.hours) (0 : Int))), .row .int x_1_0]⟩) st) else bif Nat.beq id 6 then some (LCR (ρ := Unit) (σ := (List (List Int))) 6 [] [0, 1, 2, 3, 4, 5] (fun k_3 s_3 => ⟨[(1, .rs .order a1), (2, .ptr 0 0), (6, .os 4), (7, .v (.int .i64 s_0.2)), (8, .os 5), (11, .v (.int .i64 (k_3 : Int)))], [.cells (cellsOf .district a0), .dead, .dead, .dead, .grid .int s_3, .row .int (outL (runI (ref22_Intakes_l1 a0 s_0) (a0.reaches.length + 1) 0 ((ref22_Demands a0 a1 s_0.2), (IntKind.i64.wrap (s_0.2 + 1)))))]⟩) (ref22_Intakes_l3 a0 s_0 (outL (runI (ref22_Intakes_l1 a0 s_0) (a0.reaches.length + 1) 0 ((ref22_Demands a0 a1 s_0.2), (IntKind.i64.wrap (s_0.2 + 1)))))) (ref22_Intakes_l3_p a0 s_0 (outL (runI (ref22_Intakes_l1 a0 s_0) (a0.reaches.length + 1) 0 ((ref22_Demands a0 a1 s_0.2), (IntKind.i64.wrap (s_0.2 + 1)))))) (Int.toNat a0.hours) (s_0.1.set (Int.toNat s_0.2) (List.replicate (Int.toNat a0.hours) (0 : Int))) (a0.hours < 9223372036854775808) (fun _ => .ret) (fun x_3_0 => ⟨[(4, .v (.slice none 0 0)), (5, .v (.bool false))], [.dead, .dead, .dead, .dead, .dead, .dead]⟩) st) else none), ?_, ?_⟩
      · simp only [loopsOk, true_and, and_true]
        refine ⟨?_, ?_⟩
        · refine loopV_ok mixed ts_ok hG (by kernel_rfl) (fun _ => rfl) fun k_1 s_1 hq1 => ⟨(fun id st => bif Nat.beq id 4 then some (LCV (ρ := (List Int)) (σ := (List Int × Int)) 6 [] [0, 1, 2, 3, 4, 5] (fun k_2 s_2 => ⟨[(1, .rs .order a1), (2, .ptr 0 0), (6, .os 4), (7, .v (.int .i64 s_0.2)), (8, .os 5), (9, .v (.int .i64 s_1.2)), (10, .v (.int .i64 s_2.2))], [.cells (cellsOf .district a0), .dead, .dead, .dead, .grid .int (s_0.1.set (Int.toNat s_0.2) (List.replicate (Int.toNat a0.hours) (0 : Int))), .row .int s_2.1]⟩) (ref22_Intakes_l2 a0 s_0 s_1) (ref22_Intakes_l2_p a0 s_0 s_1) (Int.toNat a0.hours + 1) (s_1.1, 0) (fun _ => .normal) (fun x_2_0 => ⟨[(1, .rs .order a1), (2, .ptr 0 0), (6, .os 4), (7, .v (.int .i64 s_0.2)), (8, .os 5), (9, .v (.int .i64 s_1.2))], [.cells (cellsOf .district a0), .dead, .dead, .dead, .grid .int (s_0.1.set (Int.toNat s_0.2) (List.replicate (Int.toNat a0.hours) (0 : Int))), .row .int x_2_0]⟩) st) else none), ?_, ?_⟩
          · simp only [loopsOk, true_and, and_true]
            · refine loopV_ok mixed ts_ok hG (by kernel_rfl) (fun _ => rfl) fun k_2 s_2 hq2 => ⟨L0, loopsOk0 _, ?_⟩
              · unfold ref22_Intakes_l2_p at hq2
                exact evSxH3_3
          · unfold ref22_Intakes_l1_p at hq1
            exact evSxH3_3
        · refine loopR_ok mixed ts_ok hG (by kernel_rfl) (fun _ => rfl) a0.hours rfl id (fun hb3 k_3 s_3 hlt3 hq3 hw hc => ⟨L0, loopsOk0 _, ?_⟩) (fun hb3 s_3 hc => ?_)
          · unfold ref22_Intakes_l3_p at hq3
            try simp only [hw, Int.toNat_natCast] at hq3
            simp only [go_sem, Nat.reduceBEq, Nat.reduceLeDiff, Nat.reduceLT, decide_true, Nat.reduceAdd, Nat.reduceSub, Nat.reduceMul, Int.reduceLE, Int.reduceLT, Int.reduceToNat, Int.reduceNeg, reduceCtorEq, hc, hw]
            all_goals (repeat' (first | with_reducible refine And.intro ?_ ?_ | with_reducible intro _))
            all_goals first | exact crSxR5_2 | (rename_i h1 h2; rw [h1, cond_false, h2]; exact crSxR5_2) | (rename_i h1 h2; have hq := hq3.2.2.2.2 h1 h2; omega)
          · exact ezSxR5_2
      · unfold ref22_Intakes_l0_p at hq0
        simp only [go_sem, Nat.reduceBEq, Nat.reduceLeDiff, Nat.reduceLT, decide_true, Nat.reduceAdd, Nat.reduceSub, Nat.reduceMul, Int.reduceLE, Int.reduceLT, Int.reduceToNat, Int.reduceNeg, reduceCtorEq]
        all_goals (repeat' (first | with_reducible refine And.intro ?_ ?_ | with_reducible intro _))
        all_goals first | exact crSxH3_2 | (rename_i h1 _ _ h3 _ h4; simp only [h3, outL] at h4; simp only [h1, h3, h4, outL, cond_true]; exact crSxH3_2)
  · unfold bodyOf Tryz.f25
    try unfold ref22_Intakes
    simp only [go_sem, Nat.reduceBEq, Nat.reduceLeDiff, Nat.reduceLT, decide_true, Nat.reduceAdd, Nat.reduceSub, Nat.reduceMul, Int.reduceLE, Int.reduceLT, Int.reduceToNat, Int.reduceNeg, reduceCtorEq, Sum.forall]
    all_goals exact cl
@[go_sem] def ref22_Plan_l0 (a1 : List Order) (k_0 : Nat) (s_0 : Unit) : Unit ⊕ Unit := (bif (!(a1.getD k_0 (default : Order)).outlet) then .inl () else .inr ())
@[go_sem] def ref22_Plan_l2 (a0 : District) (a1 : List Order) (k_1 : Nat) (k_2 : Nat) (s_2 : List Order) : Empty ⊕ (List Order) := (bif (decide (((((ref22_Intakes a0 a1).1).getD k_1 (default : List Int)).getD k_2 (0 : Int)) > 0)) then .inr (ref22_Put s_2 ({ hour := (k_2 : Int), index := (k_1 : Int), litres := ((((ref22_Intakes a0 a1).1).getD k_1 (default : List Int)).getD k_2 (0 : Int)), outlet := false } : Order)) else .inr s_2)
def ref22_Plan_l2_p (a0 : District) (a1 : List Order) (k_1 : Nat) (k_2 : Nat) (s_2 : List Order) : Prop := ((0 ≤ (k_2 : Int) ∧ (k_2 : Int) < ((((ref22_Intakes a0 a1).1).getD k_1 (default : List Int)).length : Int)) ∧ ((decide (((((ref22_Intakes a0 a1).1).getD k_1 (default : List Int)).getD k_2 (0 : Int)) > 0)) = true → ((0 ≤ (k_2 : Int) ∧ (k_2 : Int) < ((((ref22_Intakes a0 a1).1).getD k_1 (default : List Int)).length : Int)) ∧ (ref22_Put_p s_2 ({ hour := (k_2 : Int), index := (k_1 : Int), litres := ((((ref22_Intakes a0 a1).1).getD k_1 (default : List Int)).getD k_2 (0 : Int)), outlet := false } : Order)))))
@[go_sem] def ref22_Plan_l1 (a0 : District) (a1 : List Order) (k_1 : Nat) (s_1 : List Order) : Empty ⊕ (List Order) := (match runI (ref22_Plan_l2 a0 a1 k_1) (Int.toNat a0.hours) 0 s_1 with | .inl x => x.elim | .inr s_2 => .inr s_2)
def ref22_Plan_l1_p (a0 : District) (a1 : List Order) (k_1 : Nat) (s_1 : List Order) : Prop := (((ref22_Intakes a0 a1).1).length ≤ maxL → ((a0.hours < 9223372036854775808) ∧ okI (ref22_Plan_l2 a0 a1 k_1) (ref22_Plan_l2_p a0 a1 k_1) (Int.toNat a0.hours) 0 s_1))
def ref22_Plan (a0 : District) (a1 : List Order) : List Order × Bool × Int := (bif ((ref22_Check a0 a1) != 0) then ([], false, (ref22_Check a0 a1)) else (bif (ref22_Wide a0) then ([], false, 2) else (match runI (ref22_Plan_l0 a1) a1.length 0 () with | .inl x_0_0 => ([], false, 220) | .inr s_0 => (bif (!(ref22_Intakes a0 a1).2) then ([], false, 0) else (match runI (ref22_Plan_l1 a0 a1) (((ref22_Intakes a0 a1).1).length) 0 (([]) ++ a1) with | .inl x => x.elim | .inr s_1 => (bif (decide ((s_1.length : Int) > 4096)) then ([], false, 2) else (s_1, true, 0)))))))
def ref22_Plan_p (a0 : District) (a1 : List Order) : Prop := ((ref22_Check_p a0 a1) ∧ (((ref22_Check a0 a1) != 0) = false → ((ref22_Wide a0) = false → (∀ s_0, runI (ref22_Plan_l0 a1) a1.length 0 () = .inr s_0 → ((ref22_Intakes_p a0 a1) ∧ ((!(ref22_Intakes a0 a1).2) = false → (((([]) ++ a1).length * 32 ≤ maxB) ∧ ((([]) ++ a1).length ≤ maxL → okI (ref22_Plan_l1 a0 a1) (ref22_Plan_l1_p a0 a1) (((ref22_Intakes a0 a1).1).length) 0 (([]) ++ a1)))))))))
@[go_sem] def C_ref22_Plan : List SV → Option Con := (pD .district fun a0 => (pR .order fun a1 => (pE (.det (ref22_Plan_p a0 a1) (.tup [.nw .order ((ref22_Plan a0 a1).1), .v (.bool ((ref22_Plan a0 a1).2.1)), .v (.int .i64 ((ref22_Plan a0 a1).2.2))])))))
theorem ok_ref22_Plan : FnOk Tryz.prog 7 C_ref22_Plan := by
  have hG : ConsOk Tryz.prog (mkG [(9, fun l => C_ref22_Check (nrmA [.st .district, .sl .order] l)), (24, fun l => C_ref22_Wide (nrmA [.st .district] l)), (25, fun l => C_ref22_Intakes (nrmA [.st .district, .sl .order] l)), (26, fun l => C_ref22_Put (nrmA [.sl .order, .st .order] l))] []) := mkG_ok (cgc (ok_ref22_Check.norm [.st .district, .sl .order]) (cgc (ok_ref22_Wide.norm [.st .district]) (cgc (ok_ref22_Intakes.norm [.st .district, .sl .order]) (cgc (ok_ref22_Put.norm [.sl .order, .st .order]) cg0)))) cg0
  refine fn_okW [(.tmp 4, .order)] mixed ts_ok hG (fn := Tryz.f7) (c := bodyOf Tryz.f7) (by kernel_rfl) (by kernel_rfl) (by kernel_rfl) (by kernel_rfl) (pD_all fun a0 => (pR_all fun a1 => (pE_all (fun hp => ?_))))
  dsimp only [conPre] at hp
  unfold ref22_Plan_p at hp
  refine ⟨Nat.le_of_ble_eq_true rfl, (fun id st => bif Nat.beq id 0 then some (LCR (ρ := Unit) (σ := Unit) 1 [] [0] (fun k_0 s_0 => ⟨[(1, .rs .order a1), (2, .ptr 0 0), (8, .v (.int .i64 (k_0 : Int)))], [.cells (cellsOf .district a0)]⟩) (ref22_Plan_l0 a1) pT a1.length () (True) (fun _ => .ret) (fun x_0_0 => ⟨[(4, .v (.slice none 0 0)), (5, .v (.bool false)), (6, .v (.int .i64 220))], [.dead]⟩) st) else bif Nat.beq id 2 then some (LCR (ρ := Empty) (σ := (List Order)) 2 [] [0, 1, 1] (fun k_1 s_1 => ⟨[(2, .ptr 0 0), (9, .rs .ints ((ref22_Intakes a0 a1).1)), (11, .os 2), (12, .v (.int .i64 (k_1 : Int)))], [.cells (cellsOf .district a0), .dead, .row .order s_1]⟩) (ref22_Plan_l1 a0 a1) (ref22_Plan_l1_p a0 a1) (((ref22_Intakes a0 a1).1).length) (([]) ++ a1) (True) ((·.elim)) ((·.elim)) st) else none), ?_, ?_⟩
  · unfold bodyOf Tryz.f7
    simp only [loopsOk, true_and, and_true]
    refine ⟨?_, ?_⟩
    · refine loopI_ok (a1.length ≤ maxL) mixed ts_ok hG (by kernel_rfl) (fun _ => rfl) (a1.length : Int) rfl lenB (fun hb0 k_0 s_0 hlt0 _ hw hc => ⟨L0, loopsOk0 _, ?_⟩) (fun hb0 s_0 hc => ?_) fun hb0 k_0 s_0 => ?_
      · exact exSxR1_0
      · exact ezSxR1_0
      · simp only [go_sem, Nat.reduceBEq, Nat.reduceLeDiff, Nat.reduceLT, decide_true, Nat.reduceAdd, Nat.reduceSub, Nat.reduceMul, Int.reduceLE, Int.reduceLT, Int.reduceToNat, Int.reduceNeg, reduceCtorEq, hb0]
    · refine loopI_ok (((ref22_Intakes a0 a1).1).length ≤ maxL) mixed ts_ok hG (by kernel_rfl) (fun _ => rfl) (((ref22_Intakes a0 a1).1).length : Int) rfl lenB (fun hb1 k_1 s_1 hlt1 hq1 hw hc => ⟨(fun id st => bif Nat.beq id 4 then some (LCR (ρ := Empty) (σ := (List Order)) 3 [] [0, 1, 2, 2] (fun k_2 s_2 => ⟨[(2, .ptr 0 0), (9, .rs .ints ((ref22_Intakes a0 a1).1)), (11, .os 3), (12, .v (.int .i64 (k_1 : Int))), (13, .v (.int .i64 (k_2 : Int)))], [.cells (cellsOf .district a0), .dead, .dead, .row .order s_2]⟩) (ref22_Plan_l2 a0 a1 k_1) (ref22_Plan_l2_p a0 a1 k_1) (Int.toNat a0.hours) s_1 (a0.hours < 9223372036854775808) ((·.elim)) ((·.elim)) st) else none), ?_, ?_⟩) (fun hb1 s_1 hc => ?_) fun hb1 k_1 s_1 => ?_
      · simp only [loopsOk, true_and, and_true]
        · refine loopR_ok mixed ts_ok hG (by kernel_rfl) (fun _ => rfl) a0.hours rfl id (fun hb2 k_2 s_2 hlt2 hq2 hw hc => ⟨L0, loopsOk0 _, ?_⟩) (fun hb2 s_2 hc => ?_)
          · unfold ref22_Plan_l2_p at hq2
            try simp only [hw, Int.toNat_natCast] at hq2
            exact exSxH3_5
          · exact ezSxH3_5
      · unfold ref22_Plan_l1_p at hq1
        try simp only [hw, Int.toNat_natCast] at hq1
        exact exSxH3_4
      · exact ezSxH3_4
      · simp only [go_sem, Nat.reduceBEq, Nat.reduceLeDiff, Nat.reduceLT, decide_true, Nat.reduceAdd, Nat.reduceSub, Nat.reduceMul, Int.reduceLE, Int.reduceLT, Int.reduceToNat, Int.reduceNeg, reduceCtorEq, hb1]
  · unfold bodyOf Tryz.f7
    try unfold ref22_Plan
    simp only [go_sem, Nat.reduceBEq, Nat.reduceLeDiff, Nat.reduceLT, decide_true, Nat.reduceAdd, Nat.reduceSub, Nat.reduceMul, Int.reduceLE, Int.reduceLT, Int.reduceToNat, Int.reduceNeg, reduceCtorEq]
    all_goals exact cl
end Go.Sx
end
section
namespace Go.Sx
open Go.Proofs Go.Shelf Go.Sort Go.Lib
theorem getDset {α : Type} (l : List α) (d r : α) (i k : Nat) (hi : i < l.length) : (l.set i r).getD k d = if k = i then r else l.getD k d := by
  rw [List.getD_eq_getElem?_getD, List.getElem?_set, List.getD_eq_getElem?_getD]
  by_cases h : k = i
  · subst h; simp [hi]
  · rw [if_neg (fun e => h e.symm), if_neg h]
def cell (g : List (List Int)) (i j : Nat) : Int := (g.getD i []).getD j 0
theorem osum_single {p : Order → Bool} {l : List Order} (hk : l.Pairwise fun x y => ¬ K x y) (hp : ∀ x y, p x = true → p y = true → K x y) {x : Order} (hx : x ∈ l) (h : p x = true) : osum p l = x.litres := by
  obtain ⟨i, hi, rfl⟩ := List.getElem_of_mem hx
  refine osum_one hi h fun j hj hne => ?_
  cases hq : p l[j] with
  | false => rfl
  | true =>
    rw [List.pairwise_iff_getElem] at hk
    rcases Nat.lt_or_gt_of_ne hne with q | q
    · exact absurd (hp _ _ hq h) (hk j i hj hi q)
    · exact absurd (hp _ _ h hq) (hk i j hi hj q)
theorem glit_mem {l : List Order} (hk : l.Pairwise fun x y => ¬ K x y) {x : Order} (hx : x ∈ l) (ho : x.outlet = false) : glit l x.index x.hour = x.litres :=
  osum_single hk (fun _ _ h1 h2 => gP_key h1 h2) hx (by unfold gP; rw [ho]; simp)
theorem osum_ne {p : Order → Bool} {l : List Order} (h : osum p l ≠ 0) : ∃ x ∈ l, p x = true :=
  Classical.byContradiction fun q => h (osum_none fun x hx => by
    cases hp : p x with
    | false => rfl
    | true => exact absurd ⟨x, hx, hp⟩ q)
theorem glit_ne {l : List Order} (hk : l.Pairwise fun x y => ¬ K x y) {r h : Int} (hg : glit l r h ≠ 0) : ∃ x ∈ l, x.outlet = false ∧ x.index = r ∧ x.hour = h ∧ x.litres = glit l r h := by
  obtain ⟨x, hx, hp⟩ := osum_ne hg
  have := osum_single hk (fun _ _ h1 h2 => gP_key h1 h2) hx hp
  unfold gP at hp
  simp only [Bool.and_eq_true, Bool.not_eq_true', beq_iff_eq] at hp
  exact ⟨x, hx, hp.1.1, hp.1.2, hp.2, this.symm⟩
theorem b_iff {a b : Bool} (h : a = true ↔ b = true) : a = b := by cases a <;> cases b <;> simp_all
end Go.Sx
end
section
namespace Go.Sx
open Go.Proofs
theorem rising_mk3 {a b c : Int} (h1 : a ≤ b) (h2 : b ≤ c) : expand_rising [a, b, c] = true := by
  have e : runI (expand_rising_l0 [a, b, c]) 2 0 () = .inr () := unit_iff.2 fun j hj => by
    rcases (by omega : j = 0 ∨ j = 1) with rfl | rfl
    · simp [expand_rising_l0, IntKind.wrap, IntKind.bits, IntKind.signed, Bool.cond_eq_ite]; omega
    · simp [expand_rising_l0, IntKind.wrap, IntKind.bits, IntKind.signed, Bool.cond_eq_ite]; omega
  unfold expand_rising
  simp only [List.length_cons, List.length_nil, Nat.zero_add, Nat.reduceAdd, Nat.reduceSub, e]
theorem rising_mk4 {a b c d : Int} (h1 : a ≤ b) (h2 : b ≤ c) (h3 : c ≤ d) : expand_rising [a, b, c, d] = true := by
  have e : runI (expand_rising_l0 [a, b, c, d]) 3 0 () = .inr () := unit_iff.2 fun j hj => by
    rcases (by omega : j = 0 ∨ j = 1 ∨ j = 2) with rfl | rfl | rfl
    · simp [expand_rising_l0, IntKind.wrap, IntKind.bits, IntKind.signed, Bool.cond_eq_ite]; omega
    · simp [expand_rising_l0, IntKind.wrap, IntKind.bits, IntKind.signed, Bool.cond_eq_ite]; omega
    · simp [expand_rising_l0, IntKind.wrap, IntKind.bits, IntKind.signed, Bool.cond_eq_ite]; omega
  unfold expand_rising
  simp only [List.length_cons, List.length_nil, Nat.zero_add, Nat.reduceAdd, Nat.reduceSub, e]
theorem check_split (d : District) : expand_Check d = 0 ↔ (d.reaches.length ≤ 64 ∧ d.farms.length ≤ 600 ∧ d.crops.length ≤ 32 ∧ d.rights.length ≤ 256 ∧ d.duties.length ≤ 256) ∧ (1 ≤ d.hours ∧ d.hours ≤ 4096) ∧ (0 ≤ d.tank.start ∧ d.tank.start ≤ d.tank.cap ∧ d.tank.cap ≤ 1099511627776) ∧ 0 < d.reaches.length ∧
    (∀ k, k < d.reaches.length → expand_examine_l0 d 191 k () = .inr ()) ∧ (∀ k, k < d.crops.length → expand_examine_l1 d 191 k () = .inr ()) ∧ (∀ k, k < d.farms.length → expand_examine_l2 d 191 k () = .inr ()) ∧ (∀ k, k < d.rights.length → expand_examine_l3 d 191 k () = .inr ()) ∧ (∀ k, k < d.duties.length → expand_examine_l4 d 191 k () = .inr ()) := by
  have hx : expand_examine_ok d 191 = true ↔ (1 ≤ d.hours ∧ d.hours ≤ 4096) ∧ (0 ≤ d.tank.start ∧ d.tank.start ≤ d.tank.cap ∧ d.tank.cap ≤ 1099511627776) ∧ 0 < d.reaches.length ∧
    (∀ k, k < d.reaches.length → expand_examine_l0 d 191 k () = .inr ()) ∧ (∀ k, k < d.crops.length → expand_examine_l1 d 191 k () = .inr ()) ∧ (∀ k, k < d.farms.length → expand_examine_l2 d 191 k () = .inr ()) ∧ (∀ k, k < d.rights.length → expand_examine_l3 d 191 k () = .inr ()) ∧ (∀ k, k < d.duties.length → expand_examine_l4 d 191 k () = .inr ()) := by
    unfold expand_examine_ok
    simp only [demand_t]
    cases h3 : (expand_rising [1, d.hours, 4096] && expand_rising [0, d.tank.start, d.tank.cap, 1099511627776] && decide ((d.reaches.length : Int) > 0)) with
    | false =>
      simp only [cond_false, Bool.false_eq_true, false_iff]
      rintro ⟨⟨a1, a2⟩, ⟨a3, a4, a5⟩, a6, _⟩
      rw [rising_mk3 a1 a2, rising_mk4 a3 a4 a5, decide_eq_true (by omega : (d.reaches.length : Int) > 0)] at h3
      cases h3
    | true =>
      simp only [Bool.and_eq_true, decide_eq_true_eq] at h3
      have b1 := rising3 h3.1.1
      have b2 := rising4 h3.1.2
      have b3 := h3.2
      simp only [cond_true]
      rw [← unit_iff, ← unit_iff, ← unit_iff, ← unit_iff, ← unit_iff]
      repeat' split
      all_goals (rename_i e; first | simp_all; done | skip)
      all_goals simp_all
      all_goals omega
  unfold expand_Check
  simp only [demand_t]
  rw [← hx]
  cases h1 : (((((decide ((d.reaches.length : Int) ≤ 64)) && (decide ((d.farms.length : Int) ≤ 600))) && (decide ((d.crops.length : Int) ≤ 32))) && (decide ((d.rights.length : Int) ≤ 256))) && (decide ((d.duties.length : Int) ≤ 256))) with
  | false =>
    simp only [cond_false]
    simp only [Bool.and_eq_false_iff, decide_eq_false_iff_not] at h1
    omega
  | true =>
    simp only [Bool.and_eq_true, decide_eq_true_eq] at h1
    cases expand_examine_ok d 191 <;> simp <;> omega
theorem rems_gcd : ∀ (f n d : Nat), 1 ≤ d → d ≤ f → 1 ≤ n → ∀ x, (rems f n d).getLastD x = Nat.gcd n d
  | 0, n, d, h1, h2, _, x => by omega
  | f + 1, n, d, h1, h2, h3, x => by
    unfold rems
    have hm : max d 1 = d := by omega
    rw [if_neg (by omega), hm]
    by_cases h0 : n % d = 0
    · rw [if_pos h0]
      have : d ∣ n := Nat.dvd_of_mod_eq_zero h0
      rw [Nat.gcd_eq_right this]
      rfl
    · rw [if_neg h0]
      have hlt : n % d < d := Nat.mod_lt _ (by omega)
      have ih := rems_gcd f d (n % d) (by omega) (by omega) (by omega) n
      have e : Nat.gcd n d = Nat.gcd d (n % d) := by rw [Nat.gcd_comm n d, Nat.gcd_rec d n, Nat.gcd_comm]
      rw [e, ← ih, List.getLastD_cons]
theorem divI_gcd {n d : Nat} (h : 1 ≤ d) : divI n d = Nat.gcd n d := by
  unfold divI
  rw [if_neg (by omega)]
  by_cases h0 : n = 0
  · subst h0
    cases d with
    | zero => omega
    | succ d => simp [rems]
  · exact rems_gcd d n d h (Nat.le_refl _) (by omega) d
theorem div_run (b0 : Int) : ∀ (n i : Nat) (a b : Int), 0 ≤ a → 0 ≤ b → b.toNat < n → runI (ref12_divisor_l0 b0) n i (a, b) = .inl ((Nat.gcd a.toNat b.toNat : Nat) : Int)
  | 0, _, _, _, _, _, h => by omega
  | n + 1, i, a, b, ha, hb, h => by
    simp only [runI, ref12_divisor_l0]
    by_cases h0 : b > 0
    · rw [decide_eq_true h0]
      simp only [cond_true]
      have e1 := Int.tmod_eq_emod_of_nonneg (b := b) ha
      have e2 := Int.emod_nonneg a (by omega : b ≠ 0)
      have e3 := Int.emod_lt_of_pos a h0
      rw [e1, div_run b0 n (i + 1) b (a % b) hb e2 (by omega)]
      have e4 : (a % b).toNat = a.toNat % b.toNat := by
        obtain ⟨x, rfl⟩ := Int.eq_ofNat_of_zero_le ha
        obtain ⟨y, rfl⟩ := Int.eq_ofNat_of_zero_le hb
        simp only [← Int.natCast_emod, Int.toNat_natCast]
      rw [e4, Nat.gcd_comm a.toNat b.toNat, Nat.gcd_rec b.toNat a.toNat, Nat.gcd_comm]
    · rw [decide_eq_false h0]
      have : b = 0 := by omega
      subst this
      simp only [cond_false, Int.toNat_zero, Nat.gcd_zero_right]
      rw [Int.toNat_of_nonneg ha]
theorem divisor_gcd {a b : Int} (ha : 0 ≤ a) (hb : 0 ≤ b) : ref12_divisor a b = ((Nat.gcd a.toNat b.toNat : Nat) : Int) := by
  unfold ref12_divisor
  rw [div_run b _ 0 a b ha hb (by omega)]
theorem divisor_p {a b : Int} (ha : 0 ≤ a) (hb : 0 ≤ b) : ref12_divisor_p a b := by
  refine ⟨okI_all _ _ _ fun j s _ _ h => ?_, fun z h => ?_⟩
  · simp only [decide_eq_true_eq] at h; omega
  · rw [div_run b _ 0 a b ha hb (by omega)] at h; cases h
theorem wrapU {n : Int} (h0 : 0 ≤ n) (h1 : n < 18446744073709551616) : IntKind.u64.wrap n = n := by
  simp only [IntKind.wrap, IntKind.bits, IntKind.signed]; simp; omega
theorem magnitude_abs {n : Int} (h0 : -1073741824 ≤ n) (h1 : n ≤ 1073741824) : ratio_magnitude n = (n.natAbs : Int) := by
  unfold ratio_magnitude
  by_cases h : n < 0
  · rw [decide_eq_true h]
    simp only [cond_true, IntKind.wrap, IntKind.bits, IntKind.signed]
    simp
    omega
  · rw [decide_eq_false h]
    simp only [cond_false]
    rw [wrapU (by omega) (by omega)]; omega
theorem size_abs {n : Int} (h0 : -1073741824 ≤ n) (h1 : n ≤ 1073741824) : ref12_size n = (n.natAbs : Int) := by
  unfold ref12_size
  by_cases h : n < 0
  · rw [decide_eq_true h]
    simp only [cond_true]
    rw [wrapI (by omega) (by omega)]; omega
  · rw [decide_eq_false h]
    simp only [cond_false]
    omega
structure RatioOk (a : Ratio) : Prop where
  d1 : 1 ≤ a.d
  d : a.d ≤ 1073741824
  n0 : -1073741824 ≤ a.n
  n : a.n ≤ 1073741824
  gcd : Nat.gcd a.n.natAbs a.d.toNat = 1
theorem ratio_iff (a : Ratio) : ratio_Check a = 0 ↔ RatioOk a := by
  unfold ratio_Check
  cases h : ((((decide (a.d < 1)) || (decide (a.d > 1073741824))) || (decide (a.n < (-1073741824)))) || (decide (a.n > 1073741824))) with
  | true =>
    simp only [Bool.true_or, cond_true]
    simp only [Bool.or_eq_true, decide_eq_true_eq] at h
    refine ⟨fun e => (by cases e), fun r => ?_⟩
    have := r.d1; have := r.d; have := r.n0; have := r.n
    omega
  | false =>
    simp only [Bool.or_eq_false_iff, decide_eq_false_iff_not] at h
    rw [magnitude_abs (by omega) (by omega), wrapU (by omega) (by omega), Int.toNat_natCast, divI_gcd (by omega)]
    simp only [Bool.false_or]
    by_cases hg : Nat.gcd a.n.natAbs a.d.toNat = 1
    · rw [hg]
      exact ⟨fun _ => ⟨by omega, by omega, by omega, by omega, hg⟩, fun _ => rfl⟩
    · have : ((Nat.gcd a.n.natAbs a.d.toNat : Nat) : Int) ≠ 1 := by omega
      rw [bne_iff_ne.2 this]
      exact ⟨fun e => (by cases e), fun r => absurd r.gcd hg⟩
theorem valid_iff (a : Ratio) : ref12_Valid a = true ↔ RatioOk a := by
  unfold ref12_Valid
  constructor
  · intro h
    simp only [Bool.and_eq_true, decide_eq_true_eq, beq_iff_eq] at h
    obtain ⟨⟨⟨⟨h1, h2⟩, h3⟩, h4⟩, h5⟩ := h
    rw [size_abs (by omega) (by omega), divisor_gcd (by omega) (by omega), Int.toNat_natCast] at h5
    exact ⟨h1, h2, h3, h4, by omega⟩
  · intro r
    have := r.d1; have := r.d; have := r.n0; have := r.n
    simp only [Bool.and_eq_true, decide_eq_true_eq, beq_iff_eq]
    rw [size_abs (by omega) (by omega), divisor_gcd (by omega) (by omega), Int.toNat_natCast, r.gcd]
    exact ⟨⟨⟨⟨by omega, by omega⟩, by omega⟩, by omega⟩, rfl⟩
theorem ratio_01 (a : Ratio) : ratio_Check a = 0 ∨ ratio_Check a = 120 := by
  unfold ratio_Check; rw [Bool.cond_eq_ite]; split <;> simp
theorem ratio_eq (a : Ratio) : ratio_Check a = ref12_Check a := by
  unfold ref12_Check
  cases h : ref12_Valid a with
  | true => exact (ratio_iff a).2 ((valid_iff a).1 h)
  | false =>
    have : ratio_Check a ≠ 0 := fun e => by
      have := (valid_iff a).2 ((ratio_iff a).1 e)
      rw [h] at this; cases this
    have := ratio_01 a
    simp only [Bool.not_false, cond_true]
    omega
theorem valid_eq (a : Ratio) : ref12_Valid a = (ratio_Check a == 0) := by
  cases h : ref12_Valid a with
  | true => rw [(ratio_iff a).2 ((valid_iff a).1 h)]; rfl
  | false =>
    have : ratio_Check a ≠ 0 := fun e => by
      have := (valid_iff a).2 ((ratio_iff a).1 e)
      rw [h] at this; cases this
    simp [this]
theorem cmp_eq (a b : Ratio) : ratio_Cmp a b = ref12_Cmp a b := by
  unfold ratio_Cmp ref12_Cmp ref12_Both ref12_Less
  rw [valid_eq, valid_eq, compare_neg]
  generalize IntKind.i64.wrap (a.n * b.d) = x
  generalize IntKind.i64.wrap (b.n * a.d) = y
  cases h1 : (ratio_Check a == 0) <;> cases h2 : (ratio_Check b == 0) <;> simp [bne, h1, h2, Bool.cond_eq_ite]
  split
  · rfl
  · split <;> rfl
theorem valid_p (a : Ratio) : ref12_Valid_p a := fun h => by
  simp only [Bool.and_eq_true, decide_eq_true_eq] at h
  rw [size_abs (by omega) (by omega)]
  exact divisor_p (by omega) (by omega)
theorem both_p (a b : Ratio) : ref12_Both_p a b := ⟨valid_p a, fun _ => valid_p b⟩
theorem rising3_b (a b c : Int) : expand_rising [a, b, c] = (decide (a ≤ b) && decide (b ≤ c)) := by
  cases h : expand_rising [a, b, c] with
  | true => have := rising3 h; simp [this.1, this.2]
  | false =>
    by_cases h1 : a ≤ b
    · by_cases h2 : b ≤ c
      · rw [rising_mk3 h1 h2] at h; cases h
      · simp [h2]
    · simp [h1]
theorem rising4_b (a b c d : Int) : expand_rising [a, b, c, d] = (decide (a ≤ b) && decide (b ≤ c) && decide (c ≤ d)) := by
  cases h : expand_rising [a, b, c, d] with
  | true => have := rising4 h; simp [this.1, this.2.1, this.2.2]
  | false =>
    by_cases h1 : a ≤ b
    · by_cases h2 : b ≤ c
      · by_cases h3 : c ≤ d
        · rw [rising_mk4 h1 h2 h3] at h; cases h
        · simp [h3]
      · simp [h2]
    · simp [h1]
theorem share_eq (x : Ratio × Ratio) : expand_share x = ref19_shares x := by
  unfold expand_share ref19_shares
  rw [cmp_eq, ← ratio_eq, ← ratio_eq]
  unfold ref12_Cmp ref12_Both
  rw [valid_eq, valid_eq]
  cases h1 : (ratio_Check x.1 == 0) <;> cases h2 : (ratio_Check x.2 == 0) <;> simp [bne, h1, h2, Bool.cond_eq_ite]
  repeat' split
  all_goals simp
theorem reachX (i : Int) (x : Reach) : expand_reach i x = true ↔ ((i > 0 ∧ 0 ≤ x.up ∧ x.up < i) ∨ (¬ i > 0 ∧ x.up = -1)) ∧ (1 ≤ x.delay ∧ x.delay ≤ 16) ∧ (0 ≤ x.siphon ∧ x.siphon ≤ x.cap ∧ x.cap ≤ 1073741824) ∧ (x.siphon ≤ x.bank ∧ x.bank ≤ 1099511627776) ∧ (0 ≤ x.evap.lo ∧ x.evap.lo ≤ x.evap.hi ∧ x.evap.hi ≤ 1073741824) ∧ ref19_shares x.seep = true := by
  unfold expand_reach expand_index
  rw [share_eq, rising3_b, rising4_b, rising4_b, rising4_b]
  generalize ref19_shares x.seep = q
  by_cases h : i > 0
  · rw [decide_eq_true h]
    simp only [cond_true, Bool.and_eq_true, decide_eq_true_eq]
    cases q <;> simp only [Bool.false_eq_true, and_false, and_true] <;> omega
  · rw [decide_eq_false h]
    simp only [cond_false, Bool.and_eq_true, decide_eq_true_eq, beq_iff_eq]
    cases q <;> simp only [Bool.false_eq_true, and_false, and_true] <;> omega
theorem ReachR (x : Reach) : ref19_Reach x = true ↔ (1 ≤ x.delay ∧ x.delay ≤ 16) ∧ (0 ≤ x.siphon ∧ x.siphon ≤ x.cap ∧ x.cap ≤ 1073741824) ∧ (x.siphon ≤ x.bank ∧ x.bank ≤ 1099511627776) ∧ (0 ≤ x.evap.lo ∧ x.evap.lo ≤ x.evap.hi ∧ x.evap.hi ≤ 1073741824) ∧ ref19_shares x.seep = true := by
  unfold ref19_Reach ref19_within
  generalize ref19_shares x.seep = q
  have hb : ∀ (A B : Bool) (q : Bool), (bif A then false else bif B then false else q) = true ↔ A = false ∧ B = false ∧ q = true := fun A B q => by cases A <;> cases B <;> simp
  rw [hb]
  simp only [Bool.or_eq_false_iff, Bool.not_eq_false', Bool.and_eq_true, decide_eq_true_eq, decide_eq_false_iff_not]
  by_cases h : x.bank < x.cap
  · rw [if_pos h]; cases q <;> simp only [Bool.false_eq_true, and_false, and_true] <;> omega
  · rw [if_neg h]; cases q <;> simp only [Bool.false_eq_true, and_false, and_true] <;> omega
theorem reach_step (l : List Reach) (k : Nat) (hk : k < 4096) : ref19_reaches_l0 l k () = .inr () ↔ expand_reach (k : Int) (l.getD k default) = true := by
  unfold ref19_reaches_l0 ref19_within
  rw [reachX]
  have hb : ∀ A B : Bool, ((bif A then Sum.inl () else bif B then Sum.inl () else Sum.inr ()) : Unit ⊕ Unit) = .inr () ↔ A = false ∧ B = false := fun A B => by cases A <;> cases B <;> simp
  rw [hb, Bool.not_eq_false', ReachR]
  generalize l.getD k default = x
  generalize ref19_shares x.seep = q
  by_cases h : 0 < k
  · rw [wrap_pred (by omega) h]
    simp only [Bool.or_eq_false_iff, Bool.and_eq_false_iff, Bool.not_eq_false', Bool.and_eq_true, decide_eq_true_eq, decide_eq_false_iff_not, beq_eq_false_iff_ne, bne_eq_false_iff_eq]
    cases q <;> simp only [Bool.false_eq_true, and_false, and_true] <;> omega
  · have : k = 0 := by omega
    subst this
    simp only [Bool.or_eq_false_iff, Bool.and_eq_false_iff, Bool.not_eq_false', Bool.and_eq_true, decide_eq_true_eq, decide_eq_false_iff_not, beq_eq_false_iff_ne, bne_eq_false_iff_eq]
    cases q <;> simp only [Bool.false_eq_true, and_false, and_true] <;> omega
theorem wlen {n : Nat} (h : n ≤ 4096) : IntKind.i64.wrap ((n : Int) - 1) = (n : Int) - 1 := wrapI (by omega) (by omega)
theorem ba_refl (x : ByteArray) : (x == x) = true := by
  cases x with
  | mk d =>
    show (d == d) = true
    simp
theorem right_eq (d : District) (x : Right) (h1 : d.farms.length ≤ 600) (h2 : d.reaches.length ≤ 64) (h3 : 1 ≤ d.hours) (h4 : d.hours ≤ 4096) : expand_right d x = ref19_right d x := by
  unfold expand_right ref19_right expand_index ref19_within
  rw [rising4_b, rising3_b, rising3_b, rising4_b, wlen (by omega), wlen (by omega), wrapI (by omega : -9223372036854775808 ≤ d.hours - 1) (by omega)]
  rw [ba_refl]
  refine b_iff ?_
  have hb : ∀ (A q : Bool), (bif A then false else q) = true ↔ A = false ∧ q = true := fun A q => by cases A <;> simp
  rw [hb, hb]
  have hc : ∀ (k1 k2 k3 a b c : Bool), (bif k1 then a else bif k2 then b else bif k3 then c else false) = true ↔ (k1 = true ∧ a = true) ∨ (k1 = false ∧ k2 = true ∧ b = true) ∨ (k1 = false ∧ k2 = false ∧ k3 = true ∧ c = true) := fun k1 k2 k3 a b c => by cases k1 <;> cases k2 <;> cases k3 <;> simp
  rw [hc, hc]
  simp only [Bool.or_eq_false_iff, Bool.and_eq_true, Bool.not_eq_false', decide_eq_true_eq, decide_eq_false_iff_not, beq_iff_eq, beq_eq_false_iff_ne, and_true, true_and]
  omega
theorem ux (A : Bool) : ((bif A then Sum.inr () else Sum.inl ()) : Unit ⊕ Unit) = .inr () ↔ A = true := by cases A <;> simp
theorem uy (A : Bool) : ((bif A then Sum.inl () else Sum.inr ()) : Unit ⊕ Unit) = .inr () ↔ A = false := by cases A <;> simp
theorem crop_step (d : District) (k : Nat) : ref19_farms_l0 d k () = .inr () ↔ expand_examine_l1 d 191 k () = .inr () := by
  unfold ref19_farms_l0 expand_examine_l1 ref19_within
  rw [demand_t, uy, ux, rising3_b]
  simp only [Bool.not_eq_false', Bool.and_eq_true, decide_eq_true_eq, ge_iff_le]
theorem farm_step (d : District) (k : Nat) (h1 : d.reaches.length ≤ 64) (h2 : d.crops.length ≤ 32) : ref19_farms_l1 d k () = .inr () ↔ expand_examine_l2 d 191 k () = .inr () := by
  unfold ref19_farms_l1 expand_examine_l2 ref19_within expand_index
  simp only [demand_t]
  rw [rising3_b, wlen (by omega), wlen (by omega)]
  generalize d.farms.getD k default = x
  have hb : ∀ A B : Bool, ((bif A then Sum.inl () else bif B then Sum.inl () else Sum.inr ()) : Unit ⊕ Unit) = .inr () ↔ A = false ∧ B = false := fun A B => by cases A <;> cases B <;> simp
  rw [hb]
  by_cases h : x.area > 0
  · rw [decide_eq_true h]
    simp only [Bool.true_and, Bool.false_and, Bool.or_false, cond_true, ux, Bool.or_eq_false_iff, Bool.and_eq_false_iff, Bool.not_eq_false', Bool.and_eq_true, decide_eq_true_eq, decide_eq_false_iff_not, beq_eq_false_iff_ne, bne_eq_false_iff_eq]
    omega
  · rw [decide_eq_false h]
    simp only [Bool.true_and, Bool.false_and, Bool.or_false, cond_false, ux, Bool.or_eq_false_iff, Bool.and_eq_false_iff, Bool.not_eq_false', Bool.and_eq_true, decide_eq_true_eq, decide_eq_false_iff_not, beq_eq_false_iff_ne, bne_eq_false_iff_eq, beq_iff_eq]
    omega
theorem duty_step (d : District) (k : Nat) (h1 : d.reaches.length ≤ 64) (h2 : d.farms.length ≤ 600) : ref19_valid_l1 d k () = .inr () ↔ expand_examine_l4 d 191 k () = .inr () := by
  unfold ref19_valid_l1 expand_examine_l4 ref19_within expand_index
  simp only [demand_t]
  rw [rising3_b, wlen (by omega), wlen (by omega), ux, uy]
  simp only [Bool.or_eq_false_iff, Bool.not_eq_false', Bool.and_eq_true, decide_eq_true_eq]
  omega
theorem rights_step (d : District) (k : Nat) (h1 : d.farms.length ≤ 600) (h2 : d.reaches.length ≤ 64) (h3 : 1 ≤ d.hours) (h4 : d.hours ≤ 4096) : ref19_valid_l0 d k () = .inr () ↔ expand_examine_l3 d 191 k () = .inr () := by
  unfold ref19_valid_l0 expand_examine_l3
  rw [demand_t, right_eq d _ h1 h2 h3 h4, ux, uy, Bool.not_eq_false']
theorem m1 {r : Unit ⊕ Unit} {a b : Bool} : (match r with | .inl _ => a | .inr _ => b) = true ↔ (r = .inr () ∧ b = true) ∨ ((∃ y, r = .inl y) ∧ a = true) := by
  cases r with
  | inl y => simp
  | inr y => simp
theorem valid_iff19 (d : District) (h1 : d.reaches.length ≤ 64) (h2 : d.farms.length ≤ 600) (h3 : d.crops.length ≤ 32) : ref19_valid d = true ↔ (1 ≤ d.hours ∧ d.hours ≤ 4096) ∧ (0 ≤ d.tank.start ∧ d.tank.start ≤ d.tank.cap ∧ d.tank.cap ≤ 1099511627776) ∧ 0 < d.reaches.length ∧
    (∀ k, k < d.reaches.length → expand_examine_l0 d 191 k () = .inr ()) ∧ (∀ k, k < d.crops.length → expand_examine_l1 d 191 k () = .inr ()) ∧ (∀ k, k < d.farms.length → expand_examine_l2 d 191 k () = .inr ()) ∧ (∀ k, k < d.rights.length → expand_examine_l3 d 191 k () = .inr ()) ∧ (∀ k, k < d.duties.length → expand_examine_l4 d 191 k () = .inr ()) := by
  have hR : ref19_reaches d.reaches = true ↔ (∀ k, k < d.reaches.length → expand_examine_l0 d 191 k () = .inr ()) ∧ 0 < d.reaches.length := by
    unfold ref19_reaches
    refine Iff.trans (m1 (r := runI (ref19_reaches_l0 d.reaches) d.reaches.length 0 ()) (a := false) (b := decide ((d.reaches.length : Int) > 0))) ?_
    simp only [Bool.false_eq_true, and_false, or_false, decide_eq_true_eq]
    rw [unit_iff]
    refine and_congr ⟨fun h k hk => ?_, fun h k hk => ?_⟩ (by omega)
    · unfold expand_examine_l0
      rw [demand_t, ux]
      exact (reach_step _ k (by omega)).1 (h k hk)
    · have := h k hk
      unfold expand_examine_l0 at this
      rw [demand_t, ux] at this
      exact (reach_step _ k (by omega)).2 this
  have hF : ref19_farms d = true ↔ (∀ k, k < d.crops.length → expand_examine_l1 d 191 k () = .inr ()) ∧ (∀ k, k < d.farms.length → expand_examine_l2 d 191 k () = .inr ()) := by
    unfold ref19_farms
    refine Iff.trans (m1 (r := runI (ref19_farms_l0 d) d.crops.length 0 ()) (a := false) (b := match runI (ref19_farms_l1 d) d.farms.length 0 () with | .inl _ => false | .inr _ => true)) ?_
    simp only [Bool.false_eq_true, and_false, or_false]
    rw [unit_iff]
    refine Iff.trans (and_congr_right fun _ => m1) ?_
    simp only [Bool.false_eq_true, and_false, or_false, and_true]
    rw [unit_iff]
    exact and_congr ⟨fun h k hk => (crop_step d k).1 (h k hk), fun h k hk => (crop_step d k).2 (h k hk)⟩ ⟨fun h k hk => (farm_step d k h1 h3).1 (h k hk), fun h k hk => (farm_step d k h1 h3).2 (h k hk)⟩
  unfold ref19_valid
  have hb : ∀ A B q : Bool, (bif A then false else bif B then false else q) = true ↔ A = false ∧ B = false ∧ q = true := fun A B q => by cases A <;> cases B <;> simp
  rw [hb]
  refine Iff.trans (and_congr_right fun _ => and_congr_right fun _ => Iff.trans (m1 (r := runI (ref19_valid_l0 d) d.rights.length 0 ()) (a := false) (b := match runI (ref19_valid_l1 d) d.duties.length 0 () with | .inl _ => false | .inr _ => true)) (or_congr_left (and_congr_right fun _ => m1))) ?_
  simp only [Bool.false_eq_true, and_false, or_false, and_true]
  rw [unit_iff, unit_iff]
  simp only [Bool.or_eq_false_iff, Bool.not_eq_false', hR, hF, ref19_within, Bool.and_eq_true, decide_eq_true_eq, decide_eq_false_iff_not]
  constructor
  · rintro ⟨⟨⟨a1, a2⟩, a3⟩, ⟨⟨b1, b2⟩, b3, b4⟩, b5, b6⟩
    refine ⟨by omega, by omega, b2, b1, b3, b4, fun k hk => (rights_step d k h2 h1 (by omega) (by omega)).1 (b5 k hk), fun k hk => (duty_step d k h1 h2).1 (b6 k hk)⟩
  · rintro ⟨a1, a2, a3, b1, b2, b3, b4, b5⟩
    refine ⟨⟨⟨by omega, by omega⟩, by omega⟩, ⟨⟨b1, a3⟩, b2, b3⟩, fun k hk => (rights_step d k h2 h1 (by omega) (by omega)).2 (b4 k hk), fun k hk => (duty_step d k h1 h2).2 (b5 k hk)⟩
theorem check_eq (d : District) : expand_Check d = ref19_Check d := by
  have hs := check_split d
  unfold ref19_Check
  by_cases hl : d.reaches.length ≤ 64 ∧ d.farms.length ≤ 600 ∧ d.crops.length ≤ 32 ∧ d.rights.length ≤ 256 ∧ d.duties.length ≤ 256
  · have e1 : (((((decide ((d.reaches.length : Int) > 64)) || (decide ((d.farms.length : Int) > 600))) || (decide ((d.crops.length : Int) > 32))) || (decide ((d.rights.length : Int) > 256))) || (decide ((d.duties.length : Int) > 256))) = false := by
      simp only [Bool.or_eq_false_iff, decide_eq_false_iff_not]; omega
    rw [e1]
    simp only [cond_false]
    have hv := valid_iff19 d hl.1 hl.2.1 hl.2.2.1
    cases h : ref19_valid d with
    | true => exact hs.2 ⟨hl, hv.1 h⟩
    | false =>
      have h0 : expand_Check d ≠ 0 := fun e => by
        have := hv.2 (hs.1 e).2
        rw [h] at this; cases this
      unfold expand_Check at h0 ⊢
      simp only [demand_t] at h0 ⊢
      have e2 : (((((decide ((d.reaches.length : Int) ≤ 64)) && (decide ((d.farms.length : Int) ≤ 600))) && (decide ((d.crops.length : Int) ≤ 32))) && (decide ((d.rights.length : Int) ≤ 256))) && (decide ((d.duties.length : Int) ≤ 256))) = true := by
        simp only [Bool.and_eq_true, decide_eq_true_eq]; omega
      rw [e2] at h0 ⊢
      simp only [cond_true] at h0 ⊢
      cases hx : expand_examine_ok d 191 with
      | true => rw [hx] at h0; simp at h0
      | false => rfl
  · have e1 : (((((decide ((d.reaches.length : Int) > 64)) || (decide ((d.farms.length : Int) > 600))) || (decide ((d.crops.length : Int) > 32))) || (decide ((d.rights.length : Int) > 256))) || (decide ((d.duties.length : Int) > 256))) = true := by
      simp only [Bool.or_eq_true, decide_eq_true_eq]; omega
    rw [e1]
    unfold expand_Check
    simp only [demand_t]
    have e2 : (((((decide ((d.reaches.length : Int) ≤ 64)) && (decide ((d.farms.length : Int) ≤ 600))) && (decide ((d.crops.length : Int) ≤ 32))) && (decide ((d.rights.length : Int) ≤ 256))) && (decide ((d.duties.length : Int) ≤ 256))) = false := by
      simp only [Bool.and_eq_false_iff, decide_eq_false_iff_not]; omega
    rw [e2]
    rfl
theorem shares_p (x : Ratio × Ratio) : ref19_shares_p x := ⟨valid_p _, fun _ => valid_p _, fun _ => both_p _ _⟩
theorem Reach_p (x : Reach) : ref19_Reach_p x := fun _ _ => shares_p _
theorem valid19_p (d : District) : ref19_valid_p d := fun _ => okI_all _ _ _ fun _ _ _ _ _ _ => Reach_p _
theorem check19_p (d : District) : ref19_Check_p d := fun _ _ => valid19_p d
theorem before_iff (a b : Order) : ref22_Before a b = true ↔ olt a b := by
  unfold ref22_Before olt oval
  have hb : ∀ (A B x y z : Bool), (bif A then x else bif B then y else z) = true ↔ (A = true ∧ x = true) ∨ (A = false ∧ B = true ∧ y = true) ∨ (A = false ∧ B = false ∧ z = true) := fun A B x y z => by cases A <;> cases B <;> simp
  rw [hb]
  cases a.outlet <;> cases b.outlet <;> simp only [bne_iff_ne, bne_eq_false_iff_eq, decide_eq_true_eq, cond_true, cond_false, ne_eq, bne_self_eq_false, Bool.false_eq_true, Bool.true_eq_false, and_false, false_and, or_false, false_or, and_true, true_and, Bool.bne_true, Bool.bne_false, Bool.not_true, Bool.not_false] <;> omega
theorem order_step (d : District) (l : List Order) (k : Nat) (hk : k < 4096) : routing_Check_l0 d l k () = .inr () ↔ ref22_Check_l0 d l k () = .inr () := by
  unfold routing_Check_l0 ref22_Check_l0 ref22_valid
  rw [uy]
  have hb : ∀ c A B : Bool, ((bif c then (bif A then Sum.inl () else Sum.inr ()) else (bif B then Sum.inl () else Sum.inr ())) : Unit ⊕ Unit) = .inr () ↔ (c = true ∧ A = false) ∨ (c = false ∧ B = false) := fun c A B => by cases c <;> cases A <;> cases B <;> simp
  have hc : ∀ A q Z : Bool, ((!(bif A then false else q)) || Z) = false ↔ A = false ∧ q = true ∧ Z = false := fun A q Z => by cases A <;> cases q <;> simp
  have hd : ∀ c x y : Bool, (bif c then x else y) = true ↔ (c = true ∧ x = true) ∨ (c = false ∧ y = true) := fun c x y => by cases c <;> simp
  rw [hb, hc, hd]
  have hw : (decide ((k : Int) > 0) && decide (routing_by_1 (l.getD (IntKind.i64.wrap ((k : Int) - 1)).toNat default) (l.getD k default) ≥ 0)) = false ↔ (decide ((k : Int) > 0) && !ref22_Before (l.getD (IntKind.i64.wrap ((k : Int) - 1)).toNat default) (l.getD k default)) = false := by
    have h1 := by_lt (l.getD (IntKind.i64.wrap ((k : Int) - 1)).toNat default) (l.getD k default)
    have h2 := before_iff (l.getD (IntKind.i64.wrap ((k : Int) - 1)).toNat default) (l.getD k default)
    rw [Bool.and_eq_false_iff, Bool.and_eq_false_iff, Bool.not_eq_false', h2, ← h1, decide_eq_false_iff_not, decide_eq_false_iff_not]
    omega
  simp only [Bool.or_eq_false_iff (y := (decide ((k : Int) > 0) && _)), hw]
  generalize (decide ((k : Int) > 0) && !ref22_Before (l.getD (IntKind.i64.wrap ((k : Int) - 1)).toNat default) (l.getD k default)) = q
  generalize l.getD k default = x
  simp only [Bool.or_eq_false_iff, decide_eq_false_iff_not, decide_eq_true_eq]
  cases q <;> cases x.outlet <;> simp only [Bool.false_eq_true, Bool.true_eq_false, and_false, false_and, or_false, false_or, and_true, true_and] <;> omega
theorem order_eq (d : District) (l : List Order) : routing_Check d l = 0 ↔ ref22_Check d l = 0 := by
  rw [routing_split, check_eq]
  unfold ref22_Check
  cases h1 : (ref19_Check d != 0) with
  | true => simp at h1; simp [h1]
  | false =>
    simp at h1
    simp only [cond_false, h1, true_and]
    cases h2 : decide ((l.length : Int) > 4096) with
    | true => simp at h2; simp; omega
    | false =>
      simp at h2
      have e : (∀ k, k < l.length → routing_Check_l0 d l k () = .inr ()) ↔ ∀ k, k < l.length → ref22_Check_l0 d l k () = .inr () :=
        ⟨fun h k hk => (order_step d l k (by omega)).1 (h k hk), fun h k hk => (order_step d l k (by omega)).2 (h k hk)⟩
      rw [e, ← unit_iff]
      cases h3 : runI (ref22_Check_l0 d l) l.length 0 () with
      | inl y => simp
      | inr y => simp; omega
theorem order22_p (d : District) (l : List Order) : ref22_Check_p d l := ⟨check19_p d, fun _ _ h2 => okI_all _ _ _ fun j s h3 h4 => fun _ _ h5 => by
  simp only [decide_eq_true_eq, decide_eq_false_iff_not] at h2 h5
  rw [wrapI (by omega) (by omega)]; omega⟩
theorem ediv_uniq {a d p : Int} (hd : 0 < d) (h1 : d * p ≤ a) (h2 : a < d * p + d) : a / d = p := by
  have h3 := Int.mul_ediv_add_emod a d
  have h4 := Int.emod_nonneg a (by omega : d ≠ 0)
  have h5 := Int.emod_lt_of_pos a hd
  rcases Int.lt_trichotomy (a / d) p with h | h | h
  · have := Int.mul_le_mul_of_nonneg_left (by omega : a / d + 1 ≤ p) (by omega : 0 ≤ d)
    rw [Int.mul_add, Int.mul_one] at this
    omega
  · exact h
  · have := Int.mul_le_mul_of_nonneg_left (by omega : p + 1 ≤ a / d) (by omega : 0 ≤ d)
    rw [Int.mul_add, Int.mul_one] at this
    omega
theorem up_eq {a b : Int} (hb : 1 ≤ b) (hb2 : b ≤ 1073741824) (h1 : 0 ≤ a) (h2 : a ≤ 1152921504606846976) : ref21_up a b = -((-a) / b) := by
  unfold ref21_up
  rw [wrapI (by omega : -9223372036854775808 ≤ a + b) (by omega), wrapI (by omega : -9223372036854775808 ≤ a + b - 1) (by omega), Int.tdiv_eq_ediv_of_nonneg (by omega)]
  have h3 := Int.mul_ediv_add_emod (-a) b
  have h4 := Int.emod_nonneg (-a) (by omega : b ≠ 0)
  have h5 := Int.emod_lt_of_pos (-a) (by omega : 0 < b)
  have e : (a + b - 1) / b = -((-a) / b) := ediv_uniq (by omega) (by rw [Int.mul_neg]; omega) (by rw [Int.mul_neg]; omega)
  rw [e]
  have c1 : -((-a) / b) ≤ 1152921504606846976 := by
    have : -1152921504606846976 ≤ (-a) / b := by
      rw [Int.le_ediv_iff_mul_le (by omega)]
      have := Int.mul_le_mul_of_nonneg_left (by omega : 1 ≤ b) (by omega : (0 : Int) ≤ 1152921504606846976)
      omega
    omega
  have c2 : (-a) / b ≤ 0 := by
    have := Int.ediv_le_ediv (by omega : 0 < b) (by omega : -a ≤ 0)
    simpa using this
  exact wrapI (by omega) (by omega)
theorem lshares_eq (x : Ratio × Ratio) : losses_shares x = ref21_shares x := by
  unfold losses_shares ref21_shares ref21_share losses_share losses_in
  rw [cmp_eq]
  unfold ref12_Cmp ref12_Both
  rw [valid_eq, valid_eq]
  cases h1 : (ratio_Check x.1 == 0) <;> cases h2 : (ratio_Check x.2 == 0) <;> simp [h1, h2]
  cases h3 : ref12_Less x.1 x.2 <;> cases h4 : ref12_Less x.2 x.1 <;> simp
  all_goals (try (by_cases q1 : 0 ≤ x.1.n <;> by_cases q2 : x.1.n ≤ x.1.d <;> by_cases q3 : 0 ≤ x.2.n <;> by_cases q4 : x.2.n ≤ x.2.d <;> simp [q1, q2, q3, q4]))
  all_goals (unfold ref12_Less at h3 h4; simp only [decide_eq_true_eq] at h3 h4; omega)
structure Share (a : Ratio) : Prop where
  ok : RatioOk a
  n0 : 0 ≤ a.n
  nd : a.n ≤ a.d
theorem share_iff (a : Ratio) : ref21_share a = true ↔ Share a := by
  unfold ref21_share
  simp only [Bool.and_eq_true, decide_eq_true_eq, valid_iff]
  exact ⟨fun h => ⟨h.1.1, h.1.2, h.2⟩, fun h => ⟨⟨h.ok, h.n0⟩, h.nd⟩⟩
theorem mul_bound {a b : Int} (h0 : 0 ≤ a) (h1 : a ≤ 1073741824) (h2 : 0 ≤ b) (h3 : b ≤ 1073741824) : 0 ≤ a * b ∧ a * b ≤ 1152921504606846976 := by
  refine ⟨Int.mul_nonneg h0 h2, ?_⟩
  have := Int.mul_le_mul h1 h3 h2 (by omega : (0 : Int) ≤ 1073741824)
  omega
theorem times_hi {a : Ratio} (h : Share a) {v : Int} (h0 : 0 ≤ v) (h1 : v ≤ 1073741824) : (ratio_Times a v).2.1 = ref21_up (IntKind.i64.wrap (v * a.n)) a.d := by
  have r := h.ok
  have hr := (ratio_iff a).2 r
  have := r.d1; have := r.d; have := r.n; have := h.n0; have := h.nd
  have hm := mul_bound h.n0 r.n h0 h1
  unfold ratio_Times
  have e1 : (decide (v < (-1073741824)) || decide (v > 1073741824)) = false := by simp only [Bool.or_eq_false_iff, decide_eq_false_iff_not]; omega
  rw [hr, e1]
  simp only [bne_self_eq_false, cond_false]
  rw [wrapI (by omega : -9223372036854775808 ≤ 0 - a.n) (by omega)]
  have e2 : (0 - a.n) * v = -(a.n * v) := by rw [Int.sub_mul]; omega
  rw [e2, wrapI (by omega : -9223372036854775808 ≤ -(a.n * v)) (by omega), Int.mul_comm v a.n, wrapI (by omega : -9223372036854775808 ≤ a.n * v) (by omega)]
  rw [down_eq r.d1 r.d (by omega) (by omega), up_eq r.d1 r.d hm.1 hm.2]
  have c1 : -1152921504606846976 ≤ -(a.n * v) / a.d := by
    rw [Int.le_ediv_iff_mul_le (by omega)]
    have := Int.mul_le_mul_of_nonneg_left (by omega : 1 ≤ a.d) (by omega : (0 : Int) ≤ 1152921504606846976)
    omega
  have c2 : -(a.n * v) / a.d ≤ 0 := by
    have := Int.ediv_le_ediv (by omega : 0 < a.d) (by omega : -(a.n * v) ≤ 0)
    simpa using this
  rw [wrapI (by omega) (by omega)]; omega
theorem check_same (d : District) (l : List Order) : routing_Check d l = ref22_Check d l := by
  have h := order_eq d l
  by_cases h0 : routing_Check d l = 0
  · rw [h0, h.1 h0]
  · have h1 : ref22_Check d l ≠ 0 := fun e => h0 (h.2 e)
    unfold routing_Check at h0 ⊢
    unfold ref22_Check at h1 ⊢
    rw [check_eq] at h0 ⊢
    cases q1 : (ref19_Check d != 0) with
    | true => rfl
    | false =>
      rw [q1] at h0 h1
      simp only [cond_false] at h0 h1 ⊢
      cases q2 : decide ((l.length : Int) > 4096) with
      | true => rfl
      | false =>
        rw [q2] at h0 h1
        simp only [cond_false] at h0 h1 ⊢
        cases q3 : runI (routing_Check_l0 d l) l.length 0 () with
        | inr y => rw [q3] at h0; exact absurd rfl h0
        | inl y =>
          cases q4 : runI (ref22_Check_l0 d l) l.length 0 () with
          | inr z => rw [q4] at h1; exact absurd rfl h1
          | inl z => rfl
variable {i : Int} {x : Reach} in
theorem right21 (h : expand_reach i x = true) : ref21_Right x = true := by
  obtain ⟨h1, h2, h3, h4⟩ := reach_seep h
  unfold ref21_Right ref21_within
  rw [← lshares_eq, shares_ok (seep_ok h1), Bool.and_true]
  simp only [Bool.and_eq_true, decide_eq_true_eq]
  omega
theorem right21_p (r : Reach) : ref21_Right_p r := fun _ => ⟨valid_p _, fun _ => valid_p _⟩
variable {i : Int} {x : Reach} in
theorem lost21_p (h : expand_reach i x = true) (u : Int) : ref21_lost_p x u := fun _ => by
  have h1 := right21 h
  unfold ref21_Right ref21_shares at h1
  simp only [Bool.and_eq_true] at h1
  have a := ((share_iff _).1 h1.2.1.1).ok.d1
  have b := ((share_iff _).1 h1.2.1.2).ok.d1
  exact ⟨by omega, by unfold ref21_up_p; omega⟩
variable {i : Int} {x : Reach} in
theorem arrives21 (h : expand_reach i x = true) {u : Int} (u0 : 0 ≤ u) (u1 : u ≤ 1073741824) : ref21_arrives x u false = wst x u := by
  have h1 := right21 h
  unfold ref21_Right ref21_shares at h1
  simp only [Bool.and_eq_true] at h1
  obtain ⟨_, q0, q1, q2⟩ := lost_ok h u0 u1
  have e : (ref21_lost x u).hi = (losses_lost x u).hi := by
    unfold losses_lost ref21_lost
    cases h4 : (u == 0) with
    | true => rfl
    | false =>
      simp only [cond_false]
      rw [times_hi ((share_iff _).1 h1.2.1.2) u0 u1]
  unfold ref21_arrives wst
  rw [cond_false, e, wrapI (by omega) (by omega)]
variable {i : Int} {x : Reach} in
def swp : Int ⊕ (Int × Int) → Int ⊕ (Int × Int)
  | .inl y => .inl y
  | .inr s => .inr (s.2, s.1)
variable {i : Int} {x : Reach} in
theorem runI_conj {ρ σ τ : Type} {f : Nat → σ → ρ ⊕ σ} {g : Nat → τ → ρ ⊕ τ} (c : σ → τ) (h : ∀ k s, g k (c s) = match f k s with | .inl y => .inl y | .inr s' => .inr (c s')) : ∀ (n i : Nat) (s : σ), runI g n i (c s) = match runI f n i s with | .inl y => .inl y | .inr s' => .inr (c s')
  | 0, _, _ => rfl
  | n + 1, i, s => by
    simp only [runI, h]
    cases f i s with
    | inl y => rfl
    | inr s' => exact runI_conj c h n (i + 1) s'
variable {i : Int} {x : Reach} in
theorem mid {i j : Int} (h0 : 0 ≤ i) (h1 : i ≤ j) (h2 : j ≤ 1073741824) : IntKind.i64.wrap (Int.tdiv (IntKind.i64.wrap (i + j)) 2) = (i + j) / 2 := by
  have e0 : IntKind.i64.wrap (i + j) = i + j := wrapI (by omega) (by omega)
  rw [e0, Int.tdiv_eq_ediv_of_nonneg (by omega), wrapI (by omega) (by omega)]
variable {i : Int} {x : Reach} in
theorem least21_run (w : Int) : ∃ v, runI (ref21_Least_l0 x w false) 64 0 (1073741824, 0) = .inl v ∧ 0 ≤ v ∧ v ≤ 1073741824 ∧
    ((∀ a b, 0 ≤ a → a ≤ b → b < 1073741824 → decide (ref21_arrives x a false ≥ w) = true → decide (ref21_arrives x b false ≥ w) = true) → (∀ u, 0 ≤ u → u < v → decide (ref21_arrives x u false ≥ w) = false) ∧ (v < 1073741824 → decide (ref21_arrives x v false ≥ w) = true)) := by
  let st : Nat → Int × Int → Int ⊕ (Int × Int) := fun k s => swp (ref21_Least_l0 x w false k (s.2, s.1))
  obtain ⟨v, e1, e2, e3, e4⟩ := search_run (f := fun u => decide (ref21_arrives x u false ≥ w)) (N := 1073741824) (step := st) (by omega) (fun k i j h0 h1 h2 => by
    show swp (ref21_Least_l0 x w false k (j, i)) = _
    unfold ref21_Least_l0
    simp only
    rw [decide_eq_true h1, mid h0 (by omega) (by omega)]
    have hm : IntKind.i64.wrap ((i + j) / 2 + 1) = (i + j) / 2 + 1 := wrapI (by omega) (by omega)
    rw [hm]
    cases decide (ref21_arrives x ((i + j) / 2) false ≥ w) <;> rfl) (fun k i j h => by
    show swp (ref21_Least_l0 x w false k (j, i)) = _
    unfold ref21_Least_l0
    simp only
    rw [decide_eq_false h]; rfl) 63 0 0 1073741824 (by omega) (by omega) (by omega) (by decide)
  refine ⟨v, ?_, e2, e3, e4⟩
  have := runI_conj (f := st) (g := ref21_Least_l0 x w false) (fun s => (s.2, s.1)) (fun k s => by
    have hh : st k s = swp (ref21_Least_l0 x w false k (s.2, s.1)) := rfl
    rw [hh]
    cases ref21_Least_l0 x w false k (s.2, s.1) <;> rfl) 64 0 (0, 1073741824)
  rw [e1] at this
  exact this
variable {i : Int} {x : Reach} in
theorem least21_p (h : expand_reach i x = true) (w : Int) : ref21_Least_p x w false := ⟨lost21_p h _, fun _ => ⟨okI_all _ _ _ fun _ _ _ _ _ => lost21_p h _, fun z hz => by
  obtain ⟨v, e, _⟩ := least21_run (x := x) w
  rw [e] at hz; cases hz⟩⟩
variable {i : Int} {x : Reach} in
theorem need21_p (h : expand_reach i x = true) (w : Int) : ref21_Need_p x w := ⟨right21_p _, fun _ _ => least21_p h w⟩
variable {i : Int} {x : Reach} in
theorem need21_eq (h : expand_reach i x = true) {w : Int} (hw : 1 ≤ w) (hw2 : w ≤ 1073741824) : (∃ v, ref21_Need x w = (v, true, 0) ∧ losses_Need x w = (v, true, 0)) ∨ (ref21_Need x w = (0, false, 0) ∧ losses_Need x w = (0, false, 0)) := by
  obtain ⟨l1, l2, l3, l4⟩ := least_ok h hw hw2
  have hval : losses_valid x w = 0 := (lost_ok h (v := w) (by omega) hw2).1
  have hfind : ref21_Need x w = bif decide (ref21_Least x w false < 0) then (0, false, 0) else (ref21_Least x w false, true, 0) := by
    unfold ref21_Need ref21_find
    have e : (decide (w < 0) || decide (w > 1073741824)) = false := by rw [Bool.or_eq_false_iff, decide_eq_false_iff_not, decide_eq_false_iff_not]; omega
    rw [right21 h, e]
    simp only [Bool.not_true, cond_false]
  have hneed : losses_Need x w = bif decide (losses_least (w - 1) x > 1073741824) then (0, false, 0) else (losses_least (w - 1) x, true, 0) := by
    unfold losses_Need
    rw [hval, wrapI (by omega) (by omega)]
    rfl
  by_cases hm : wst x 1073741824 < w
  · right
    have hL : ref21_Least x w false = -1 := by
      unfold ref21_Least
      rw [arrives21 h (by omega) (Int.le_refl _), decide_eq_true hm]; rfl
    have hl : losses_least (w - 1) x > 1073741824 := by
      by_cases q : losses_least (w - 1) x ≤ 1073741824
      · have h1 := l4 q
        have h2 := wst_mono h l1 q (Int.le_refl _)
        omega
      · omega
    rw [hfind, hL, hneed, decide_eq_true hl]
    exact ⟨rfl, rfl⟩
  · left
    obtain ⟨v, e1, e2, e3, e4⟩ := least21_run (x := x) w
    have hL : ref21_Least x w false = v := by
      unfold ref21_Least
      rw [arrives21 h (by omega) (Int.le_refl _), decide_eq_false hm, e1]; rfl
    obtain ⟨f1, f2⟩ := e4 fun a b a0 hab hb ha => by
      rw [decide_eq_true_eq] at ha ⊢
      rw [arrives21 h a0 (by omega)] at ha
      rw [arrives21 h (by omega) (by omega)]
      have := wst_mono h a0 hab (by omega)
      omega
    have g1 : w ≤ wst x v := by
      by_cases q : v < 1073741824
      · have := f2 q
        rw [decide_eq_true_eq, arrives21 h e2 (by omega)] at this
        exact this
      · have : v = 1073741824 := by omega
        rw [this]; omega
    have g2 : ∀ u, 0 ≤ u → u < v → wst x u < w := fun u u0 u1 => by
      have := f1 u u0 u1
      rw [decide_eq_false_iff_not, arrives21 h u0 (by omega)] at this
      omega
    have hle : losses_least (w - 1) x = v := by
      rcases Int.lt_trichotomy (losses_least (w - 1) x) v with q | q | q
      · have := g2 _ l1 q
        have := l4 (by omega)
        omega
      · exact q
      · have := l3 v e2 q
        omega
    refine ⟨v, ?_, ?_⟩
    · rw [hfind, hL, decide_eq_false (by omega)]; rfl
    · rw [hneed, hle, decide_eq_false (by omega)]; rfl
variable {i : Int} {x : Reach} in
theorem intake22 (h : expand_reach i x = true) {w : Int} (hw : 0 ≤ w) : ref22_Intake x w = routing_intake x w := by
  unfold ref22_Intake routing_intake
  by_cases h0 : w = 0
  · subst h0; rfl
  · have e0 : (w == 0) = false := by rw [beq_eq_false_iff_ne]; exact h0
    rw [e0]
    simp only [cond_false, Bool.false_or]
    by_cases h1 : w > 1073741824
    · rw [decide_eq_true h1]; rfl
    · rw [decide_eq_false h1]
      simp only [cond_false]
      rcases need21_eq h (w := w) (by omega) (by omega) with ⟨v, e1, e2⟩ | ⟨e1, e2⟩
      · rw [e1, e2]
      · rw [e1, e2]
end Go.Sx
end
section
namespace Go.Sx
open Go.Proofs Go.Shelf Go.Sort Go.Lib
set_option maxRecDepth 100000
section
variable {α : Type}
def ins (q : α → Bool) (x : α) : List α → List α
  | [] => [x]
  | a :: l => bif q a then a :: ins q x l else x :: a :: l
theorem ins_perm (q : α → Bool) (x : α) : ∀ l, (ins q x l).Perm (x :: l)
  | [] => .refl _
  | a :: l => by
    unfold ins
    cases q a with
    | true => exact ((ins_perm q x l).cons a).trans (.swap x a l)
    | false => exact .refl _
theorem ins_len (q : α → Bool) (x : α) (l : List α) : (ins q x l).length = l.length + 1 := (ins_perm q x l).length_eq
theorem ins_cut (q : α → Bool) (x : α) : ∀ l, ins q x l = l.take (l.takeWhile q).length ++ x :: l.drop (l.takeWhile q).length
  | [] => rfl
  | a :: l => by
    unfold ins
    cases h : q a with
    | true => simp only [cond_true, List.takeWhile_cons, h, if_true, List.length_cons, List.take_succ_cons, List.drop_succ_cons, List.cons_append]; rw [ins_cut q x l]
    | false => simp [List.takeWhile_cons, h]
theorem ins_pair {R : α → α → Prop} (tr : ∀ a b c, R a b → R b c → R a c) {q : α → Bool} {x : α} : ∀ {l : List α}, (∀ y ∈ l, (q y = true → R y x) ∧ (q y = false → R x y)) → l.Pairwise R → (ins q x l).Pairwise R
  | [], _, _ => List.pairwise_singleton _ _
  | a :: l, h, hp => by
    unfold ins
    obtain ⟨h1, h2⟩ := List.pairwise_cons.1 hp
    cases hq : q a with
    | true =>
      refine List.pairwise_cons.2 ⟨fun b hb => ?_, ins_pair tr (fun y hy => h y (List.mem_cons_of_mem _ hy)) h2⟩
      rcases List.mem_cons.1 ((ins_perm q x l).mem_iff.1 hb) with rfl | hb
      · exact (h a List.mem_cons_self).1 hq
      · exact h1 b hb
    | false =>
      have hx := (h a List.mem_cons_self).2 hq
      refine List.pairwise_cons.2 ⟨fun b hb => ?_, hp⟩
      rcases List.mem_cons.1 hb with rfl | hb
      · exact hx
      · exact tr _ _ _ hx (h1 b hb)
variable [Inhabited α]
theorem while_ins {step : Nat → Int → Int ⊕ Int} {l : List α} {q : α → Bool} (hs : ∀ j s, step j s = bif ((decide (s < (l.length : Int))) && q (l.getD (Int.toNat s) (default : α))) then .inr (IntKind.i64.wrap (s + 1)) else .inl s) (hl : l.length ≤ 100000) :
    ∀ (n i k : Nat), k ≤ l.length → l.length - k < n → runI step n i (k : Int) = .inl ((k + ((l.drop k).takeWhile q).length : Nat) : Int)
  | 0, _, _, _, h => absurd h (Nat.not_lt_zero _)
  | n + 1, i, k, hk, hn => by
    rcases Nat.lt_or_eq_of_le hk with hk' | rfl
    · have e : l.drop k = l[k] :: l.drop (k + 1) := List.drop_eq_getElem_cons hk'
      have e2 : l.getD k (default : α) = l[k] := getD_el l default hk'
      unfold runI
      rw [hs, Int.toNat_natCast, e2, decide_eq_true (p := (k : Int) < (l.length : Int)) (by omega), Bool.true_and]
      cases h : q l[k] with
      | true =>
        rw [cond_true]
        rw [wrapI (by omega) (by omega), show (k : Int) + 1 = ((k + 1 : Nat) : Int) by omega]
        show runI step n (i + 1) ((k + 1 : Nat) : Int) = _
        rw [while_ins hs hl n (i + 1) (k + 1) hk' (by omega), e, List.takeWhile_cons, h, if_pos rfl, List.length_cons]
        congr 2; omega
      | false =>
        rw [cond_false, e, List.takeWhile_cons, h]; simp
    · unfold runI
      rw [hs, decide_eq_false (p := (l.length : Int) < (l.length : Int)) (by omega), Bool.false_and, cond_false]
      simp
theorem while_ok {step : Nat → Int → Int ⊕ Int} {p : Nat → Int → Prop} {l : List α} {q : α → Bool} (hs : ∀ j s, step j s = bif ((decide (s < (l.length : Int))) && q (l.getD (Int.toNat s) (default : α))) then .inr (IntKind.i64.wrap (s + 1)) else .inl s) (hl : l.length ≤ 100000)
    (hp : ∀ j s, p j s = (l.length ≤ maxL → ((decide (s < (l.length : Int))) = true → (0 ≤ s ∧ s < (l.length : Int))))) (n : Nat) : okI step p n 0 0 := by
  refine okI_inv (fun _ s => 0 ≤ s) n 0 0 (Int.le_refl _) fun j s _ _ h => ⟨?_, fun s' e => ?_⟩
  · rw [hp]; intro _ q; simp only [decide_eq_true_eq] at q; omega
  · rw [hs] at e
    cases hq : ((decide (s < (l.length : Int))) && q (l.getD (Int.toNat s) (default : α))) with
    | true =>
      rw [hq] at e
      simp only [cond_true, Sum.inr.injEq] at e
      simp only [Bool.and_eq_true, decide_eq_true_eq] at hq
      rw [wrapI (by omega) (by omega)] at e
      omega
    | false => rw [hq] at e; cases e
theorem tw_le (q : α → Bool) (l : List α) : (l.takeWhile q).length ≤ l.length := (List.takeWhile_sublist q).length_le
end
end Go.Sx
end
section
namespace Go.Sx
open Go.Proofs Go.Shelf Go.Sort Go.Lib
set_option maxRecDepth 100000
theorem run_J {ρ σ : Type} {step : Nat → σ → ρ ⊕ σ} (J : Nat → σ → Prop) : ∀ (n i : Nat) (s : σ), J i s → (∀ j s, i ≤ j → j < i + n → J j s → ∃ s', step j s = .inr s' ∧ J (j + 1) s') → ∃ s', runI step n i s = .inr s' ∧ J (i + n) s'
  | 0, i, s, h, _ => ⟨s, rfl, h⟩
  | n + 1, i, s, h, hs => by
    obtain ⟨s', e, h'⟩ := hs i s (Nat.le_refl _) (by omega) h
    obtain ⟨t, e2, h2⟩ := run_J J n (i + 1) s' h' fun j s a b c => hs j s (by omega) (by omega) c
    exact ⟨t, by unfold runI; rw [e]; exact e2, by rw [show i + (n + 1) = i + 1 + n by omega]; exact h2⟩
theorem getD_rep {n i : Nat} : (List.replicate n (0 : Int)).getD i 0 = 0 := by
  rw [List.getD_eq_getElem?_getD, List.getElem?_replicate]
  split <;> rfl
section
variable {d : District} {out : List Order}
theorem dem_run (hg : Good d out) (hall : ∀ x ∈ out, x.outlet = true) (r : Nat) :
    ((ref22_Demands d out r).length = d.hours.toNat ∧ ∀ b : Nat, b < d.hours.toNat → (ref22_Demands d out r).getD b 0 = drw d out r b) ∧ ref22_Demands_p d out r := by
  have hr := hg.right
  have hH := hr.hours; have hH1 := hr.hours1
  have hl := hg.len
  have key : ∀ j (s : List Int), j < out.length → (s.length = d.hours.toNat ∧ ∀ b : Nat, b < d.hours.toNat → s.getD b 0 = drw d (out.take j) r b) → ∃ s', ref22_Demands_l0 d out r j s = .inr s' ∧ (s'.length = d.hours.toNat ∧ ∀ b : Nat, b < d.hours.toNat → s'.getD b 0 = drw d (out.take (j + 1)) r b) := by
    intro j s hj ⟨h1, h2⟩
    have hm : out[j] ∈ out := List.getElem_mem hj
    have hx := hg.one _ hm
    have ho := hall _ hm
    have hx0 := hx.hour0; have hx1 := hx.hour; have hxl := hx.litres; have hxl1 := hx.litres1
    unfold ref22_Demands_l0
    rw [getD_el out default hj, ho, Bool.true_and]
    have tk : ∀ b : Nat, drw d (out.take (j + 1)) r b = drw d (out.take j) r b + (bif drawP d r b out[j] then out[j].litres else 0) := fun b => osum_take hj
    cases hq : ((d.farms.getD out[j].index.toNat default).reach == (r : Int)) with
    | false =>
      refine ⟨s, rfl, h1, fun b hb => ?_⟩
      rw [h2 b hb, tk]
      unfold drawP
      rw [ho, hq]; simp
    | true =>
      refine ⟨_, rfl, by rw [List.length_set]; exact h1, fun b hb => ?_⟩
      rw [getDset _ _ _ _ _ (by omega), tk]
      have hb0 := drw_bound (d := d) (l := out.take j) (fun x hx => by have := hg.one x (List.mem_of_mem_take hx); exact ⟨this.litres1, this.litres⟩) r b
      have hln : (out.take j).length ≤ 4096 := by rw [List.length_take]; omega
      by_cases e : b = out[j].hour.toNat
      · subst e
        rw [if_pos rfl, h2 _ hb]
        have hP : drawP d r ((out[j].hour.toNat : Nat) : Int) out[j] = true := by
          unfold drawP; rw [ho, hq]; simp only [Bool.and_true, Bool.true_or, beq_iff_eq]; omega
        rw [hP, cond_true, wrapI (by omega) (by omega)]
      · rw [if_neg e, h2 b hb]
        have hP : drawP d r (b : Int) out[j] = false := by
          unfold drawP
          rw [show (out[j].hour == (b : Int)) = false by rw [beq_eq_false_iff_ne]; omega]
          rfl
        rw [hP]; simp
  obtain ⟨s', e, h1, h2⟩ := run_J (step := ref22_Demands_l0 d out r) (fun j s => s.length = d.hours.toNat ∧ ∀ b : Nat, b < d.hours.toNat → s.getD b 0 = drw d (out.take j) r b) out.length 0 (List.replicate d.hours.toNat 0)
    ⟨List.length_replicate, fun b _ => by rw [getD_rep]; rfl⟩ fun j s _ hj hJ => key j s (by omega) hJ
  refine ⟨?_, ⟨rfl, by omega, by unfold maxB; omega⟩, fun _ => ?_⟩
  · unfold ref22_Demands
    rw [e]
    refine ⟨h1, fun b hb => ?_⟩
    have := h2 b hb
    rwa [Nat.zero_add, List.take_length] at this
  · refine okI_inv (fun _ (s : List Int) => s.length = d.hours.toNat) _ _ _ List.length_replicate fun j s _ hj hs => ⟨fun _ => ?_, fun s' he => ?_⟩
    · rw [getD_el out default (by omega)]
      have hx := hg.one out[j] (List.getElem_mem (by omega))
      have := hx.hour0; have := hx.hour; have := hx.index0
      exact ⟨fun q => ⟨by omega, hx.farm q⟩, fun _ => ⟨⟨by omega, by omega⟩, ⟨by omega, by omega⟩⟩⟩
    · unfold ref22_Demands_l0 at he
      cases hc : ((out.getD j default).outlet && ((d.farms.getD (Int.toNat (out.getD j default).index) default).reach == (r : Int))) with
      | true => rw [hc] at he; cases he; rw [List.length_set]; exact hs
      | false => rw [hc] at he; cases he; exact hs
structure GR (d : District) (gs : List Order) (g : List (List Int)) (r : Nat) : Prop where
  len : g.length = d.reaches.length
  row : ∀ a, r ≤ a → a < d.reaches.length → (g.getD a []).length = d.hours.toNat
  cel : ∀ a b : Nat, r ≤ a → a < d.reaches.length → b < d.hours.toNat → cell g a b = glit gs a b
def upTo (d : District) (gs : List Order) (r b : Int) (c : Nat) : Int := osum (fun x => drawP d r b x && decide (x.index < (c : Int))) gs
theorem upTo_succ {gs : List Order} (hgs : ∀ x ∈ gs, x.outlet = false ∧ 0 ≤ x.index) (r b : Int) (c : Nat) :
    upTo d gs r b (c + 1) = upTo d gs r b c + (if (rch d c).up = r then glit gs c b else 0) := by
  have h1 : upTo d gs r b c + osum (fun x => drawP d r b x && (x.index == (c : Int))) gs = upTo d gs r b (c + 1) := osum_add fun x hx => by
    have := (hgs x hx).2
    cases drawP d r b x with
    | false => simp
    | true =>
      simp only [Bool.true_and]
      constructor
      · rw [Bool.eq_iff_iff]; simp only [decide_eq_true_eq, Bool.or_eq_true, beq_iff_eq]; omega
      · rw [Bool.and_eq_false_iff]; simp only [decide_eq_false_iff_not, beq_eq_false_iff_ne]; omega
  rw [← h1]
  congr 1
  by_cases hu : (rch d c).up = r
  · rw [if_pos hu]
    refine osum_congr fun x hx => ?_
    obtain ⟨ho, _⟩ := hgs x hx
    unfold drawP gP
    rw [ho]
    rw [Bool.eq_iff_iff]
    simp only [Bool.false_and, Bool.false_or, Bool.not_false, Bool.true_and, Bool.and_eq_true, beq_iff_eq]
    constructor
    · rintro ⟨⟨a1, a2⟩, a3⟩; exact ⟨a3, a1⟩
    · rintro ⟨a1, a2⟩; refine ⟨⟨a2, ?_⟩, a1⟩; rw [a1]; exact hu
  · rw [if_neg hu]
    refine osum_none fun x hx => ?_
    obtain ⟨ho, _⟩ := hgs x hx
    unfold drawP
    rw [ho]
    simp only [Bool.false_and, Bool.false_or, Bool.not_false, Bool.true_and, Bool.and_eq_false_iff, beq_eq_false_iff_ne]
    by_cases e : x.index = (c : Int)
    · left; right; rw [e]; exact hu
    · right; exact e
structure DM (d : District) (out gs : List Order) (r c : Nat) (dm : List Int) : Prop where
  len : dm.length = d.hours.toNat
  val : ∀ b : Nat, b < d.hours.toNat → dm.getD b 0 = drw d out r b + upTo d gs r b c
section
variable {gs : List Order} {s0 : List (List Int) × Int} {r : Nat}
theorem kid_row {s1 : List Int × Int} {c : Nat} (hc : s1.2 = (c : Int)) (hs : s0.2 = (r : Int)) (hu : (d.reaches.getD c default).up = (r : Int)) (hH : d.hours ≤ 4096) (hH1 : 1 ≤ d.hours) :
    ∀ (n i k : Nat) (dm : List Int), dm.length = d.hours.toNat → k ≤ d.hours.toNat → d.hours.toNat - k < n →
      (∀ b : Nat, k ≤ b → b < d.hours.toNat → -4611686018427387904 ≤ dm.getD b 0 + cell (s0.1.set r (List.replicate d.hours.toNat 0)) c b ∧ dm.getD b 0 + cell (s0.1.set r (List.replicate d.hours.toNat 0)) c b ≤ 4611686018427387904) →
      ∃ dm', runI (ref22_Intakes_l2 d s0 s1) n i (dm, (k : Int)) = .inl dm' ∧ dm'.length = d.hours.toNat ∧ ∀ b : Nat, b < d.hours.toNat → dm'.getD b 0 = dm.getD b 0 + (if k ≤ b then cell (s0.1.set r (List.replicate d.hours.toNat 0)) c b else 0)
  | 0, _, _, _, _, _, h, _ => absurd h (Nat.not_lt_zero _)
  | n + 1, i, k, dm, hl, hk, hn, hb => by
    have hst : ref22_Intakes_l2 d s0 s1 i (dm, (k : Int)) = if k < d.hours.toNat then .inr (dm.set k (dm.getD k 0 + cell (s0.1.set r (List.replicate d.hours.toNat 0)) c k), ((k + 1 : Nat) : Int)) else .inl dm := by
      unfold ref22_Intakes_l2
      simp only [hc, hs, Int.toNat_natCast]
      rw [show (((d.reaches.getD c default).up == (r : Int))) = true by rw [hu]; exact beq_self_eq_true _, Bool.and_true]
      by_cases hk' : k < d.hours.toNat
      · rw [decide_eq_true (by omega), cond_true, if_pos hk']
        have hbk := hb k (Nat.le_refl _) hk'
        rw [show ((s0.1.set r (List.replicate d.hours.toNat 0)).getD c []).getD k 0 = cell (s0.1.set r (List.replicate d.hours.toNat 0)) c k from rfl]
        rw [wrapI (by omega) (by omega), wrapI (by omega) (by omega), show (k : Int) + 1 = ((k + 1 : Nat) : Int) by omega]
      · rw [decide_eq_false (by omega), cond_false, if_neg hk']
    unfold runI
    rw [hst]
    rcases Nat.lt_or_eq_of_le hk with hk' | rfl
    · rw [if_pos hk']
      have hdv : ∀ b : Nat, (dm.set k (dm.getD k 0 + cell (s0.1.set r (List.replicate d.hours.toNat 0)) c k)).getD b 0 = if b = k then dm.getD k 0 + cell (s0.1.set r (List.replicate d.hours.toNat 0)) c k else dm.getD b 0 := fun b => getDset _ _ _ _ _ (by omega)
      obtain ⟨dm', e, h1, h2⟩ := kid_row hc hs hu hH hH1 n (i + 1) (k + 1) (dm.set k (dm.getD k 0 + cell (s0.1.set r (List.replicate d.hours.toNat 0)) c k)) (by rw [List.length_set]; exact hl) hk' (by omega) fun b h1 h2 => by
        rw [hdv, if_neg (by omega)]; exact hb b (by omega) h2
      refine ⟨dm', e, h1, fun b hb' => ?_⟩
      rw [h2 b hb', hdv]
      by_cases e1 : b = k
      · subst e1; rw [if_pos rfl, if_neg (by omega), if_pos (Nat.le_refl _), Int.add_zero]
      · rw [if_neg e1]
        by_cases e2 : k ≤ b
        · rw [if_pos e2, if_pos (by omega)]
        · rw [if_neg e2, if_neg (by omega)]
    · rw [if_neg (by omega)]
      exact ⟨dm, rfl, hl, fun b hb' => by rw [if_neg (by omega), Int.add_zero]⟩
theorem kid_ok {s1 : List Int × Int} {c : Nat} (hc : s1.2 = (c : Int)) (hcl : c < d.reaches.length) (hg : (s0.1.set (Int.toNat s0.2) (List.replicate d.hours.toNat 0)).length = d.reaches.length) (hrow : ((s0.1.set (Int.toNat s0.2) (List.replicate d.hours.toNat 0)).getD c []).length = d.hours.toNat) (hH : d.hours ≤ 4096) (n i : Nat) (dm : List Int) (hl : dm.length = d.hours.toNat) :
    okI (ref22_Intakes_l2 d s0 s1) (ref22_Intakes_l2_p d s0 s1) n i (dm, 0) := by
  refine okI_inv (fun _ (s : List Int × Int) => s.1.length = d.hours.toNat ∧ 0 ≤ s.2) n i (dm, 0) ⟨hl, Int.le_refl _⟩ fun j s _ _ hJ => ⟨⟨fun _ => ?_, fun q => ?_⟩, fun s' e => ?_⟩
  · rw [hc]; omega
  · rw [Bool.and_eq_true, decide_eq_true_eq] at q
    have := hJ.1; have := hJ.2
    rw [hc, Int.toNat_natCast, hg, hrow]
    omega
  · unfold ref22_Intakes_l2 at e
    cases hq : ((decide (s.2 < d.hours)) && ((d.reaches.getD (Int.toNat s1.2) (default : Reach)).up == s0.2)) with
    | true =>
      rw [hq] at e; cases e
      rw [Bool.and_eq_true, decide_eq_true_eq] at hq
      have := hJ.2
      refine ⟨by rw [List.length_set]; exact hJ.1, ?_⟩
      show 0 ≤ IntKind.i64.wrap (s.2 + 1)
      rw [wrapI (by omega) (by omega)]; omega
    | false => rw [hq] at e; cases e
theorem kids {m : Mp} (hr : Right1 d) (ho : Orders1 d out) (p : PI d out gs m r 0) (hrl : r < d.reaches.length) (hs : s0.2 = (r : Int)) (hG : GR d gs s0.1 (r + 1)) :
    ∀ (n k c : Nat) (dm : List Int), r + 1 ≤ c → c ≤ d.reaches.length → d.reaches.length - c < n → DM d out gs r c dm →
      (∃ dm', runI (ref22_Intakes_l1 d s0) n k (dm, (c : Int)) = .inl dm' ∧ DM d out gs r d.reaches.length dm') ∧ okI (ref22_Intakes_l1 d s0) (ref22_Intakes_l1_p d s0) n k (dm, (c : Int))
  | 0, _, _, _, _, _, h, _ => absurd h (Nat.not_lt_zero _)
  | n + 1, k, c, dm, hc1, hc2, hn, hD => by
    have hH := hr.hours; have hH1 := hr.hours1; have hR := hr.reaches
    rcases Nat.lt_or_eq_of_le hc2 with hc | rfl
    · have hcel : ∀ b : Nat, b < d.hours.toNat → cell (s0.1.set r (List.replicate d.hours.toNat 0)) c b = glit gs c b := fun b hb => by
        unfold cell
        rw [getDset _ _ _ _ _ (by rw [hG.len]; exact hrl), if_neg (by omega)]
        exact hG.cel c b (by omega) hc hb
      have hrow : ((s0.1.set r (List.replicate d.hours.toNat 0)).getD c []).length = d.hours.toNat := by
        rw [getDset _ _ _ _ _ (by rw [hG.len]; exact hrl), if_neg (by omega)]
        exact hG.row c (by omega) hc
      have hlen := p.len2 hr ho (Nat.zero_le _)
      rw [List.length_append] at hlen
      have hlg : ∀ x ∈ gs, 1 ≤ x.litres ∧ x.litres ≤ 1073741824 := fun x hx => p.lit hr ho x (List.mem_append_right _ hx)
      have hlo : ∀ x ∈ out, 1 ≤ x.litres ∧ x.litres ≤ 1073741824 := fun x hx => p.lit hr ho x (List.mem_append_left _ hx)
      have hgs : ∀ x ∈ gs, x.outlet = false ∧ 0 ≤ x.index := fun x hx => ⟨(p.gate x hx).1.out, (p.gate x hx).1.i0⟩
      have hstep : ∃ dm', ref22_Intakes_l1 d s0 k (dm, (c : Int)) = .inr (dm', ((c + 1 : Nat) : Int)) ∧ DM d out gs r (c + 1) dm' := by
        unfold ref22_Intakes_l1
        simp only
        rw [decide_eq_true (by omega : (c : Int) < (d.reaches.length : Int)), cond_true, wrapI (by omega) (by omega), show (c : Int) + 1 = ((c + 1 : Nat) : Int) by omega]
        by_cases hu : (d.reaches.getD c default).up = (r : Int)
        · obtain ⟨dm', e, h1, h2⟩ := kid_row (s0 := s0) (s1 := (dm, (c : Int))) (c := c) rfl hs hu hH hH1 (d.hours.toNat + 1) 0 0 dm hD.len (Nat.zero_le _) (by omega) fun b _ hb => by
            rw [hD.val b hb, hcel b hb]
            have q1 := drw_bound (d := d) hlo r b
            have q2 := osum_bound (p := fun x => drawP d r b x && decide (x.index < (c : Int))) hlg
            have q3 := osum_bound (p := gP c b) hlg
            unfold upTo glit
            have : (out.length : Int) ≤ 270336 := by omega
            have : (gs.length : Int) ≤ 270336 := by omega
            omega
          rw [show ((0 : Nat) : Int) = 0 from rfl] at e
          rw [e]
          refine ⟨dm', rfl, h1, fun b hb => ?_⟩
          rw [h2 b hb, hD.val b hb, if_pos (Nat.zero_le _), hcel b hb, upTo_succ hgs, if_pos (show (rch d (c : Int)).up = (r : Int) from hu), Int.add_assoc]
        · have e : runI (ref22_Intakes_l2 d s0 (dm, (c : Int))) (d.hours.toNat + 1) 0 (dm, 0) = .inl dm := by
            unfold runI ref22_Intakes_l2
            simp only [Int.toNat_natCast, hs]
            rw [show (((d.reaches.getD c default).up == (r : Int))) = false by rw [beq_eq_false_iff_ne]; exact hu, Bool.and_false, cond_false]
          rw [e]
          refine ⟨dm, rfl, hD.len, fun b hb => ?_⟩
          rw [hD.val b hb, upTo_succ hgs, if_neg (show ¬ (rch d (c : Int)).up = (r : Int) from hu), Int.add_zero]
      obtain ⟨dm', e, hD'⟩ := hstep
      obtain ⟨⟨dm2, e2, hD2⟩, hok⟩ := kids hr ho p hrl hs hG n (k + 1) (c + 1) dm' (by omega) hc (by omega) hD'
      refine ⟨⟨dm2, by unfold runI; rw [e]; exact e2, hD2⟩, fun _ _ => ⟨?_, fun z hz => ?_⟩, fun s' hs' => ?_⟩
      · exact kid_ok rfl hc (by rw [List.length_set, hG.len]) (by rw [hs, Int.toNat_natCast]; exact hrow) hH _ _ _ hD.len
      · unfold ref22_Intakes_l1 at e
        simp only at e
        rw [decide_eq_true (by omega : (c : Int) < (d.reaches.length : Int)), cond_true, hz] at e
        simp only [Sum.inr.injEq] at e
        have e3 := congrArg Prod.snd e
        have e4 : (default : List Int × Int).2 = ((c + 1 : Nat) : Int) := e3
        have e5 : (default : List Int × Int).2 = 0 := rfl
        omega
      · rw [e] at hs'; cases hs'; exact hok
    · refine ⟨⟨dm, ?_, hD⟩, fun _ q => ?_, fun s' hs' => ?_⟩
      · unfold runI ref22_Intakes_l1
        simp only
        rw [decide_eq_false (by omega), cond_false]
      · simp only [decide_eq_true_eq] at q; omega
      · unfold ref22_Intakes_l1 at hs'
        simp only at hs'
        rw [decide_eq_false (by omega), cond_false] at hs'; cases hs'
end
end
end Go.Sx
end
section
namespace Go.Sx
open Go.Proofs Go.Shelf Go.Sort Go.Lib
set_option maxRecDepth 100000
theorem intake22_p {i : Int} {x : Reach} (h : expand_reach i x = true) (w : Int) : ref22_Intake_p x w := fun _ _ => need21_p h w
theorem intake_zero (x : Reach) : ref22_Intake x 0 = (0, true) := rfl
section
variable {d : District} {out gs : List Order} {m : Mp} {r : Nat} {s0 : List (List Int) × Int} {dm : List Int}
theorem l3_eq (hs : s0.2 = (r : Int)) (h : Nat) (g : List (List Int)) : ref22_Intakes_l3 d s0 dm h g = (bif ((!(ref22_Intake (rch d r) (dm.getD h 0)).2) || ((decide ((ref22_Intake (rch d r) (dm.getD h 0)).1 > 0)) && (decide ((IntKind.i64.wrap ((h : Int) - (rch d r).delay)) < 0)))) then .inl () else (bif (decide ((ref22_Intake (rch d r) (dm.getD h 0)).1 > 0)) then .inr (g.set r ((g.getD r []).set (Int.toNat (IntKind.i64.wrap ((h : Int) - (rch d r).delay))) (ref22_Intake (rch d r) (dm.getD h 0)).1)) else .inr g)) := by
  unfold ref22_Intakes_l3
  rw [hs]
  rfl
theorem glit_add (l : List Order) (x : Order) (a b : Int) : glit (l ++ [x]) a b = glit l a b + (bif gP a b x then x.litres else 0) := by
  unfold glit
  rw [osum_app]
  simp [osum]
theorem GR.zero {g : List (List Int)} (p : PI d out gs m r 0) (hr : Right1 d) (hG : GR d gs g (r + 1)) (hrl : r < d.reaches.length) : GR d gs (g.set r (List.replicate d.hours.toNat 0)) r := by
  refine ⟨by rw [List.length_set]; exact hG.len, fun a h1 h2 => ?_, fun a b h1 h2 h3 => ?_⟩
  · rw [getDset _ _ _ _ _ (by rw [hG.len]; exact hrl)]
    by_cases e : a = r
    · rw [if_pos e, List.length_replicate]
    · rw [if_neg e]; exact hG.row a (by omega) h2
  · unfold cell
    rw [getDset _ _ _ _ _ (by rw [hG.len]; exact hrl)]
    by_cases e : a = r
    · rw [if_pos e, getD_rep]
      refine (osum_none fun x hx => ?_).symm
      obtain ⟨q1, q2⟩ := p.gate x hx
      have h0 := q1.h0; have hi := q1.i0; have hi1 := q1.i1
      have : 1 ≤ (rch d x.index).delay := (hr.reachI hi hi1).delay1
      unfold gP
      rw [show (x.index == (a : Int)) = false by rw [beq_eq_false_iff_ne]; rcases q2 with q | ⟨q, q3⟩ <;> omega]
      simp
    · rw [if_neg e]
      exact hG.cel a b (by omega) h2 h3
theorem GR.add {g : List (List Int)} {h : Nat} {v : Int} (p : PI d out gs m r h) (hG : GR d gs g r) (hrl : r < d.reaches.length) (hd : (rch d r).delay ≤ h) (hd1 : 1 ≤ (rch d r).delay) (hh : h < d.hours.toNat) :
    GR d (gs ++ [{ hour := (h : Int) - (rch d r).delay, index := r, litres := v, outlet := false }]) (g.set r ((g.getD r []).set ((h : Int) - (rch d r).delay).toNat v)) r := by
  have hrow := hG.row r (Nat.le_refl _) hrl
  refine ⟨by rw [List.length_set]; exact hG.len, fun a h1 h2 => ?_, fun a b h1 h2 h3 => ?_⟩
  · rw [getDset _ _ _ _ _ (by rw [hG.len]; exact hrl)]
    by_cases e : a = r
    · rw [if_pos e, List.length_set]; exact hrow
    · rw [if_neg e]; exact hG.row a h1 h2
  · have hc := hG.cel a b h1 h2 h3
    rw [glit_add]
    unfold cell at hc ⊢
    rw [getDset _ _ _ _ _ (by rw [hG.len]; exact hrl)]
    by_cases e : a = r
    · subst e
      rw [if_pos rfl, getDset _ _ _ _ _ (by rw [hrow]; omega)]
      by_cases e2 : b = ((h : Int) - (rch d a).delay).toNat
      · rw [if_pos e2]
        have hz : glit gs a b = 0 := osum_none fun x hx => by
          obtain ⟨q1, q2⟩ := p.gate x hx
          unfold gP
          by_cases e3 : x.index = (a : Int)
          · have q2' : (a : Int) = a ∧ x.hour + (rch d a).delay < (h : Int) := by
              rcases q2 with q | q
              · omega
              · rw [e3] at q; exact q
            rw [show (x.hour == (b : Int)) = false by rw [beq_eq_false_iff_ne]; omega]
            simp
          · rw [show (x.index == (a : Int)) = false by rw [beq_eq_false_iff_ne]; exact e3]
            simp
        rw [hz]
        unfold gP
        simp only [Bool.not_false, Bool.true_and, beq_self_eq_true]
        rw [show ((h : Int) - (rch d a).delay == (b : Int)) = true by rw [beq_iff_eq]; omega]
        simp
      · rw [if_neg e2, hc]
        unfold gP
        rw [show ((h : Int) - (rch d a).delay == (b : Int)) = false by rw [beq_eq_false_iff_ne]; omega]
        simp
    · rw [if_neg e, hc]
      unfold gP
      rw [show ((r : Int) == (a : Int)) = false by rw [beq_eq_false_iff_ne]; omega]
      simp
theorem row3 (hr : Right1 d) (ho : Orders1 d out) (hrl : r < d.reaches.length) (hs : s0.2 = (r : Int)) (hdl : dm.length = d.hours.toNat) :
    ∀ (n h : Nat) (gs : List Order) (m : Mp) (g : List (List Int)), h + n = d.hours.toNat → PI d out gs m r h → GR d gs g r → (∀ b : Nat, b < d.hours.toNat → dm.getD b 0 = drw d (out ++ gs) r b) →
      ((∃ gs' m' g', runL (routing_Plan_l1 d) (rowH r d.hours.toNat h) (out ++ gs, m) = .inr (out ++ gs', m') ∧ runI (ref22_Intakes_l3 d s0 dm) n h g = .inr g' ∧ PI d out gs' m' r d.hours.toNat ∧ GR d gs' g' r) ∨
       ((∃ y, runL (routing_Plan_l1 d) (rowH r d.hours.toNat h) (out ++ gs, m) = .inl y) ∧ runI (ref22_Intakes_l3 d s0 dm) n h g = .inl ())) ∧
      okI (ref22_Intakes_l3 d s0 dm) (ref22_Intakes_l3_p d s0 dm) n h g
  | 0, h, gs, m, g, hn, p, hG, hD => by
    have : h = d.hours.toNat := by omega
    subst this
    exact ⟨.inl ⟨gs, m, g, by rw [rowH_end]; rfl, rfl, p, hG⟩, trivial⟩
  | n + 1, h, gs, m, g, hn, p, hG, hD => by
    have hH := hr.hours; have hH1 := hr.hours1
    have hhl : h < d.hours.toNat := by omega
    have hdy := delay_pos hr hrl
    have hw := hD h hhl
    have hlit := p.lit hr ho
    have hb := (drw_bound (d := d) hlit r h).1
    have hpre : expand_reach (r : Int) (rch d r) = true := hr.reach r hrl
    have hin : ref22_Intake (rch d r) (dm.getD h 0) = routing_intake (rch d r) (drw d (out ++ gs) r h) := by rw [hw]; exact intake22 hpre hb
    have heq := l3_eq (d := d) (dm := dm) hs h g
    rw [wrapI (by omega) (by omega), hin] at heq
    have hP : ∀ (s : List (List Int)), s.length = d.reaches.length → (s.getD r []).length = d.hours.toNat → (((!(routing_intake (rch d r) (drw d (out ++ gs) r h)).2) || ((decide ((routing_intake (rch d r) (drw d (out ++ gs) r h)).1 > 0)) && (decide ((h : Int) - (rch d r).delay < 0)))) = false → (decide ((routing_intake (rch d r) (drw d (out ++ gs) r h)).1 > 0)) = true → (0 : Int) ≤ (h : Int) - (rch d r).delay) → ref22_Intakes_l3_p d s0 dm h s := by
      intro s h1 h2 h3
      unfold ref22_Intakes_l3_p
      rw [hs, Int.toNat_natCast, hdl, h1, h2, show d.reaches.getD r default = rch d r from rfl, wrapI (by omega) (by omega), hin]
      exact ⟨by omega, by omega, intake22_p hpre _, by omega, fun q1 q2 => ⟨by omega, h3 q1 q2, by omega⟩⟩
    have hPok : ref22_Intakes_l3_p d s0 dm h g := hP g hG.len (hG.row r (Nat.le_refl _) hrl) fun q1 q2 => by
      rw [Bool.or_eq_false_iff, q2, Bool.true_and, decide_eq_false_iff_not] at q1
      omega
    rw [rowH_step hhl]
    simp only [runL, runI]
    rcases plan_step hr ho hrl hhl (s := (out ++ gs, m)) rfl p with ⟨e0, e1⟩ | ⟨e0, e1, e2⟩ | ⟨v, e0, e1, e2, e3, e4, e5⟩
    · rw [e1]
      have hz : ref22_Intakes_l3 d s0 dm h g = .inr g := by
        rw [heq, e0, ← intake22 hpre (Int.le_refl 0), intake_zero]; rfl
      rw [hz]
      simp only
      obtain ⟨a1, a2⟩ := row3 hr ho hrl hs hdl n (h + 1) gs m g (by omega) (p.skip e0) hG hD
      exact ⟨a1, hPok, fun s' e => by rw [hz] at e; cases e; exact a2⟩
    · rw [e2]
      have hz : ref22_Intakes_l3 d s0 dm h g = .inl () := by
        rw [heq]
        rcases e1 with e1 | e1
        · rw [e1]; rfl
        · rcases intake_ok (i := (r : Int)) (by omega) hpre e0 with ⟨v, e5, e6, _⟩ | ⟨e5, _⟩
          · rw [e5, decide_eq_true (p := v > 0) (by omega), decide_eq_true (by omega)]; rfl
          · rw [show (routing_intake (rch d r) (drw d (out ++ gs) r h)).2 = false from e5]; rfl
      rw [hz]
      simp only
      exact ⟨.inr ⟨⟨_, rfl⟩, trivial⟩, hPok, fun s' e => by rw [hz] at e; cases e⟩
    · rw [e5]
      have hz : ref22_Intakes_l3 d s0 dm h g = .inr (g.set r ((g.getD r []).set ((h : Int) - (rch d r).delay).toNat v)) := by
        rw [heq, e1, decide_eq_true (p := v > 0) (by omega), decide_eq_false (by omega)]; rfl
      rw [hz]
      simp only
      have p' := p.add hr ho hrl hhl e0 e1 e2 e3 e4
      have hG' := hG.add (v := v) p hrl e2 hdy.1 hhl
      obtain ⟨a1, a2⟩ := row3 hr ho hrl hs hdl n (h + 1) _ _ _ (by omega) p' hG' fun b hb' => by
        rw [hD b hb', ← List.append_assoc, drw_app d (out ++ gs), drw_one]
        have hu := up_lt hr hrl
        unfold drawP
        simp only [Int.toNat_natCast, Bool.false_and, Bool.false_or, Bool.not_false, Bool.true_and]
        rw [show ((d.reaches.getD r default).up == (r : Int)) = false by rw [beq_eq_false_iff_ne]; have : (rch d r).up < r := hu; have e : (d.reaches.getD r default).up = (rch d r).up := rfl; omega]
        simp
      exact ⟨a1, hPok, fun s' e => by rw [hz] at e; cases e; exact a2⟩
theorem rows3 (hr : Right1 d) (hg : Good d out) (hall : ∀ x ∈ out, x.outlet = true) : ∀ (r n k : Nat) (gs : List Order) (m : Mp) (g : List (List Int)), r < d.reaches.length → r + 2 ≤ n → PI d out gs m r 0 → GR d gs g (r + 1) →
      ((∃ gs' m' g', runL (routing_Plan_l1 d) (upwL d.hours.toNat (r + 1)) (out ++ gs, m) = .inr (out ++ gs', m') ∧ runI (ref22_Intakes_l0 d out) n k (g, (r : Int)) = .inl (.inr g') ∧ PI d out gs' m' 0 d.hours.toNat ∧ GR d gs' g' 0) ∨
       ((∃ y, runL (routing_Plan_l1 d) (upwL d.hours.toNat (r + 1)) (out ++ gs, m) = .inl y) ∧ runI (ref22_Intakes_l0 d out) n k (g, (r : Int)) = .inl (.inl ()))) ∧
      okI (ref22_Intakes_l0 d out) (ref22_Intakes_l0_p d out) n k (g, (r : Int))
  | r, 0, _, _, _, _, _, h, _, _ => absurd h (by omega)
  | r, n + 1, k, gs, m, g, hrl, hn, p, hG => by
    have ho := hg.orders
    have hH := hr.hours; have hH1 := hr.hours1; have hR := hr.reaches
    obtain ⟨⟨d1, d2⟩, d3⟩ := dem_run hg hall r
    have hgs : ∀ x ∈ gs, (r : Int) < x.index := fun x hx => by
      obtain ⟨q1, q2⟩ := p.gate x hx
      have : 1 ≤ (rch d x.index).delay := (hr.reachI q1.i0 q1.i1).delay1
      have := q1.h0
      rcases q2 with q | ⟨q, q3⟩ <;> omega
    have hDM : DM d out gs r (r + 1) (ref22_Demands d out r) := ⟨d1, fun b hb => by
      rw [d2 b hb]
      unfold upTo
      rw [osum_none fun x hx => ?_, Int.add_zero]
      have := hgs x hx
      rw [decide_eq_false (by omega), Bool.and_false]⟩
    have hsr : ((g, (r : Int)) : List (List Int) × Int).2 = (r : Int) := rfl
    obtain ⟨⟨dm, k1, kD⟩, k2⟩ := kids (s0 := (g, (r : Int))) hr ho p hrl hsr hG (d.reaches.length + 1) 0 (r + 1) _ (Nat.le_refl _) (by omega) (by omega) hDM
    have hval : ∀ b : Nat, b < d.hours.toNat → dm.getD b 0 = drw d (out ++ gs) r b := fun b hb => by
      rw [kD.val b hb, drw_app]
      unfold upTo
      rw [show osum (fun x => drawP d r b x && decide (x.index < (d.reaches.length : Int))) gs = drw d gs r b from osum_congr fun x hx => by
        rw [decide_eq_true (p.gate x hx).1.i1, Bool.and_true]]
    obtain ⟨a1, a2⟩ := row3 (s0 := (g, (r : Int))) hr ho hrl hsr kD.len d.hours.toNat 0 gs m _ (by omega) p (GR.zero p hr hG hrl) hval
    have hw1 : IntKind.i64.wrap ((r : Int) + 1) = ((r + 1 : Nat) : Int) := by rw [wrapI (by omega) (by omega)]; omega
    have hw2 : IntKind.i64.wrap ((r : Int) - 1) = (r : Int) - 1 := wrapI (by omega) (by omega)
    have hpre : ref22_Intakes_l0_p d out k (g, (r : Int)) := by
      unfold ref22_Intakes_l0_p
      simp only [hw1]
      refine fun _ => ⟨⟨trivial, by omega, by unfold maxB; omega⟩, fun _ => ⟨⟨by omega, by rw [hG.len]; omega⟩, d3, k2, fun z e => ?_, fun x e => ⟨by omega, ?_⟩⟩⟩
      · rw [k1] at e; cases e
      · rw [k1] at e; cases e; exact a2
    have hst : ref22_Intakes_l0 d out k (g, (r : Int)) = (match runI (ref22_Intakes_l3 d (g, (r : Int)) dm) d.hours.toNat 0 (g.set r (List.replicate d.hours.toNat 0)) with | .inl _ => .inl (.inl ()) | .inr s_3 => .inr (s_3, (r : Int) - 1)) := by
      unfold ref22_Intakes_l0
      simp only [hw1, hw2]
      rw [decide_eq_true (by omega), cond_true, k1]
      rfl
    rw [upwL_row, runL_append]
    rcases a1 with ⟨gs', m', g', b1, b2, b3, b4⟩ | ⟨⟨y, b1⟩, b2⟩
    · rw [b1]
      have hst' : ref22_Intakes_l0 d out k (g, (r : Int)) = .inr (g', (r : Int) - 1) := by rw [hst, b2]
      simp only [runI, hst']
      cases r with
      | zero =>
        have hend : ∀ j, ref22_Intakes_l0 d out j (g', (((0 : Nat) : Int)) - 1) = .inl (.inr g') := fun j => by
          unfold ref22_Intakes_l0
          simp only
          rw [decide_eq_false (by omega), cond_false]
        refine ⟨.inl ⟨gs', m', g', rfl, ?_, b3, b4⟩, hpre, fun s' e => ?_⟩
        · cases n with
          | zero => omega
          | succ n => simp only [runI, hend]
        · rw [hst'] at e; cases e
          cases n with
          | zero => trivial
          | succ n =>
            refine ⟨?_, fun s' e => by rw [hend] at e; cases e⟩
            unfold ref22_Intakes_l0_p
            intro q
            simp only [decide_eq_true_eq] at q
            omega
      | succ r =>
        have e1 : (((r + 1 : Nat) : Int)) - 1 = (r : Int) := by omega
        rw [e1]
        obtain ⟨c1, c2⟩ := rows3 hr hg hall r n (k + 1) gs' m' g' (by omega) (by omega) (b3.row hrl hH1) b4
        refine ⟨c1, hpre, fun s' e => ?_⟩
        rw [hst', e1] at e; cases e; exact c2
    · rw [b1]
      have hst' : ref22_Intakes_l0 d out k (g, (r : Int)) = .inl (.inl ()) := by rw [hst, b2]
      simp only [runI, hst']
      exact ⟨.inr ⟨⟨y, rfl⟩, trivial⟩, hpre, fun s' e => by rw [hst'] at e; cases e⟩
theorem PI_end (hr : Right1 d) (p : PI d out gs m 0 d.hours.toNat) : PFin d out gs := by
  obtain ⟨gs', e, h⟩ := PJ_end (out := out) (s := (out ++ gs, m)) hr ⟨gs, 0, d.hours.toNat, hr.one, Nat.le_refl _, rfl, by rw [rowH_end]; rfl, p⟩
  rw [List.append_cancel_left e]
  exact h
theorem intakes (hN : Nar d out) (hall : ∀ x ∈ out, x.outlet = true) :
    ((routing_Plan d out = ([], false, 0) ∧ ref22_Intakes d out = ([], false)) ∨
     ∃ gs g, PFin d out gs ∧ ref22_Intakes d out = (g, true) ∧ GR d gs g 0 ∧ routing_Plan d out = (bif decide (((out ++ gs).length : Int) > 4096) then ([], false, 2) else (srt routing_by_1 (out ++ gs), true, 0))) ∧ ref22_Intakes_p d out := by
  have hg := hN.good
  have hr := hg.right
  have ho := hg.orders
  have hR := hr.reaches
  have h1 := hr.one
  obtain ⟨f1, _, f3⟩ := first_run hr ho
  obtain ⟨m, hm⟩ := f3 hall
  have hPJ := PJ_start hr (f1 m hm).2
  have hp0 : PI d out [] m (d.reaches.length - 1) 0 := by
    refine ⟨fun a b => (by rw [List.append_nil]; exact (f1 m hm).2 a b), fun x hx => (by cases hx), fun a b a0 a1 b0 b1 q => ?_, List.Pairwise.nil, Nat.zero_le _⟩
    rcases q with q | ⟨q, q2⟩
    · omega
    · omega
  have hG0 : GR d [] (List.replicate d.reaches.length ([] : List Int)) (d.reaches.length - 1 + 1) := ⟨List.length_replicate, fun a a1 a2 => by omega, fun a b a1 a2 => by omega⟩
  obtain ⟨c1, c2⟩ := rows3 hr hg hall (d.reaches.length - 1) (d.reaches.length + 1) 0 [] m _ (by omega) (by omega) hp0 hG0
  have e1 : IntKind.i64.wrap ((d.reaches.length : Int) - 1) = ((d.reaches.length - 1 : Nat) : Int) := by rw [wrapI (by omega) (by omega)]; omega
  have e2 : upwL d.hours.toNat (d.reaches.length - 1 + 1) = routing_upward d := by unfold routing_upward; rw [show d.reaches.length - 1 + 1 = d.reaches.length by omega]
  rw [e2, List.append_nil] at c1
  have hPl : routing_Plan d out = (match runL (routing_Plan_l1 d) (routing_upward d) (out, m) with | .inl _ => ([], false, 0) | .inr s => (bif decide (((s.1).length : Int) > 4096) then ([], false, 2) else (srt routing_by_1 s.1, true, 0))) := by
    unfold routing_Plan
    rw [(narrow_iff d out).2 hN]
    simp only [bne_self_eq_false, cond_false]
    rw [hm]
    rfl
  have hI : ref22_Intakes d out = (match runI (ref22_Intakes_l0 d out) (d.reaches.length + 1) 0 ((List.replicate d.reaches.length []), ((d.reaches.length - 1 : Nat) : Int)) with | .inl (.inl x_0_0) => ([], false) | .inl (.inr x_0_1) => (x_0_1, true) | .inr s_0 => default) := by
    unfold ref22_Intakes
    rw [e1]
    try rfl
  refine ⟨?_, fun _ => ⟨⟨rfl, by omega, by unfold maxB; omega⟩, fun _ _ => ?_⟩⟩
  · rcases c1 with ⟨gs, m', g, b1, b2, b3, b4⟩ | ⟨⟨y, b1⟩, b2⟩
    · refine .inr ⟨gs, g, PI_end hr b3, by rw [hI, b2], b4, by rw [hPl, b1]⟩
    · exact .inl ⟨by rw [hPl, b1], by rw [hI, b2]⟩
  · rw [e1]
    refine ⟨c2, fun z e => ?_⟩
    rcases c1 with ⟨gs, m', g, b1, b2, b3, b4⟩ | ⟨⟨y, b1⟩, b2⟩
    · rw [b2] at e; cases e
    · rw [b2] at e; cases e
end
end Go.Sx
end
section
namespace Go.Sx
open Go.Proofs Go.Shelf Go.Sort Go.Lib
set_option maxRecDepth 100000
theorem put_run (l : List Order) (x : Order) (hl : l.length ≤ 100000) : runI (ref22_Put_l0 l x) (l.length + 1) 0 0 = .inl (((l.takeWhile fun y => ref22_Before y x).length : Nat) : Int) := by
  have := while_ins (step := ref22_Put_l0 l x) (q := fun y => ref22_Before y x) (fun j s => rfl) hl (l.length + 1) 0 0 (Nat.zero_le _) (by omega)
  simpa using this
theorem put_eq (l : List Order) (x : Order) (hl : l.length ≤ 100000) : ref22_Put l x = ins (fun y => ref22_Before y x) x l := by
  unfold ref22_Put
  rw [put_run l x hl, ins_cut]
  simp
theorem put_p (l : List Order) (x : Order) (hl : l.length ≤ 100000) : ref22_Put_p l x := by
  have ht := tw_le (fun y => ref22_Before y x) l
  refine ⟨while_ok (step := ref22_Put_l0 l x) (p := ref22_Put_l0_p l x) (q := fun y => ref22_Before y x) (fun j s => rfl) hl (fun j s => rfl) _, fun z e => ?_, fun z e => ?_⟩
  · rw [put_run l x hl] at e; cases e
  · rw [put_run l x hl] at e; cases e
    generalize (l.takeWhile fun y => ref22_Before y x).length = k at ht
    simp only [Int.toNat_natCast, List.nil_append, List.drop_zero, List.take_length]
    refine ⟨⟨by omega, by omega, by omega⟩, by unfold maxB; simp; omega, fun _ => ⟨by unfold maxB; simp; omega, fun _ => ⟨⟨by omega, by omega, by omega⟩, by unfold maxB; simp; omega⟩⟩⟩
theorem K_refl (x : Order) : K x x := ⟨rfl, rfl, rfl⟩
theorem nodupK {l : List Order} (h : l.Pairwise fun x y => ¬ K x y) : l.Nodup := List.Pairwise.imp (fun {x y} q (e : x = y) => q (e ▸ K_refl x)) h
theorem olt_tr {a b c : Order} (h1 : olt a b) (h2 : olt b c) : olt a c := by unfold olt at *; omega
theorem put_pair {l : List Order} {x : Order} (hk : ∀ y ∈ l, ¬ K x y) (h : l.Pairwise olt) : (ins (fun y => ref22_Before y x) x l).Pairwise olt := by
  refine ins_pair (R := olt) (fun a b c h1 h2 => olt_tr h1 h2) (fun y hy => ⟨fun q => (before_iff y x).1 q, fun q => ?_⟩) h
  have n1 : ¬ olt y x := fun e => by rw [(before_iff y x).2 e] at q; cases q
  by_cases n2 : olt x y
  · exact n2
  · exact absurd (olt_tri n2 n1) (hk y hy)
section
variable {d : District} {out gs : List Order} {g : List (List Int)}
structure PT (d : District) (out gs : List Order) (r h : Nat) (l : List Order) : Prop where
  asc : l.Pairwise olt
  mem : ∀ x, x ∈ l ↔ x ∈ out ∨ (x ∈ gs ∧ (x.index < (r : Int) ∨ x.index = (r : Int) ∧ x.hour < (h : Int)))
  len : l.length ≤ out.length + r * d.hours.toNat + h
theorem PT.step (ho : Good d out) (hall : ∀ x ∈ out, x.outlet = true) (hF : PFin d out gs) {r h : Nat} {l : List Order} (p : PT d out gs r h l) (hl : l.length ≤ 100000) :
    PT d out gs r (h + 1) (bif decide (glit gs r h > 0) then ref22_Put l { hour := (h : Int), index := (r : Int), litres := glit gs r h, outlet := false } else l) := by
  have hK := fin_keys ho hall hF
  have hKg : gs.Pairwise fun x y => ¬ K x y := (List.pairwise_append.1 hK).2.1
  have hr := ho.right
  have hgl : ∀ x ∈ gs, x.outlet = false := fun x hx => (hF.gate x hx).out
  have hone := fin_one ho hF
  by_cases hv : glit gs r h > 0
  · rw [decide_eq_true hv, cond_true, put_eq l _ hl]
    obtain ⟨x, hx, x1, x2, x3, x4⟩ := glit_ne hKg (show glit gs r h ≠ 0 by omega)
    have ex : ({ hour := (h : Int), index := (r : Int), litres := glit gs r h, outlet := false } : Order) = x := by
      cases x; simp only at x1 x2 x3 x4 ⊢; subst x1 x2 x3 x4; rfl
    rw [ex]
    refine ⟨put_pair (fun y hy k => ?_) p.asc, fun y => ?_, ?_⟩
    · rcases (p.mem y).1 hy with q | ⟨q, q2⟩
      · have := k.2.2; rw [x1, hall y q] at this; cases this
      · have a1 := k.1; have a2 := k.2.1; omega
    · rw [(ins_perm _ x l).mem_iff, List.mem_cons, p.mem y]
      constructor
      · rintro (rfl | q | ⟨q, q2⟩)
        · exact .inr ⟨hx, .inr ⟨x2, by omega⟩⟩
        · exact .inl q
        · exact .inr ⟨q, by omega⟩
      · rintro (q | ⟨q, q2⟩)
        · exact .inr (.inl q)
        · by_cases e : y.index = (r : Int) ∧ y.hour = (h : Int)
          · exact .inl (keys_eq hKg q hx ⟨by omega, by omega, by rw [x1, hgl y q]⟩)
          · exact .inr (.inr ⟨q, by omega⟩)
    · rw [ins_len]; have := p.len; omega
  · rw [decide_eq_false hv, cond_false]
    refine ⟨p.asc, fun y => ?_, by have := p.len; omega⟩
    rw [p.mem y]
    constructor
    · rintro (q | ⟨q, q2⟩)
      · exact .inl q
      · exact .inr ⟨q, by omega⟩
    · rintro (q | ⟨q, q2⟩)
      · exact .inl q
      · refine .inr ⟨q, ?_⟩
        by_cases e : y.index = (r : Int) ∧ y.hour = (h : Int)
        · have := glit_mem hKg q (hgl y q)
          rw [e.1, e.2] at this
          have := (hone y (List.mem_append_right _ q)).litres1
          omega
        · omega
theorem PT.next (hr : Right1 d) (hF : PFin d out gs) {r : Nat} {l : List Order} (p : PT d out gs r d.hours.toNat l) : PT d out gs (r + 1) 0 l := by
  refine ⟨p.asc, fun y => ?_, ?_⟩
  · rw [p.mem y]
    constructor
    · rintro (q | ⟨q, q2⟩)
      · exact .inl q
      · exact .inr ⟨q, by omega⟩
    · rintro (q | ⟨q, q2⟩)
      · exact .inl q
      · have h1 := (hF.gate y q).h1
        have h0 := (hF.gate y q).h0
        have h2 : 1 ≤ (rch d y.index).delay := (hr.reachI (hF.gate y q).i0 (hF.gate y q).i1).delay1
        have := hr.hours1
        exact .inr ⟨q, by omega⟩
  · have := p.len
    rw [Nat.add_mul]; omega
theorem plan_tab (hN : Nar d out) (hall : ∀ x ∈ out, x.outlet = true) (hF : PFin d out gs) (hI : ref22_Intakes d out = (g, true)) (hG : GR d gs g 0) :
    (∃ l, runI (ref22_Plan_l1 d out) g.length 0 ([] ++ out) = .inr l ∧ l = srt routing_by_1 (out ++ gs)) ∧ okI (ref22_Plan_l1 d out) (ref22_Plan_l1_p d out) g.length 0 ([] ++ out) := by
  have hg := hN.good
  have hr := hg.right
  have hH := hr.hours; have hH1 := hr.hours1; have hR := hr.reaches
  have hw := hN.wide
  have hol := hg.len
  have hm : ∀ r : Nat, r ≤ d.reaches.length → r * d.hours.toNat ≤ 1024 := fun r h => by
    have h1 : r * d.hours.toNat ≤ d.reaches.length * d.hours.toNat := Nat.mul_le_mul_right _ h
    have h2 : ((d.reaches.length * d.hours.toNat : Nat) : Int) = (d.reaches.length : Int) * d.hours := by rw [Int.natCast_mul]; congr 1; omega
    omega
  have hI1 : (ref22_Intakes d out).1 = g := by rw [hI]
  have hcell : ∀ r h : Nat, r < d.reaches.length → h < d.hours.toNat → ((((ref22_Intakes d out).1).getD r (default : List Int)).getD h (0 : Int)) = glit gs r h := fun r h h1 h2 => by
    rw [hI1]; exact hG.cel r h (Nat.zero_le _) h1 h2
  have hrowl : ∀ r : Nat, r < d.reaches.length → (((ref22_Intakes d out).1).getD r (default : List Int)).length = d.hours.toNat := fun r h1 => by
    rw [hI1]; exact hG.row r (Nat.zero_le _) h1
  have st2 : ∀ r h l, r < d.reaches.length → h < d.hours.toNat → PT d out gs r h l → l.length ≤ 100000 ∧ ∃ l', ref22_Plan_l2 d out r h l = .inr l' ∧ PT d out gs r (h + 1) l' := fun r h l h1 h2 p => by
    have hl : l.length ≤ 100000 := by have := p.len; have := hm r (by omega); omega
    refine ⟨hl, _, ?_, p.step hg hall hF hl⟩
    unfold ref22_Plan_l2
    rw [hcell r h h1 h2]
    cases decide (glit gs r h > 0) <;> rfl
  have st1 : ∀ r l, r < d.reaches.length → PT d out gs r 0 l → (∃ l', ref22_Plan_l1 d out r l = .inr l' ∧ PT d out gs (r + 1) 0 l') ∧ okI (ref22_Plan_l2 d out r) (ref22_Plan_l2_p d out r) d.hours.toNat 0 l := fun r l h1 p => by
    obtain ⟨l', e, q⟩ := run_J (step := ref22_Plan_l2 d out r) (fun h l => PT d out gs r h l) d.hours.toNat 0 l p fun h l _ hh q => (st2 r h l h1 (by omega) q).2
    refine ⟨⟨l', by unfold ref22_Plan_l1; rw [e], PT.next hr hF (by rw [Nat.zero_add] at q; exact q)⟩, ?_⟩
    refine okI_inv (fun h l => PT d out gs r h l) d.hours.toNat 0 l p fun h l _ hh q => ⟨?_, fun s' e => ?_⟩
    · obtain ⟨q1, _⟩ := st2 r h l h1 (by omega) q
      unfold ref22_Plan_l2_p
      rw [hrowl r h1]
      exact ⟨by omega, fun _ => ⟨by omega, put_p _ _ q1⟩⟩
    · obtain ⟨_, l', e', q'⟩ := st2 r h l h1 (by omega) q
      rw [e'] at e; cases e; exact q'
  have p0 : PT d out gs 0 0 ([] ++ out) := by
    refine ⟨hg.asc, fun x => ?_, by simp⟩
    rw [List.nil_append]
    constructor
    · exact .inl
    · rintro (q | ⟨q, q2⟩)
      · exact q
      · have := (hF.gate x q).i0; have := (hF.gate x q).h0; omega
  rw [hG.len]
  obtain ⟨l', e, q⟩ := run_J (step := ref22_Plan_l1 d out) (fun r l => PT d out gs r 0 l) d.reaches.length 0 _ p0 fun r l _ hh q => (st1 r l (by omega) q).1
  refine ⟨⟨l', e, ?_⟩, ?_⟩
  · have hK := fin_keys hg hall hF
    refine (srt_eq (l := out ++ gs) ?_ q.asc).symm
    refine (List.perm_ext_iff_of_nodup (nodupK (q.asc.imp fun {_ _} a => olt_ne a)) (nodupK hK)).2 fun x => ?_
    rw [q.mem x, List.mem_append]
    constructor
    · rintro (a | ⟨a, _⟩)
      · exact .inl a
      · exact .inr a
    · rintro (a | a)
      · exact .inl a
      · exact .inr ⟨a, .inl (by have := (hF.gate x a).i1; omega)⟩
  · refine okI_inv (fun r l => PT d out gs r 0 l) d.reaches.length 0 _ p0 fun r l _ hh q => ⟨?_, fun s' e => ?_⟩
    · exact fun _ => ⟨by omega, (st1 r l (by omega) q).2⟩
    · obtain ⟨⟨l', e', q'⟩, _⟩ := st1 r l (by omega) q
      rw [e'] at e; cases e; exact q'
theorem wide22 (hr : Right1 d) : ref22_Wide d = decide ((d.reaches.length : Int) * d.hours > 1024) := by
  have hm := mul_hours hr
  unfold ref22_Wide
  rw [wrapI (by omega) (by omega)]
theorem gates_iff (out : List Order) : runI (ref22_Plan_l0 out) out.length 0 () = .inr () ↔ ∀ x ∈ out, x.outlet = true := by
  rw [unit_iff]
  unfold ref22_Plan_l0
  constructor
  · intro h x hx
    obtain ⟨k, hk, rfl⟩ := List.getElem_of_mem hx
    have := h k hk
    rw [getD_el out default hk] at this
    cases ho : out[k].outlet with
    | true => rfl
    | false => rw [ho] at this; cases this
  · intro h k hk
    rw [getD_el out default hk, h _ (List.getElem_mem hk)]; rfl
theorem plan22 (d : District) (out : List Order) : ref22_Plan d out = routing_Plan d out ∧ ref22_Plan_p d out := by
  have hcs := check_same d out
  by_cases hc : routing_Check d out = 0
  · have hgd := good_of hc
    have hr := hgd.right
    have hw := wide22 hr
    by_cases hwd : (d.reaches.length : Int) * d.hours > 1024
    · rw [decide_eq_true hwd] at hw
      have hn : routing_narrow d out = 2 := by
        have hm := mul_hours hr
        unfold routing_narrow
        rw [hc, wrapI (by omega) (by omega), decide_eq_true hwd]; rfl
      refine ⟨?_, order22_p d out, fun _ q => by rw [hw] at q; cases q⟩
      unfold ref22_Plan routing_Plan
      rw [← hcs, hc, hw, hn]; rfl
    · rw [decide_eq_false hwd] at hw
      have hN : Nar d out := ⟨hgd, by omega⟩
      have hn := (narrow_iff d out).2 hN
      by_cases hall : ∀ x ∈ out, x.outlet = true
      · have hga := (gates_iff out).2 hall
        obtain ⟨hI, hIp⟩ := intakes hN hall
        rcases hI with ⟨e1, e2⟩ | ⟨gs, g, hF, e1, hG, e2⟩
        · refine ⟨?_, order22_p d out, fun _ _ _ _ => ⟨hIp, fun q => by rw [e2] at q; cases q⟩⟩
          rw [e1]
          unfold ref22_Plan
          rw [← hcs, hc, hw, hga, e2]; rfl
        · obtain ⟨⟨l, t1, t2⟩, t3⟩ := plan_tab hN hall hF e1 hG
          have hlen : l.length = (out ++ gs).length := by rw [t2, (srt_perm _).length_eq]
          refine ⟨?_, order22_p d out, fun _ _ _ _ => ⟨hIp, fun q => ⟨?_, fun _ => ?_⟩⟩⟩
          · rw [e2]
            unfold ref22_Plan
            rw [← hcs, hc, hw, hga]
            simp only [bne_self_eq_false, cond_false]
            rw [e1]
            simp only [Bool.not_true, cond_false]
            rw [t1]
            simp only [hlen]
            rw [t2]
          · have := hgd.len; unfold maxB; simp; omega
          · rw [e1]; exact t3
      · have hga : ∃ u, runI (ref22_Plan_l0 out) out.length 0 () = .inl u := by
          cases e : runI (ref22_Plan_l0 out) out.length 0 () with
          | inl u => exact ⟨u, rfl⟩
          | inr u => exact absurd ((gates_iff out).1 e) hall
        obtain ⟨u, hu⟩ := hga
        refine ⟨?_, order22_p d out, fun _ _ s e => by rw [hu] at e; cases e⟩
        rcases plan_cases d out with ⟨q, _⟩ | ⟨_, _, q⟩ | ⟨_, q, _⟩ | ⟨_, q, _⟩ | ⟨_, q, _⟩
        · exact absurd hn q
        · rw [q]
          unfold ref22_Plan
          rw [← hcs, hc, hw, hu]; rfl
        · exact absurd q hall
        · exact absurd q hall
        · exact absurd q hall
  · have hn : routing_narrow d out = routing_Check d out := by
      unfold routing_narrow
      rw [show (routing_Check d out == 0) = false by rw [beq_eq_false_iff_ne]; exact hc]; rfl
    have hb : (routing_Check d out != 0) = true := by simpa using hc
    refine ⟨?_, order22_p d out, fun q => by rw [← hcs, hb] at q; cases q⟩
    unfold ref22_Plan routing_Plan
    rw [← hcs, hn, hb]; rfl
end
end Go.Sx
end
section
namespace Go.Sx
open Go.Proofs
set_option maxRecDepth 100000
set_option linter.unusedSimpArgs false
def law22_RoutingPlanSpec (d : District) (l_ : List Order) : Bool := (bif (!law22_sane) then false else (bif (!(ref22_Few d l_)) then true else (((((routing_Check d l_) == (ref22_Check d l_)) && (ref22_Same ((routing_Plan d l_).1) ((ref22_Plan d l_).1))) && ((routing_Plan d l_).2.1 == (ref22_Plan d l_).2.1)) && ((routing_Plan d l_).2.2 == (ref22_Plan d l_).2.2))))
def law22_RoutingPlanSpec_p (d : District) (l_ : List Order) : Prop := ((law22_sane_p) ∧ ((!law22_sane) = false → ((!(ref22_Few d l_)) = false → ((routing_Plan_p d l_) ∧ ((ref22_Plan_p d l_) ∧ ((routing_Check_p d l_) ∧ ((ref22_Check_p d l_) ∧ (((routing_Check d l_) == (ref22_Check d l_)) = true → (ref22_Same_p ((routing_Plan d l_).1) ((ref22_Plan d l_).1))))))))))
@[go_sem] def C_law22_RoutingPlanSpec : List SV → Option Con := (pD .district fun d => (pR .order fun l_ => (pE (.det (law22_RoutingPlanSpec_p d l_) (.v (.bool (law22_RoutingPlanSpec d l_)))))))
theorem ok_law22_RoutingPlanSpec : FnOk Tryz.prog 3 C_law22_RoutingPlanSpec := by
  have hG : ConsOk Tryz.prog (mkG [(4, C_law22_sane), (5, fun l => C_ref22_Few (nrmA [.st .district, .sl .order] l)), (6, fun l => C_routing_Plan (nrmA [.st .district, .sl .order] l)), (7, fun l => C_ref22_Plan (nrmA [.st .district, .sl .order] l)), (8, fun l => C_routing_Check (nrmA [.st .district, .sl .order] l)), (9, fun l => C_ref22_Check (nrmA [.st .district, .sl .order] l)), (10, fun l => C_ref22_Same (nrmA [.sl .order, .sl .order] l))] []) := mkG_ok (cgc ok_law22_sane (cgc (ok_ref22_Few.norm [.st .district, .sl .order]) (cgc (ok_routing_Plan.norm [.st .district, .sl .order]) (cgc (ok_ref22_Plan.norm [.st .district, .sl .order]) (cgc (ok_routing_Check.norm [.st .district, .sl .order]) (cgc (ok_ref22_Check.norm [.st .district, .sl .order]) (cgc (ok_ref22_Same.norm [.sl .order, .sl .order]) cg0))))))) cg0
  refine fn_okN [.o] mixed ts_ok hG (fn := Tryz.f3) (c := bodyOf Tryz.f3) (by kernel_rfl) (by kernel_rfl) (by kernel_rfl) (by kernel_rfl) (pD_all fun d => (pR_all fun l_ => (pE_all (fun hp => ?_))))
  dsimp only [conPre] at hp
  unfold law22_RoutingPlanSpec_p at hp
  refine ⟨Nat.le_of_ble_eq_true rfl, L0, loopsOk0 _, ?_⟩
  · unfold bodyOf Tryz.f3
    try unfold law22_RoutingPlanSpec
    simp only [go_sem, Nat.reduceBEq, Nat.reduceLeDiff, Nat.reduceLT, decide_true, Nat.reduceAdd, Nat.reduceSub, Nat.reduceMul, Int.reduceLE, Int.reduceLT, Int.reduceToNat, Int.reduceNeg, reduceCtorEq]
    all_goals exact cl
end Go.Sx
end
section
namespace Go.Sx
open Go.Proofs Go.Shelf Go.Sort Go.Lib
theorem same_refl (l : List Order) : ref22_Same l l = true := by
  unfold ref22_Same
  rw [bne_self_eq_false, cond_false]
  rw [runI_none fun j _ _ => by
    unfold ref22_Same_l0
    simp only [beq_self_eq_true, Bool.and_self, Bool.not_true, cond_false]]
theorem pspec_t (d : District) (l : List Order) : law22_RoutingPlanSpec d l = true := by
  unfold law22_RoutingPlanSpec
  rw [sane_t, (plan22 d l).1, check_same, same_refl]
  simp only [beq_self_eq_true, Bool.and_self, Bool.not_true, cond_false]
  cases ref22_Few d l <;> rfl
theorem pspec_p (d : District) (l : List Order) : law22_RoutingPlanSpec_p d l :=
  ⟨sane_p, fun _ _ => ⟨plan_p d l, (plan22 d l).2, routing_pt d l, order22_p d l, fun _ => same_p _ _⟩⟩
end Go.Sx
end
section
namespace Go.Sx
open Go.RowKit Go.Deep
section
variable {F : Nat → Prop} {own : Own} {w : World}
def RC (F : Nat → Prop) (own : Own) (w : World) (ks : List Kd) (cs : List Value) : Prop :=
  ∃ l : List SV, fits ks l = true ∧ l.length = cs.length ∧ ∀ (j : Nat) (s : SV) (v : Value), l[j]? = some s → cs[j]? = some v → Rel F own w s v
theorem fits_app : ∀ {a b : List Kd} {l m : List SV}, fits a l = true → fits b m = true → fits (a ++ b) (l ++ m) = true
  | [], b, l, m, h1, h2 => by rw [fits_nil h1]; exact h2
  | k :: a, b, l, m, h1, h2 => by
    obtain ⟨x, r, rfl, e1, e2⟩ := fits_cons h1
    simp only [List.cons_append, fits, e1, fits_app e2 h2, Bool.and_self]
theorem RC.nil : RC F own w [] [] := ⟨[], rfl, rfl, fun j s v h => by cases h⟩
theorem RC.app {a b : List Kd} {c d : List Value} (h1 : RC F own w a c) (h2 : RC F own w b d) : RC F own w (a ++ b) (c ++ d) := by
  obtain ⟨l, f1, n1, r1⟩ := h1
  obtain ⟨m, f2, n2, r2⟩ := h2
  refine ⟨l ++ m, fits_app f1 f2, by simp [n1, n2], fun j s v hs hv => ?_⟩
  by_cases hj : j < l.length
  · rw [List.getElem?_append_left hj] at hs
    rw [List.getElem?_append_left (by omega)] at hv
    exact r1 j s v hs hv
  · rw [List.getElem?_append_right (by omega)] at hs
    rw [List.getElem?_append_right (by omega), ← n1] at hv
    exact r2 _ s v hs hv
theorem RC.one {k : Kd} {s : SV} {v : Value} (h1 : fit k s = true) (h2 : Rel F own w s v) : RC F own w [k] [v] :=
  ⟨[s], by simp [fits, h1], rfl, fun j s' v' hs hv => by
    cases j with
    | zero => simp only [List.getElem?_cons_zero, Option.some.injEq] at hs hv; subst hs; subst hv; exact h2
    | succ j => simp at hs⟩
end
def eqKd : Kd → Kd → Bool
  | .s, .s => true
  | .b, .b => true
  | .n a, .n b => decide (a = b)
  | .r a, .r b => decide (a = b)
  | .m a c, .m b d => decide (a = b) && decide (c = d)
  | _, _ => false
theorem eqKd_ok : ∀ {a b : Kd}, eqKd a b = true → a = b := by
  intro a b h
  cases a <;> cases b <;> simp_all [eqKd]
def eqKs : List Kd → List Kd → Bool
  | [], [] => true
  | a :: l, b :: m => eqKd a b && eqKs l m
  | _, _ => false
theorem eqKs_ok : ∀ {a b : List Kd}, eqKs a b = true → a = b
  | [], [], _ => rfl
  | a :: l, b :: m, h => by
    simp only [eqKs, Bool.and_eq_true] at h
    rw [eqKd_ok h.1, eqKs_ok h.2]
def kindsF (P : Program) (g : TypeId → Option (List Kd)) : List Field → Nat → Nat → Option (List Kd)
  | [], off, tot => bif Nat.beq off tot then some [] else none
  | f :: r, off, tot => match g f.type with
    | some a => bif Nat.beq f.offset off && Nat.beq a.length (P.cellsOf f.type) then (kindsF P g r (off + a.length) tot).map (a ++ ·) else none
    | none => none
def kindsA (a : List Kd) : Nat → List Kd
  | 0 => []
  | n + 1 => a ++ kindsA a n
def kindsT (P : Program) : Nat → TypeId → Option (List Kd)
  | 0, _ => none
  | n + 1, t => match P.underlying t with
    | some .bool => some [.b]
    | some (.int k) => some [.n k]
    | some .string => some [.s]
    | some (.slice e) => match tagT P e, kindsT P n e with
      | some k, some ks => bif eqKs ks (kindsOf k) && Nat.beq (P.cellsOf e) (sizeOfTag k) && Nat.ble 1 (sizeOfTag k) then some [.r k] else none
      | _, _ => none
    | some (.struct fs) => kindsF P (kindsT P n) fs.toList 0 (P.cellsOf t)
    | some (.array m e) => match kindsT P n e with
      | some a => bif Nat.beq a.length (P.cellsOf e) && Nat.beq (P.cellsOf t) (m * a.length) then some (kindsA a m) else none
      | none => none
    | _ => none
section
variable {H : Type} {enc : TypeId × Value → H} {P : Program} {F : Nat → Prop} {own : Own} {w : World} {base : Nat} {spare : Nat → Bool} {held : Bool} {S : DataW H → Prop}
theorem kF_read {g : TypeId → Option (List Kd)} (hg : ∀ t ks, g t = some ks → ∀ (fuel : Nat) (cs : List Value) (x : DataW H × List MemPlace), DataW.trod enc P w base spare held fuel t cs = some x → S x.1 → RC F own w ks cs)
    (fuel : Nat) (cs : List Value) : ∀ (fs : List Field) (off : Nat) (ks : List Kd), kindsF P g fs off cs.length = some ks → (∀ f ∈ fs, ∃ x, DataW.trod enc P w base spare held fuel f.type ((cs.drop f.offset).take (P.cellsOf f.type)) = some x ∧ S x.1) → RC F own w ks (cs.drop off)
  | [], off, ks, h, _ => by
    unfold kindsF at h
    cases hb : Nat.beq off cs.length with
    | false => rw [hb] at h; cases h
    | true =>
      rw [hb] at h
      have : off = cs.length := Nat.eq_of_beq_eq_true hb
      subst this
      cases h
      rw [List.drop_length]
      exact RC.nil
  | f :: r, off, ks, h, hx => by
    unfold kindsF at h
    cases ha : g f.type with
    | none => rw [ha] at h; cases h
    | some a =>
      rw [ha] at h
      dsimp only at h
      cases hb : Nat.beq f.offset off && Nat.beq a.length (P.cellsOf f.type) with
      | false => rw [hb] at h; cases h
      | true =>
        rw [hb] at h
        simp only [cond_true, Option.map_eq_some_iff] at h
        obtain ⟨ks2, h2, rfl⟩ := h
        rw [Bool.and_eq_true] at hb
        have e1 : f.offset = off := Nat.eq_of_beq_eq_true hb.1
        have e2 : a.length = P.cellsOf f.type := Nat.eq_of_beq_eq_true hb.2
        obtain ⟨x, hx1, hs1⟩ := hx f (by simp)
        have h3 := hg _ _ ha _ _ _ hx1 hs1
        have h4 := kF_read hg fuel cs r (off + a.length) ks2 h2 fun f hf => hx f (by simp [hf])
        have := h3.app h4
        rw [e1, ← e2] at this
        rwa [← List.drop_drop, List.take_append_drop] at this
theorem kA_read {e : TypeId} {a : List Kd} (ha : ∀ (fuel : Nat) (cs : List Value) (x : DataW H × List MemPlace), DataW.trod enc P w base spare held fuel e cs = some x → S x.1 → RC F own w a cs)
    (fuel : Nat) : ∀ (m : Nat) (cs : List Value), cs.length = m * a.length → (∀ i, i < m → ∃ x, DataW.trod enc P w base spare held fuel e ((cs.drop (i * a.length)).take a.length) = some x ∧ S x.1) → RC F own w (kindsA a m) cs
  | 0, cs, h, _ => by
    have : cs = [] := by simpa using h
    subst this
    exact RC.nil
  | m + 1, cs, h, hx => by
    obtain ⟨x, hx1, hs1⟩ := hx 0 (by omega)
    rw [Nat.zero_mul, List.drop_zero] at hx1
    have h3 := ha _ _ _ hx1 hs1
    have h4 := kA_read ha fuel m (cs.drop a.length) (by rw [List.length_drop, h, Nat.succ_mul]; omega) fun i hi => by
      obtain ⟨x, hx2, hs2⟩ := hx (i + 1) (by omega)
      refine ⟨x, ?_, hs2⟩
      rw [List.drop_drop]
      rwa [Nat.succ_mul, Nat.add_comm] at hx2
    have := h3.app h4
    rwa [List.take_append_drop] at this
structure Small (S : DataW H → Prop) : Prop where
  agg : ∀ l, S (.agg l) → ∀ d ∈ l, S d
  slice : ∀ l m, S (.slice l m) → l.length ≤ maxL ∧ ∀ d ∈ l, S d
theorem kinds_read (hS : Small S) (hown : ∀ b, ¬ ownB F own b) : ∀ (n : Nat) (t : TypeId) (ks : List Kd), kindsT P n t = some ks → ∀ (fuel : Nat) (cs : List Value) (x : DataW H × List MemPlace), DataW.trod enc P w base spare held fuel t cs = some x → S x.1 → RC F own w ks cs
  | 0, _, _, h, _, _, _, _, _ => by cases h
  | n + 1, t, ks, h, fuel, cs, x, hx, hs => by
    unfold kindsT at h
    split at h
    · rename_i ht
      cases h
      obtain ⟨b, rfl, rfl⟩ := DataW.trod_bool ht hx
      exact RC.one (s := .v (.bool b)) rfl (.v _)
    · rename_i k ht
      cases h
      obtain ⟨m, rfl, rfl, _⟩ := DataW.trod_int ht hx
      exact RC.one (s := .v (.int k m)) (by simp [fit]) (.v _)
    · rename_i ht
      cases h
      obtain ⟨b, rfl, rfl, _⟩ := DataW.trod_string ht hx
      exact RC.one (s := .v (.string b)) rfl (.v _)
    · rename_i e ht
      split at h
      · rename_i k ks2 hk hks
        cases hb : eqKs ks2 (kindsOf k) && Nat.beq (P.cellsOf e) (sizeOfTag k) && Nat.ble 1 (sizeOfTag k) with
        | false => rw [hb] at h; cases h
        | true =>
          rw [hb] at h
          cases h
          simp only [Bool.and_eq_true] at hb
          have e1 := eqKs_ok hb.1.1
          have e2 : P.cellsOf e = sizeOfTag k := Nat.eq_of_beq_eq_true hb.1.2
          have e3 : 1 ≤ sizeOfTag k := Nat.le_of_ble_eq_true hb.2
          subst e1
          rcases open_slice ht hx with ⟨rfl, rfl⟩ | ⟨a, len, cap, m, f2, D, Pl, rfl, hb1, hl, hm, hmm, rfl, hel⟩
          · exact RC.one (s := .rs k []) (by simp [fit]) .rs0
          · have hlm : len ≤ m := by subst hmm; split <;> omega
            obtain ⟨hs1, hs2⟩ := hS.slice _ _ hs
            simp only [List.length_map, List.length_range] at hs1
            have helt : ∀ i, i < len → ∃ cs', cs'.length = sizeOfTag k ∧ (∀ j v, cs'[j]? = some v → w.cell? ((a.add (i * sizeOfTag k)).add j) = some v) ∧ RC F own w (kindsOf k) cs' := fun i hi => by
              obtain ⟨cs', h1, h2⟩ := hel i (by omega)
              have h3 := kinds_read hS hown n e (kindsOf k) hks f2 cs' _ h2 (hs2 _ (List.mem_map_of_mem (List.mem_range.2 hi)))
              unfold World.cells? at h1
              split at h1
              · refine ⟨cs', by rw [mapM_some_length h1, List.length_range, e2], fun j v hj => ?_, h3⟩
                have hlt : j < P.cellsOf e := by
                  have := (List.getElem?_eq_some_iff.1 hj).1
                  rwa [mapM_some_length h1, List.length_range] at this
                have := mapM_some_get h1 j j (by simp [hlt])
                rw [e2] at this
                rw [this, hj]
              · cases h1
            by_cases h0 : len = 0
            · subst h0
              exact RC.one (s := .rs k []) (by simp [fit]) .rs0
            · have hsp : a.spot = none := by
                obtain ⟨cs', h1, h2, _⟩ := helt 0 (by omega)
                have := h2 0 (cs'[0]'(by omega)) (by rw [List.getElem?_eq_getElem])
                rw [Nat.zero_mul] at this
                simp only [Addr.add, if_true] at this
                unfold World.cell? at this
                split at this
                · cases hsp : a.spot with
                  | none => rfl
                  | some q => rw [hsp] at this; simp at this
                · cases this
              obtain ⟨ab, ao, asp⟩ := a
              dsimp only at hsp
              subst hsp
              haveI : Inhabited k.T := ⟨dflt k⟩
              obtain ⟨X, hX⟩ := choose_lt (p := fun i (x : k.T) => ∀ (j : Nat) (s : SV), (cellsOf k x)[j]? = some s → ∃ v, w.cell? ⟨ab, ao + i * sizeOfTag k + j, none⟩ = some v ∧ Rel F own w s v) (n := len) fun i hi => by
                obtain ⟨cs', h1, h2, l, h3, h4, h5⟩ := helt i hi
                refine ⟨mkE k l, fun j s hj => ?_⟩
                rw [elemO_cells (k := k) (l := l) (x := mkE k l) (by unfold elemO; rw [h3]; rfl)] at hj
                have hlt : j < cs'.length := by
                  have := (List.getElem?_eq_some_iff.1 hj).1
                  omega
                refine ⟨cs'[j], ?_, h5 j s _ hj (List.getElem?_eq_getElem hlt)⟩
                have := h2 j cs'[j] (List.getElem?_eq_getElem hlt)
                have hadd : ∀ p q, ((⟨ab, ao, none⟩ : Addr).add p).add q = ⟨ab, ao + p + q, none⟩ := fun p q => by
                  unfold Addr.add
                  by_cases hp : p = 0 <;> by_cases hq : q = 0 <;> simp [hp, hq]
                rwa [hadd] at this
              have hL : ((List.range len).map X).length = len := by simp
              refine RC.one (s := .rs k ((List.range len).map X)) (by simp [fit]) ?_
              have hget : ∀ (i : Nat) (x : k.T), ((List.range len).map X)[i]? = some x → i < len ∧ x = X i := fun i x hi => by
                obtain ⟨h1, h2⟩ := List.getElem?_eq_some_iff.1 hi
                rw [hL] at h1
                simp only [List.getElem_map, List.getElem_range] at h2
                subst h2
                exact ⟨h1, rfl⟩
              have := Rel.rs (F := F) (own := own) (w := w) (k := k) (l := (List.range len).map X) (b := ab) (o := ao) (cap := cap) (fun i j => (w.cell? ⟨ab, ao + i * sizeOfTag k + j, none⟩).getD undef) (by rw [hL]; exact hl) (by rw [hL]; exact hs1)
                (fun i x hi j s hj => by
                  obtain ⟨h1, rfl⟩ := hget i x hi
                  obtain ⟨v, h2, _⟩ := hX i h1 j s hj
                  exact ⟨hown _, by rw [h2]; rfl⟩)
                (fun i x hi j s hj => by
                  obtain ⟨h1, rfl⟩ := hget i x hi
                  obtain ⟨v, h2, h3⟩ := hX i h1 j s hj
                  rw [h2]; exact h3)
              rwa [hL] at this
      · cases h
    · rename_i fs ht
      obtain ⟨xs, m, rfl, rfl, hl, hlen, hf⟩ := DataW.trod_struct ht hx
      rw [← hl] at h
      have := kF_read (kinds_read hS hown n) m cs fs.toList 0 ks h fun f hfm => by
        obtain ⟨i, hi, rfl⟩ := List.getElem_of_mem hfm
        have hi' : i < fs.size := by simpa using hi
        have h1 := hf i fs[i] (by simp [hi'])
        rw [List.getElem?_eq_getElem (by omega)] at h1
        refine ⟨_, by simpa using h1, hS.agg _ hs _ (List.mem_map_of_mem (List.getElem_mem _))⟩
      simpa using this
    · rename_i m e ht
      split at h
      · rename_i a ha
        cases hb : Nat.beq a.length (P.cellsOf e) && Nat.beq (P.cellsOf t) (m * a.length) with
        | false => rw [hb] at h; cases h
        | true =>
          rw [hb] at h
          cases h
          rw [Bool.and_eq_true] at hb
          have e1 : a.length = P.cellsOf e := Nat.eq_of_beq_eq_true hb.1
          have e2 : P.cellsOf t = m * a.length := Nat.eq_of_beq_eq_true hb.2
          obtain ⟨xs, f2, rfl, rfl, hl, hlen, hf⟩ := DataW.trod_array ht hx
          refine kA_read (kinds_read hS hown n e a ha) f2 m cs (by rw [hl, e2]) fun i hi => ?_
          have h1 := hf i hi
          rw [List.getElem?_eq_getElem (by omega), ← e1] at h1
          exact ⟨_, h1, hS.agg _ hs _ (List.mem_map_of_mem (List.getElem_mem _))⟩
      · cases h
    · cases h
end
end Go.Sx
end
