/- Part of the proof that the law RoutingLeast returns true and leaves its arguments as they were, for all arguments of bulk at most 1048576 (the Upto form). -/
import Derived.Test.YtkblpdepdncnmaaL2210
import Derived.Test.YtkblpdepdncnmaaL2208
import Derived.Test.YtkblpdepdncnmaaL2206
import Derived.Deep.Slices
import Derived.OpenShut
import Derived.Test.YtkblpdepdncnmaaL2207
import Derived.ChangeSame
import Derived.WideKeyArgs
import Derived.Below
import Derived.Test.YtkblpdepdncnmaaRows
import Derived.WalkKit
import Derived.ProofKit
import Derived.JoinedCond
import Derived.Carry
set_option linter.all false
section
namespace Go.Sx
open Go.Proofs
set_option maxRecDepth 100000
set_option linter.unusedSimpArgs false
theorem crSxR7_0 {p : Prop} (h : p := by (first | done | (repeat' (first | with_reducible refine And.intro ?_ ?_ | ((with_reducible show _ ≠ _); first | assumption | omega | (simp_all [outR, outL]; done) | grind) | with_reducible intro _)) <;> (first | done | exact Empty.elim ‹Empty› | assumption | rfl | omega | decide | exact fk [0] | (simp only [*, cond_true, cond_false, Bool.not_true, Bool.not_false, go_sem, Nat.reduceBEq, Nat.reduceLeDiff, Nat.reduceLT, decide_true, Nat.reduceAdd, Nat.reduceSub, Nat.reduceMul, Int.reduceLE, Int.reduceLT, Int.reduceToNat, Int.reduceNeg, reduceCtorEq]; done) | (simp only [*, cond_true, cond_false, Bool.not_true, Bool.not_false, go_sem, Nat.reduceBEq, Nat.reduceLeDiff, Nat.reduceLT, decide_true, Nat.reduceAdd, Nat.reduceSub, Nat.reduceMul, Int.reduceLE, Int.reduceLT, Int.reduceToNat, Int.reduceNeg, reduceCtorEq]; (repeat' (first | with_reducible refine And.intro ?_ ?_ | ((with_reducible show _ ≠ _); first | assumption | omega | (simp_all [outR, outL]; done) | grind) | with_reducible intro _)) <;> (first | done | assumption | rfl | omega | decide | exact fk [0] | (simp_all [outR, outL]; done))) | (simp_all [okI, outR, outL]; done) | (simp_all [outR, outL]; (first | done | exact fk2 [0])) | exact fk2 [0]))) : p := h
theorem crSxR7_1 {p : Prop} (h : p := by (first | done | (repeat' (first | with_reducible refine And.intro ?_ ?_ | ((with_reducible show _ ≠ _); first | assumption | omega | (simp_all [outR, outL]; done) | grind) | with_reducible intro _)) <;> (first | done | exact Empty.elim ‹Empty› | assumption | rfl | omega | decide | exact fk [0, 1, 2] | (simp only [*, cond_true, cond_false, Bool.not_true, Bool.not_false, go_sem, Nat.reduceBEq, Nat.reduceLeDiff, Nat.reduceLT, decide_true, Nat.reduceAdd, Nat.reduceSub, Nat.reduceMul, Int.reduceLE, Int.reduceLT, Int.reduceToNat, Int.reduceNeg, reduceCtorEq]; done) | (simp only [*, cond_true, cond_false, Bool.not_true, Bool.not_false, go_sem, Nat.reduceBEq, Nat.reduceLeDiff, Nat.reduceLT, decide_true, Nat.reduceAdd, Nat.reduceSub, Nat.reduceMul, Int.reduceLE, Int.reduceLT, Int.reduceToNat, Int.reduceNeg, reduceCtorEq]; (repeat' (first | with_reducible refine And.intro ?_ ?_ | ((with_reducible show _ ≠ _); first | assumption | omega | (simp_all [outR, outL]; done) | grind) | with_reducible intro _)) <;> (first | done | assumption | rfl | omega | decide | exact fk [0, 1, 2] | (simp_all [outR, outL]; done))) | (simp_all [okI, outR, outL]; done) | (simp_all [outR, outL]; (first | done | exact fk2 [0, 1, 2])) | exact fk2 [0, 1, 2]))) : p := h
theorem crSxR7_2 {p : Prop} (h : p := by (first | done | (repeat' (first | with_reducible refine And.intro ?_ ?_ | ((with_reducible show _ ≠ _); first | assumption | omega | (simp_all [outR, outL]; done) | grind) | with_reducible intro _)) <;> (first | done | exact Empty.elim ‹Empty› | assumption | rfl | omega | decide | exact fk [0, 1, 2, 3] | (simp only [*, cond_true, cond_false, Bool.not_true, Bool.not_false, go_sem, Nat.reduceBEq, Nat.reduceLeDiff, Nat.reduceLT, decide_true, Nat.reduceAdd, Nat.reduceSub, Nat.reduceMul, Int.reduceLE, Int.reduceLT, Int.reduceToNat, Int.reduceNeg, reduceCtorEq]; done) | (simp only [*, cond_true, cond_false, Bool.not_true, Bool.not_false, go_sem, Nat.reduceBEq, Nat.reduceLeDiff, Nat.reduceLT, decide_true, Nat.reduceAdd, Nat.reduceSub, Nat.reduceMul, Int.reduceLE, Int.reduceLT, Int.reduceToNat, Int.reduceNeg, reduceCtorEq]; (repeat' (first | with_reducible refine And.intro ?_ ?_ | ((with_reducible show _ ≠ _); first | assumption | omega | (simp_all [outR, outL]; done) | grind) | with_reducible intro _)) <;> (first | done | assumption | rfl | omega | decide | exact fk [0, 1, 2, 3] | (simp_all [outR, outL]; done))) | (simp_all [okI, outR, outL]; done) | (simp_all [outR, outL]; (first | done | exact fk2 [0, 1, 2, 3])) | exact fk2 [0, 1, 2, 3]))) : p := h
theorem crSxR7_3 {p : Prop} (h : p := by (first | done | (repeat' (first | with_reducible refine And.intro ?_ ?_ | ((with_reducible show _ ≠ _); first | assumption | omega | (simp_all [outR, outL]; done) | grind) | with_reducible intro _)) <;> (first | done | exact Empty.elim ‹Empty› | assumption | rfl | omega | decide | exact fk [0, 1, 2, 3, 4] | (simp only [*, cond_true, cond_false, Bool.not_true, Bool.not_false, go_sem, Nat.reduceBEq, Nat.reduceLeDiff, Nat.reduceLT, decide_true, Nat.reduceAdd, Nat.reduceSub, Nat.reduceMul, Int.reduceLE, Int.reduceLT, Int.reduceToNat, Int.reduceNeg, reduceCtorEq]; done) | (simp only [*, cond_true, cond_false, Bool.not_true, Bool.not_false, go_sem, Nat.reduceBEq, Nat.reduceLeDiff, Nat.reduceLT, decide_true, Nat.reduceAdd, Nat.reduceSub, Nat.reduceMul, Int.reduceLE, Int.reduceLT, Int.reduceToNat, Int.reduceNeg, reduceCtorEq]; (repeat' (first | with_reducible refine And.intro ?_ ?_ | ((with_reducible show _ ≠ _); first | assumption | omega | (simp_all [outR, outL]; done) | grind) | with_reducible intro _)) <;> (first | done | assumption | rfl | omega | decide | exact fk [0, 1, 2, 3, 4] | (simp_all [outR, outL]; done))) | (simp_all [okI, outR, outL]; done) | (simp_all [outR, outL]; (first | done | exact fk2 [0, 1, 2, 3, 4])) | exact fk2 [0, 1, 2, 3, 4]))) : p := h
theorem exSxR7_0 {p : Prop} (h : p := by simp only [go_sem, Nat.reduceBEq, Nat.reduceLeDiff, Nat.reduceLT, decide_true, Nat.reduceAdd, Nat.reduceSub, Nat.reduceMul, Int.reduceLE, Int.reduceLT, Int.reduceToNat, Int.reduceNeg, reduceCtorEq, hc, hw]; all_goals exact crSxR7_0) : p := h
theorem ezSxR7_0 {p : Prop} (h : p := by simp only [go_sem, Nat.reduceBEq, Nat.reduceLeDiff, Nat.reduceLT, decide_true, Nat.reduceAdd, Nat.reduceSub, Nat.reduceMul, Int.reduceLE, Int.reduceLT, Int.reduceToNat, Int.reduceNeg, reduceCtorEq, hc]; all_goals exact crSxR7_0) : p := h
theorem exSxR7_1 {p : Prop} (h : p := by simp only [go_sem, Nat.reduceBEq, Nat.reduceLeDiff, Nat.reduceLT, decide_true, Nat.reduceAdd, Nat.reduceSub, Nat.reduceMul, Int.reduceLE, Int.reduceLT, Int.reduceToNat, Int.reduceNeg, reduceCtorEq, hc, hw]; all_goals exact crSxR7_1) : p := h
theorem ezSxR7_1 {p : Prop} (h : p := by simp only [go_sem, Nat.reduceBEq, Nat.reduceLeDiff, Nat.reduceLT, decide_true, Nat.reduceAdd, Nat.reduceSub, Nat.reduceMul, Int.reduceLE, Int.reduceLT, Int.reduceToNat, Int.reduceNeg, reduceCtorEq, hc]; all_goals exact crSxR7_1) : p := h
def ref19_Few (d : District) : Bool := ((((((decide ((d.reaches.length : Int) ≤ 100)) && (decide ((d.farms.length : Int) ≤ 700))) && (decide ((d.crops.length : Int) ≤ 100))) && (decide ((d.rights.length : Int) ≤ 300))) && (decide ((d.duties.length : Int) ≤ 300))) && (decide ((d.wells.length : Int) ≤ 100)))
@[go_sem] def C_ref19_Few : List SV → Option Con := (pD .district fun d => (pE (.det True (.v (.bool (ref19_Few d))))))
theorem ok_ref19_Few : FnOk Try.prog 26 C_ref19_Few := by
  have hG : ConsOk Try.prog (mkG [] []) := mkG_ok cg0 cg0
  refine fn_okN [.o] mixed ts_ok hG (fn := Try.f26) (c := bodyOf Try.f26) (by kernel_rfl) (by kernel_rfl) (by kernel_rfl) (by kernel_rfl) (pD_all fun d => (pE_all (fun hp => ?_)))
  dsimp only [conPre] at hp
  refine ⟨Nat.le_of_ble_eq_true rfl, L0, loopsOk0 _, ?_⟩
  · unfold bodyOf Try.f26
    try unfold ref19_Few
    simp only [go_sem, Nat.reduceBEq, Nat.reduceLeDiff, Nat.reduceLT, decide_true, Nat.reduceAdd, Nat.reduceSub, Nat.reduceMul, Int.reduceLE, Int.reduceLT, Int.reduceToNat, Int.reduceNeg, reduceCtorEq]
    all_goals exact cl
def ref22_Few (d : District) (l_ : List Order) : Bool := (bif ((!(ref19_Few d)) || ((decide ((l_.length : Int) > 150)) && ((decide ((l_.length : Int) ≤ 4096)) || (decide ((l_.length : Int) > 5000))))) then false else (bif (((decide (d.hours < 1)) || (decide (d.hours > 4096))) || (decide ((d.reaches.length : Int) > 64))) then true else ((decide ((IntKind.i64.wrap ((d.reaches.length : Int) * d.hours)) ≤ 200)) || (decide ((IntKind.i64.wrap ((d.reaches.length : Int) * d.hours)) > 1024)))))
@[go_sem] def C_ref22_Few : List SV → Option Con := (pD .district fun d => (pR .order fun l_ => (pE (.det True (.v (.bool (ref22_Few d l_)))))))
theorem ok_ref22_Few : FnOk Try.prog 8 C_ref22_Few := by
  have hG : ConsOk Try.prog (mkG [(26, fun l => C_ref19_Few (nrmA [.st .district] l))] []) := mkG_ok (cgc (ok_ref19_Few.norm [.st .district]) cg0) cg0
  refine fn_okN [.o] mixed ts_ok hG (fn := Try.f8) (c := bodyOf Try.f8) (by kernel_rfl) (by kernel_rfl) (by kernel_rfl) (by kernel_rfl) (pD_all fun d => (pR_all fun l_ => (pE_all (fun hp => ?_))))
  dsimp only [conPre] at hp
  refine ⟨Nat.le_of_ble_eq_true rfl, L0, loopsOk0 _, ?_⟩
  · unfold bodyOf Try.f8
    try unfold ref22_Few
    simp only [go_sem, Nat.reduceBEq, Nat.reduceLeDiff, Nat.reduceLT, decide_true, Nat.reduceAdd, Nat.reduceSub, Nat.reduceMul, Int.reduceLE, Int.reduceLT, Int.reduceToNat, Int.reduceNeg, reduceCtorEq]
    all_goals exact cl
@[go_sem] def law22_contains_l0 (l_ : List Order) (k_0 : Nat) (s_0 : List (Order × Bool)) : Empty ⊕ (List (Order × Bool)) := .inr (mupdT .order .bool s_0 (l_.getD k_0 (default : Order)) true)
@[go_sem] def law22_contains_l1 (part : List Order) (s_0 : List (Order × Bool)) (k_1 : Nat) (s_1 : Unit) : Unit ⊕ Unit := (bif (!(mgetT .order .bool s_0 (part.getD k_1 (default : Order)))) then .inl () else .inr ())
def law22_contains (l_ : List Order) (part : List Order) : Bool := (match runI (law22_contains_l0 l_) l_.length 0 ([]) with | .inl x => x.elim | .inr s_0 => (match runI (law22_contains_l1 part s_0) part.length 0 () with | .inl x_1_0 => false | .inr s_1 => true))
@[go_sem] def C_law22_contains : List SV → Option Con := (pR .order fun l_ => (pR .order fun part => (pE (.det True (.v (.bool (law22_contains l_ part)))))))
set_option maxHeartbeats 4000000 in
theorem ok_law22_contains : FnOk Try.prog 11 C_law22_contains := by
  have hG : ConsOk Try.prog (mkG [] []) := mkG_ok cg0 cg0
  refine fn_okN [.o] mixed ts_ok hG (fn := Try.f11) (c := bodyOf Try.f11) (by kernel_rfl) (by kernel_rfl) (by kernel_rfl) (by kernel_rfl) (pR_all fun l_ => (pR_all fun part => (pE_all (fun hp => ?_))))
  dsimp only [conPre] at hp
  refine ⟨Nat.le_of_ble_eq_true rfl, (fun id st => bif Nat.beq id 0 then some (LCR (ρ := Empty) (σ := (List (Order × Bool))) 1 [] [0] (fun k_0 s_0 => ⟨[(1, .rs .order part), (5, .os 0), (11, .rs .order l_), (12, .v (.int .i64 (l_.length : Int))), (13, .v (.int .i64 (k_0 : Int)))], [.mp .order .bool s_0 none]⟩) (law22_contains_l0 l_) pT l_.length ([]) (l_.length ≤ maxL) ((·.elim)) ((·.elim)) st) else bif Nat.beq id 2 then some (LCR (ρ := Unit) (σ := Unit) 1 [] [0] (fun k_1 s_1 => ⟨[(5, .os 0), (20, .rs .order part), (21, .v (.int .i64 (part.length : Int))), (22, .v (.int .i64 (k_1 : Int)))], [.mp .order .bool (outR (runI (law22_contains_l0 l_) l_.length 0 ([]))) none]⟩) (law22_contains_l1 part (outR (runI (law22_contains_l0 l_) l_.length 0 ([])))) pT part.length () (part.length ≤ maxL) (fun _ => .ret) (fun x_1_0 => ⟨[(4, .v (.bool false))], [.dead]⟩) st) else none), ?_, ?_⟩
  · unfold bodyOf Try.f11
    simp only [loopsOk, true_and, and_true]
    refine ⟨?_, ?_⟩
    · refine loopR_ok mixed ts_ok hG (by kernel_rfl) (fun _ => rfl) (l_.length : Int) rfl lenB (fun hb0 k_0 s_0 hlt0 _ hw hc => ⟨L0, loopsOk0 _, ?_⟩) (fun hb0 s_0 hc => ?_)
      · exact exSxR7_0
      · exact ezSxR7_0
    · refine loopR_ok mixed ts_ok hG (by kernel_rfl) (fun _ => rfl) (part.length : Int) rfl lenB (fun hb1 k_1 s_1 hlt1 _ hw hc => ⟨L0, loopsOk0 _, ?_⟩) (fun hb1 s_1 hc => ?_)
      · exact exSxR7_0
      · exact ezSxR7_0
  · unfold bodyOf Try.f11
    try unfold law22_contains
    simp only [go_sem, Nat.reduceBEq, Nat.reduceLeDiff, Nat.reduceLT, decide_true, Nat.reduceAdd, Nat.reduceSub, Nat.reduceMul, Int.reduceLE, Int.reduceLT, Int.reduceToNat, Int.reduceNeg, reduceCtorEq]
    all_goals exact cl
def law22_known (d : District) (x : Order) : Bool := (bif x.outlet then ((decide (x.index ≥ 0)) && (decide (x.index < (d.farms.length : Int)))) else ((decide (x.index ≥ 0)) && (decide (x.index < (d.reaches.length : Int)))))
@[go_sem] def C_law22_known : List SV → Option Con := (pD .district fun d => (pD .order fun x => (pE (.det True (.v (.bool (law22_known d x)))))))
theorem ok_law22_known : FnOk Try.prog 33 C_law22_known := by
  have hG : ConsOk Try.prog (mkG [] []) := mkG_ok cg0 cg0
  refine fn_okN [.o] mixed ts_ok hG (fn := Try.f33) (c := bodyOf Try.f33) (by kernel_rfl) (by kernel_rfl) (by kernel_rfl) (by kernel_rfl) (pD_all fun d => (pD_all fun x => (pE_all (fun hp => ?_))))
  dsimp only [conPre] at hp
  refine ⟨Nat.le_of_ble_eq_true rfl, L0, loopsOk0 _, ?_⟩
  · unfold bodyOf Try.f33
    try unfold law22_known
    simp only [go_sem, Nat.reduceBEq, Nat.reduceLeDiff, Nat.reduceLT, decide_true, Nat.reduceAdd, Nat.reduceSub, Nat.reduceMul, Int.reduceLE, Int.reduceLT, Int.reduceToNat, Int.reduceNeg, reduceCtorEq]
    all_goals exact cl
@[go_sem] def law22_siphons_l0 (d : District) (l_ : List Order) (k_0 : Nat) (s_0 : Unit) : Unit ⊕ Unit := (bif ((!(law22_known d (l_.getD k_0 (default : Order)))) || ((!(l_.getD k_0 (default : Order)).outlet) && (decide ((l_.getD k_0 (default : Order)).litres < (d.reaches.getD (Int.toNat ((l_.getD k_0 (default : Order)).index)) (default : Reach)).siphon)))) then .inl () else .inr ())
def law22_siphons_l0_p (d : District) (l_ : List Order) (k_0 : Nat) (s_0 : Unit) : Prop := ((!(law22_known d (l_.getD k_0 (default : Order)))) = false → ((!(l_.getD k_0 (default : Order)).outlet) = true → (0 ≤ (l_.getD k_0 (default : Order)).index ∧ (l_.getD k_0 (default : Order)).index < (d.reaches.length : Int))))
def law22_siphons (d : District) (l_ : List Order) : Bool := (match runI (law22_siphons_l0 d l_) l_.length 0 () with | .inl x_0_0 => false | .inr s_0 => true)
def law22_siphons_p (d : District) (l_ : List Order) : Prop := (l_.length ≤ maxL → okI (law22_siphons_l0 d l_) (law22_siphons_l0_p d l_) l_.length 0 ())
@[go_sem] def C_law22_siphons : List SV → Option Con := (pD .district fun d => (pR .order fun l_ => (pE (.det (law22_siphons_p d l_) (.v (.bool (law22_siphons d l_)))))))
set_option maxHeartbeats 4000000 in
theorem ok_law22_siphons : FnOk Try.prog 12 C_law22_siphons := by
  have hG : ConsOk Try.prog (mkG [(33, fun l => C_law22_known (nrmA [.st .district, .st .order] l))] []) := mkG_ok (cgc (ok_law22_known.norm [.st .district, .st .order]) cg0) cg0
  refine fn_okN [.o] mixed ts_ok hG (fn := Try.f12) (c := bodyOf Try.f12) (by kernel_rfl) (by kernel_rfl) (by kernel_rfl) (by kernel_rfl) (pD_all fun d => (pR_all fun l_ => (pE_all (fun hp => ?_))))
  dsimp only [conPre] at hp
  unfold law22_siphons_p at hp
  refine ⟨Nat.le_of_ble_eq_true rfl, (fun id st => bif Nat.beq id 0 then some (LCR (ρ := Unit) (σ := Unit) 1 [] [0] (fun k_0 s_0 => ⟨[(2, .ptr 0 0), (7, .rs .order l_), (8, .v (.int .i64 (l_.length : Int))), (9, .v (.int .i64 (k_0 : Int)))], [.cells (cellsOf .district d)]⟩) (law22_siphons_l0 d l_) (law22_siphons_l0_p d l_) l_.length () (l_.length ≤ maxL) (fun _ => .ret) (fun x_0_0 => ⟨[(4, .v (.bool false))], [.dead]⟩) st) else none), ?_, ?_⟩
  · unfold bodyOf Try.f12
    simp only [loopsOk, true_and, and_true]
    · refine loopR_ok mixed ts_ok hG (by kernel_rfl) (fun _ => rfl) (l_.length : Int) rfl lenB (fun hb0 k_0 s_0 hlt0 hq0 hw hc => ⟨L0, loopsOk0 _, ?_⟩) (fun hb0 s_0 hc => ?_)
      · unfold law22_siphons_l0_p at hq0
        try simp only [hw, Int.toNat_natCast] at hq0
        exact exSxR7_0
      · exact ezSxR7_0
  · unfold bodyOf Try.f12
    try unfold law22_siphons
    simp only [go_sem, Nat.reduceBEq, Nat.reduceLeDiff, Nat.reduceLT, decide_true, Nat.reduceAdd, Nat.reduceSub, Nat.reduceMul, Int.reduceLE, Int.reduceLT, Int.reduceToNat, Int.reduceNeg, reduceCtorEq]
    all_goals exact cl
@[go_sem] def law22_gates_l0 (l_ : List Order) (k_0 : Nat) (s_0 : List (Acequialaw22Place × Int)) : Empty ⊕ (List (Acequialaw22Place × Int)) := (bif (!(l_.getD k_0 (default : Order)).outlet) then .inr (mupdT .acequialaw22Place .int s_0 ({ reach := (l_.getD k_0 (default : Order)).index, hour := (l_.getD k_0 (default : Order)).hour } : Acequialaw22Place) ((l_.getD k_0 (default : Order)).litres)) else .inr s_0)
def law22_gates (l_ : List Order) : List (Acequialaw22Place × Int) := (match runI (law22_gates_l0 l_) l_.length 0 ([]) with | .inl x => x.elim | .inr s_0 => s_0)
@[go_sem] def C_law22_gates : List SV → Option Con := (pR .order fun l_ => (pE (.det True (.nm .acequialaw22Place .int (law22_gates l_)))))
set_option maxHeartbeats 4000000 in
theorem ok_law22_gates : FnOk Try.prog 14 C_law22_gates := by
  have hG : ConsOk Try.prog (mkG [] []) := mkG_ok cg0 cg0
  refine fn_okE true mixed ts_ok hG (fn := Try.f14) (c := bodyOf Try.f14) (by kernel_rfl) (by kernel_rfl) (by kernel_rfl) (by kernel_rfl) (pR_all fun l_ => (pE_all (fun hp => ?_)))
  dsimp only [conPre] at hp
  refine ⟨Nat.le_of_ble_eq_true rfl, (fun id st => bif Nat.beq id 0 then some (LCR (ρ := Empty) (σ := (List (Acequialaw22Place × Int))) 1 [] [0] (fun k_0 s_0 => ⟨[(3, .os 0), (7, .rs .order l_), (8, .v (.int .i64 (l_.length : Int))), (9, .v (.int .i64 (k_0 : Int)))], [.mp .acequialaw22Place .int s_0 none]⟩) (law22_gates_l0 l_) pT l_.length ([]) (l_.length ≤ maxL) ((·.elim)) ((·.elim)) st) else none), ?_, ?_⟩
  · unfold bodyOf Try.f14
    simp only [loopsOk, true_and, and_true]
    · refine loopR_ok mixed ts_ok hG (by kernel_rfl) (fun _ => rfl) (l_.length : Int) rfl lenB (fun hb0 k_0 s_0 hlt0 _ hw hc => ⟨L0, loopsOk0 _, ?_⟩) (fun hb0 s_0 hc => ?_)
      · exact exSxR7_0
      · exact ezSxR7_0
  · unfold bodyOf Try.f14
    try unfold law22_gates
    simp only [go_sem, Nat.reduceBEq, Nat.reduceLeDiff, Nat.reduceLT, decide_true, Nat.reduceAdd, Nat.reduceSub, Nat.reduceMul, Int.reduceLE, Int.reduceLT, Int.reduceToNat, Int.reduceNeg, reduceCtorEq]
    all_goals exact cl
@[go_sem] def law22_kept_l0 (a0 : District) (a1 : List Order) (k_0 : Nat) (s_0 : List (Acequialaw22Place × Int)) : Unit ⊕ (List (Acequialaw22Place × Int)) := (bif (!(law22_known a0 (a1.getD k_0 (default : Order)))) then .inl () else (bif (a1.getD k_0 (default : Order)).outlet then .inr (mupdT .acequialaw22Place .int s_0 ({ reach := (a0.farms.getD (Int.toNat ((a1.getD k_0 (default : Order)).index)) (default : Farm)).reach, hour := (a1.getD k_0 (default : Order)).hour } : Acequialaw22Place) (IntKind.i64.wrap ((mgetT .acequialaw22Place .int s_0 ({ reach := (a0.farms.getD (Int.toNat ((a1.getD k_0 (default : Order)).index)) (default : Farm)).reach, hour := (a1.getD k_0 (default : Order)).hour } : Acequialaw22Place)) + (a1.getD k_0 (default : Order)).litres))) else (bif (decide ((a0.reaches.getD (Int.toNat ((a1.getD k_0 (default : Order)).index)) (default : Reach)).up < 0)) then .inr s_0 else .inr (mupdT .acequialaw22Place .int s_0 ({ reach := (a0.reaches.getD (Int.toNat ((a1.getD k_0 (default : Order)).index)) (default : Reach)).up, hour := (a1.getD k_0 (default : Order)).hour } : Acequialaw22Place) (IntKind.i64.wrap ((mgetT .acequialaw22Place .int s_0 ({ reach := (a0.reaches.getD (Int.toNat ((a1.getD k_0 (default : Order)).index)) (default : Reach)).up, hour := (a1.getD k_0 (default : Order)).hour } : Acequialaw22Place)) + (a1.getD k_0 (default : Order)).litres))))))
def law22_kept_l0_p (a0 : District) (a1 : List Order) (k_0 : Nat) (s_0 : List (Acequialaw22Place × Int)) : Prop := ((!(law22_known a0 (a1.getD k_0 (default : Order)))) = false → (((a1.getD k_0 (default : Order)).outlet = true → (0 ≤ (a1.getD k_0 (default : Order)).index ∧ (a1.getD k_0 (default : Order)).index < (a0.farms.length : Int))) ∧ ((a1.getD k_0 (default : Order)).outlet = false → (0 ≤ (a1.getD k_0 (default : Order)).index ∧ (a1.getD k_0 (default : Order)).index < (a0.reaches.length : Int)))))
@[go_sem] def law22_kept_l1 (a0 : District) (a1 : List Order) (s_0 : List (Acequialaw22Place × Int)) (k_1 : Acequialaw22Place × Int) (s_1 : Unit) : Unit ⊕ Unit := (bif (((losses_Worst (a0.reaches.getD (Int.toNat k_1.1.reach) (default : Reach)) (mgetT .acequialaw22Place .int (law22_gates a1) ({ reach := k_1.1.reach, hour := (IntKind.i64.wrap (k_1.1.hour - (a0.reaches.getD (Int.toNat k_1.1.reach) (default : Reach)).delay)) } : Acequialaw22Place))).2 != 0) || (decide ((losses_Worst (a0.reaches.getD (Int.toNat k_1.1.reach) (default : Reach)) (mgetT .acequialaw22Place .int (law22_gates a1) ({ reach := k_1.1.reach, hour := (IntKind.i64.wrap (k_1.1.hour - (a0.reaches.getD (Int.toNat k_1.1.reach) (default : Reach)).delay)) } : Acequialaw22Place))).1 < k_1.2))) then .inl () else .inr ())
def law22_kept_l1_p (a0 : District) (a1 : List Order) (s_0 : List (Acequialaw22Place × Int)) (k_1 : Acequialaw22Place × Int) (s_1 : Unit) : Prop := ((0 ≤ k_1.1.reach ∧ k_1.1.reach < (a0.reaches.length : Int)) ∧ (0 ≤ k_1.1.reach ∧ k_1.1.reach < (a0.reaches.length : Int)))
def law22_kept (a0 : District) (a1 : List Order) : Bool := (match runI (law22_kept_l0 a0 a1) a1.length 0 ([]) with | .inl x_0_0 => false | .inr s_0 => (match runL (law22_kept_l1 a0 a1 s_0) s_0 () with | .inl x_1_0 => false | .inr s_1 => true))
def law22_kept_p (a0 : District) (a1 : List Order) : Prop := (a1.length ≤ maxL → (okI (law22_kept_l0 a0 a1) (law22_kept_l0_p a0 a1) a1.length 0 ([]) ∧ (∀ s_0, runI (law22_kept_l0 a0 a1) a1.length 0 ([]) = .inr s_0 → okM (law22_kept_l1 a0 a1 s_0) (law22_kept_l1_p a0 a1 s_0) s_0 ())))
@[go_sem] def C_law22_kept : List SV → Option Con := (pD .district fun a0 => (pR .order fun a1 => (pE (.det (law22_kept_p a0 a1) (.v (.bool (law22_kept a0 a1)))))))
set_option maxHeartbeats 4000000 in
theorem ok_law22_kept : FnOk Try.prog 13 C_law22_kept := by
  have hG : ConsOk Try.prog (mkG [(14, fun l => C_law22_gates (nrmA [.sl .order] l)), (21, C_losses_Worst), (33, fun l => C_law22_known (nrmA [.st .district, .st .order] l))] []) := mkG_ok (cgc (ok_law22_gates.norm [.sl .order]) (cgc ok_losses_Worst (cgc (ok_law22_known.norm [.st .district, .st .order]) cg0))) cg0
  refine fn_okN [.o] mixed ts_ok hG (fn := Try.f13) (c := bodyOf Try.f13) (by kernel_rfl) (by kernel_rfl) (by kernel_rfl) (by kernel_rfl) (pD_all fun a0 => (pR_all fun a1 => (pE_all (fun hp => ?_))))
  dsimp only [conPre] at hp
  unfold law22_kept_p at hp
  refine ⟨Nat.le_of_ble_eq_true rfl, (fun id st => bif Nat.beq id 0 then some (LCR (ρ := Unit) (σ := (List (Acequialaw22Place × Int))) 3 [] [0, 1, 2] (fun k_0 s_0 => ⟨[(2, .ptr 0 0), (5, .os 1), (6, .os 2), (17, .rs .order a1), (18, .v (.int .i64 (a1.length : Int))), (19, .v (.int .i64 (k_0 : Int)))], [.cells (cellsOf .district a0), .mp .acequialaw22Place .int (law22_gates a1) none, .mp .acequialaw22Place .int s_0 none]⟩) (law22_kept_l0 a0 a1) (law22_kept_l0_p a0 a1) a1.length ([]) (a1.length ≤ maxL) (fun _ => .ret) (fun x_0_0 => ⟨[(4, .v (.bool false))], [.dead, .dead, .dead]⟩) st) else bif Nat.beq id 2 then some (LCM (τ := Acequialaw22Place × Int) (ρ := Unit) (σ := Unit) 4 [] [0, 1, 2, 3] (fun left_1 cur_1 s_1 => ⟨[(2, .ptr 0 0), (5, .os 1), (58, .ptr 3 0)], [.cells (cellsOf .district a0), .mp .acequialaw22Place .int (law22_gates a1) none, .mp .acequialaw22Place .int (outR (runI (law22_kept_l0 a0 a1) a1.length 0 ([]))) none, .mi (some 2) (outR (runI (law22_kept_l0 a0 a1) a1.length 0 ([]))).length left_1 cur_1]⟩) (law22_kept_l1 a0 a1 (outR (runI (law22_kept_l0 a0 a1) a1.length 0 ([])))) (law22_kept_l1_p a0 a1 (outR (runI (law22_kept_l0 a0 a1) a1.length 0 ([])))) (outR (runI (law22_kept_l0 a0 a1) a1.length 0 ([]))) () (fun _ => .ret) (fun x_1_0 => ⟨[(4, .v (.bool false))], [.dead, .dead, .dead, .dead]⟩) (fun s_1 => ⟨[], [.dead, .dead, .dead, .dead]⟩) st) else none), ?_, ?_⟩
  · unfold bodyOf Try.f13
    simp only [loopsOk, true_and, and_true]
    refine ⟨?_, ?_⟩
    · refine loopR_ok mixed ts_ok hG (by kernel_rfl) (fun _ => rfl) (a1.length : Int) rfl lenB (fun hb0 k_0 s_0 hlt0 hq0 hw hc => ⟨L0, loopsOk0 _, ?_⟩) (fun hb0 s_0 hc => ?_)
      · unfold law22_kept_l0_p at hq0
        try simp only [hw, Int.toNat_natCast] at hq0
        exact exSxR7_1
      · exact ezSxR7_1
    · refine loopM_ok (dflt .acequialaw22Place, dflt .int) 3 mixed ts_ok hG (by kernel_rfl) (fun _ => rfl) fun left_1 cur_1 s_1 hp1 => ⟨L0, loopsOk0 _, ?_⟩
      · by_cases hl1 : left_1 = []
        · subst hl1
          simp only [go_sem, Nat.reduceBEq, Nat.reduceLeDiff, Nat.reduceLT, decide_true, Nat.reduceAdd, Nat.reduceSub, Nat.reduceMul, Int.reduceLE, Int.reduceLT, Int.reduceToNat, Int.reduceNeg, reduceCtorEq, List.not_mem_nil]
          all_goals exact crSxR7_2
        · simp only [go_sem, Nat.reduceBEq, Nat.reduceLeDiff, Nat.reduceLT, decide_true, Nat.reduceAdd, Nat.reduceSub, Nat.reduceMul, Int.reduceLE, Int.reduceLT, Int.reduceToNat, Int.reduceNeg, reduceCtorEq, hl1]
          intro j hj1
          obtain ⟨hlt1, hq1⟩ := hp1 j hj1
          unfold law22_kept_l1_p at hq1
          all_goals exact crSxR7_2
  · unfold bodyOf Try.f13
    try unfold law22_kept
    simp only [go_sem, Nat.reduceBEq, Nat.reduceLeDiff, Nat.reduceLT, decide_true, Nat.reduceAdd, Nat.reduceSub, Nat.reduceMul, Int.reduceLE, Int.reduceLT, Int.reduceToNat, Int.reduceNeg, reduceCtorEq]
    all_goals exact cl
@[go_sem] def law22_RoutingLeast_l0 (a0 : District) (a1 : List Order) (a2 : List Order) (k_0 : Acequialaw22Place × Int) (s_0 : Unit) : Unit ⊕ Unit := (bif (decide ((mgetT .acequialaw22Place .int (law22_gates a2) k_0.1) < k_0.2)) then .inl () else .inr ())
def law22_RoutingLeast_l0_p (a0 : District) (a1 : List Order) (a2 : List Order) (k_0 : Acequialaw22Place × Int) (s_0 : Unit) : Prop := True
def law22_RoutingLeast (a0 : District) (a1 : List Order) (a2 : List Order) : Bool := (bif (!law22_sane) then false else (bif ((!(ref22_Few a0 a1)) || (!(ref22_Few a0 a2))) then true else (bif ((routing_Plan a0 a1).2.2 != 0) then (((((routing_Plan a0 a1).1).length : Int) == 0) && (!(routing_Plan a0 a1).2.1)) else (bif (((!(routing_Plan a0 a1).2.1) && (decide ((((routing_Plan a0 a1).1).length : Int) > 0))) || ((routing_Plan a0 a1).2.1 && (((((routing_Check a0 ((routing_Plan a0 a1).1)) != 0) || (!(law22_contains ((routing_Plan a0 a1).1) a1))) || (!(law22_siphons a0 ((routing_Plan a0 a1).1)))) || (!(law22_kept a0 ((routing_Plan a0 a1).1)))))) then false else (bif (((((routing_Check a0 a2) != 0) || (!(law22_contains a2 a1))) || (!(law22_siphons a0 a2))) || (!(law22_kept a0 a2))) then true else (bif (!(routing_Plan a0 a1).2.1) then false else (match runL (law22_RoutingLeast_l0 a0 a1 a2) (law22_gates ((routing_Plan a0 a1).1)) () with | .inl x_0_0 => false | .inr s_0 => true)))))))
def law22_RoutingLeast_p (a0 : District) (a1 : List Order) (a2 : List Order) : Prop := ((law22_sane_p) ∧ ((!law22_sane) = false → (((!(ref22_Few a0 a1)) || (!(ref22_Few a0 a2))) = false → ((routing_Plan_p a0 a1) ∧ (((routing_Plan a0 a1).2.2 != 0) = false → ((((!(routing_Plan a0 a1).2.1) && (decide ((((routing_Plan a0 a1).1).length : Int) > 0))) = false → ((routing_Plan a0 a1).2.1 = true → (routing_Check_p a0 ((routing_Plan a0 a1).1)))) ∧ ((((!(routing_Plan a0 a1).2.1) && (decide ((((routing_Plan a0 a1).1).length : Int) > 0))) = false → ((routing_Plan a0 a1).2.1 = true → ((((routing_Check a0 ((routing_Plan a0 a1).1)) != 0) || (!(law22_contains ((routing_Plan a0 a1).1) a1))) = false → (law22_siphons_p a0 ((routing_Plan a0 a1).1))))) ∧ ((((!(routing_Plan a0 a1).2.1) && (decide ((((routing_Plan a0 a1).1).length : Int) > 0))) = false → ((routing_Plan a0 a1).2.1 = true → (((((routing_Check a0 ((routing_Plan a0 a1).1)) != 0) || (!(law22_contains ((routing_Plan a0 a1).1) a1))) || (!(law22_siphons a0 ((routing_Plan a0 a1).1)))) = false → (law22_kept_p a0 ((routing_Plan a0 a1).1))))) ∧ ((((!(routing_Plan a0 a1).2.1) && (decide ((((routing_Plan a0 a1).1).length : Int) > 0))) || ((routing_Plan a0 a1).2.1 && (((((routing_Check a0 ((routing_Plan a0 a1).1)) != 0) || (!(law22_contains ((routing_Plan a0 a1).1) a1))) || (!(law22_siphons a0 ((routing_Plan a0 a1).1)))) || (!(law22_kept a0 ((routing_Plan a0 a1).1)))))) = false → ((routing_Check_p a0 a2) ∧ (((((routing_Check a0 a2) != 0) || (!(law22_contains a2 a1))) = false → (law22_siphons_p a0 a2)) ∧ ((((((routing_Check a0 a2) != 0) || (!(law22_contains a2 a1))) || (!(law22_siphons a0 a2))) = false → (law22_kept_p a0 a2)) ∧ ((((((routing_Check a0 a2) != 0) || (!(law22_contains a2 a1))) || (!(law22_siphons a0 a2))) || (!(law22_kept a0 a2))) = false → ((!(routing_Plan a0 a1).2.1) = false → okM (law22_RoutingLeast_l0 a0 a1 a2) (law22_RoutingLeast_l0_p a0 a1 a2) (law22_gates ((routing_Plan a0 a1).1)) ()))))))))))))))
@[go_sem] def C_law22_RoutingLeast : List SV → Option Con := (pD .district fun a0 => (pR .order fun a1 => (pR .order fun a2 => (pE (.det (law22_RoutingLeast_p a0 a1 a2) (.v (.bool (law22_RoutingLeast a0 a1 a2))))))))
set_option maxHeartbeats 4000000 in
theorem ok_law22_RoutingLeast : FnOk Try.prog 3 C_law22_RoutingLeast := by
  have hG : ConsOk Try.prog (mkG [(7, C_law22_sane), (8, fun l => C_ref22_Few (nrmA [.st .district, .sl .order] l)), (9, fun l => C_routing_Plan (nrmA [.st .district, .sl .order] l)), (10, fun l => C_routing_Check (nrmA [.st .district, .sl .order] l)), (11, fun l => C_law22_contains (nrmA [.sl .order, .sl .order] l)), (12, fun l => C_law22_siphons (nrmA [.st .district, .sl .order] l)), (13, fun l => C_law22_kept (nrmA [.st .district, .sl .order] l)), (14, fun l => C_law22_gates (nrmA [.sl .order] l))] []) := mkG_ok (cgc ok_law22_sane (cgc (ok_ref22_Few.norm [.st .district, .sl .order]) (cgc (ok_routing_Plan.norm [.st .district, .sl .order]) (cgc (ok_routing_Check.norm [.st .district, .sl .order]) (cgc (ok_law22_contains.norm [.sl .order, .sl .order]) (cgc (ok_law22_siphons.norm [.st .district, .sl .order]) (cgc (ok_law22_kept.norm [.st .district, .sl .order]) (cgc (ok_law22_gates.norm [.sl .order]) cg0)))))))) cg0
  refine fn_okN [.o] mixed ts_ok hG (fn := Try.f3) (c := bodyOf Try.f3) (by kernel_rfl) (by kernel_rfl) (by kernel_rfl) (by kernel_rfl) (pD_all fun a0 => (pR_all fun a1 => (pR_all fun a2 => (pE_all (fun hp => ?_)))))
  dsimp only [conPre] at hp
  unfold law22_RoutingLeast_p at hp
  refine ⟨Nat.le_of_ble_eq_true rfl, (fun id st => bif Nat.beq id 0 then some (LCM (τ := Acequialaw22Place × Int) (ρ := Unit) (σ := Unit) 5 [] [0, 1, 2, 3, 4] (fun left_0 cur_0 s_0 => ⟨[(10, .os 2), (103, .ptr 4 0)], [.dead, .dead, .mp .acequialaw22Place .int (law22_gates a2) none, .mp .acequialaw22Place .int (law22_gates ((routing_Plan a0 a1).1)) none, .mi (some 3) ((law22_gates ((routing_Plan a0 a1).1)).length) left_0 cur_0]⟩) (law22_RoutingLeast_l0 a0 a1 a2) (law22_RoutingLeast_l0_p a0 a1 a2) (law22_gates ((routing_Plan a0 a1).1)) () (fun _ => .ret) (fun x_0_0 => ⟨[(6, .v (.bool false))], [.dead, .dead, .dead, .dead, .dead]⟩) (fun s_0 => ⟨[], [.dead, .dead, .dead, .dead, .dead]⟩) st) else none), ?_, ?_⟩
  · unfold bodyOf Try.f3
    simp only [loopsOk, true_and, and_true]
    · refine loopM_ok (dflt .acequialaw22Place, dflt .int) 4 mixed ts_ok hG (by kernel_rfl) (fun _ => rfl) fun left_0 cur_0 s_0 hp0 => ⟨L0, loopsOk0 _, ?_⟩
      · by_cases hl0 : left_0 = []
        · subst hl0
          simp only [go_sem, Nat.reduceBEq, Nat.reduceLeDiff, Nat.reduceLT, decide_true, Nat.reduceAdd, Nat.reduceSub, Nat.reduceMul, Int.reduceLE, Int.reduceLT, Int.reduceToNat, Int.reduceNeg, reduceCtorEq, List.not_mem_nil]
          all_goals exact crSxR7_3
        · simp only [go_sem, Nat.reduceBEq, Nat.reduceLeDiff, Nat.reduceLT, decide_true, Nat.reduceAdd, Nat.reduceSub, Nat.reduceMul, Int.reduceLE, Int.reduceLT, Int.reduceToNat, Int.reduceNeg, reduceCtorEq, hl0]
          intro j hj0
          obtain ⟨hlt0, hq0⟩ := hp0 j hj0
          unfold law22_RoutingLeast_l0_p at hq0
          all_goals exact crSxR7_3
  · unfold bodyOf Try.f3
    try unfold law22_RoutingLeast
    simp only [go_sem, Nat.reduceBEq, Nat.reduceLeDiff, Nat.reduceLT, decide_true, Nat.reduceAdd, Nat.reduceSub, Nat.reduceMul, Int.reduceLE, Int.reduceLT, Int.reduceToNat, Int.reduceNeg, reduceCtorEq]
    all_goals exact cl
end Go.Sx
end
section
namespace Go.Sx
open Go.Proofs
theorem runL_unit_iff {ρ τ : Type} {step : τ → Unit → ρ ⊕ Unit} : ∀ {L : List τ}, runL step L () = .inr () ↔ ∀ x ∈ L, step x () = .inr ()
  | [] => by simp [runL]
  | x :: r => by
    simp only [runL, List.mem_cons, forall_eq_or_imp]
    cases h : step x () with
    | inl y => simp
    | inr y => simp only [true_and]; exact runL_unit_iff
theorem runL_unit_inl {τ : Type} {step : τ → Unit → Unit ⊕ Unit} {L : List τ} (h : ¬ ∀ x ∈ L, step x () = .inr ()) : runL step L () = .inl () := by
  cases hr : runL step L () with
  | inl y => rfl
  | inr y => exact absurd (runL_unit_iff.1 hr) h
theorem okM_unit {τ : Type} {step : τ → Unit → Unit ⊕ Unit} {p : τ → Unit → Prop} {l : List τ} (hp : ∀ x ∈ l, p x ()) : okM step p l () := fun L hL => by
  refine ⟨?_, okL_all _ _ fun x hx _ => hp x (hL.mem_iff.1 hx)⟩
  by_cases h : ∀ x ∈ l, step x () = .inr ()
  · rw [runL_unit_iff.2 h, runL_unit_iff.2 fun x hx => h x (hL.mem_iff.1 hx)]
  · rw [runL_unit_inl h, runL_unit_inl fun q => h fun x hx => q x (hL.mem_iff.2 hx)]
section
variable {κ υ : Type} [DecidableEq κ]
theorem mem_mupd : ∀ (l : List (κ × υ)) (x : κ) (y : υ) (e : κ × υ), e ∈ mupd l x y → e = (x, y) ∨ e ∈ l
  | [], x, y, e, h => by simp [mupd] at h; exact .inl h
  | (a, b) :: r, x, y, e, h => by
    unfold mupd at h
    by_cases q : x = a
    · rw [if_pos q] at h
      rcases List.mem_cons.1 h with h | h
      · exact .inl h
      · exact .inr (List.mem_cons_of_mem _ h)
    · rw [if_neg q] at h
      rcases List.mem_cons.1 h with h | h
      · exact .inr (h ▸ List.mem_cons_self)
      · rcases mem_mupd r x y e h with h | h
        · exact .inl h
        · exact .inr (List.mem_cons_of_mem _ h)
theorem mget_mem : ∀ (l : List (κ × υ)) (x : κ) (y : υ), mget l x = some y → (x, y) ∈ l
  | (a, b) :: r, x, y, h => by
    unfold mget at h
    by_cases q : x = a
    · rw [if_pos q] at h; cases h; subst q; exact List.mem_cons_self
    · rw [if_neg q] at h; exact List.mem_cons_of_mem _ (mget_mem r x y h)
theorem nodup_mupd {l : List (κ × υ)} (h : (l.map Prod.fst).Nodup) (x : κ) (y : υ) : ((mupd l x y).map Prod.fst).Nodup := by
  rw [keys_mupd]
  split
  · exact h
  · rename_i hn
    rw [List.nodup_append]
    exact ⟨h, by simp, fun a ha b hb e => by
      rw [List.mem_singleton] at hb
      subst hb; subst e
      exact hn ha⟩
end
structure SM (k : Tag) (f : k.T → Int) (m : List (k.T × Int)) : Prop where
  get : ∀ p, mgetT k .int m p = f p
  nd : (m.map Prod.fst).Nodup
  pos : ∀ e ∈ m, 1 ≤ e.2
theorem SM.nil {k : Tag} : SM k (fun _ => 0) [] := ⟨fun _ => rfl, List.nodup_nil, fun _ h => by cases h⟩
theorem SM.put {k : Tag} {f : k.T → Int} {m : List (k.T × Int)} (h : SM k f m) (x : k.T) {v : Int} (hv : 1 ≤ v) {g : k.T → Int} (hg : ∀ p, g p = if p = x then v else f p) : SM k g (mupdT k .int m x v) := by
  refine ⟨fun p => ?_, nodup_mupd h.nd x v, fun e he => ?_⟩
  · rw [mgetT_mupdT, h.get, hg]
  · rcases mem_mupd (υ := Int) m x v e he with rfl | he
    · exact hv
    · exact h.pos e he
theorem SM.entry {k : Tag} {f : k.T → Int} {m : List (k.T × Int)} (h : SM k f m) {e : k.T × Int} (he : e ∈ m) : e.2 = f e.1 ∧ 1 ≤ f e.1 := by
  have h1 := mem_mget m e h.nd he
  have h2 := h.get e.1
  unfold mgetT at h2
  rw [h1] at h2
  have h3 : e.2 = f e.1 := h2
  exact ⟨h3, h3 ▸ h.pos e he⟩
theorem SM.mem {k : Tag} {f : k.T → Int} {m : List (k.T × Int)} (h : SM k f m) {p : k.T} (hp : f p ≠ 0) : (p, f p) ∈ m := by
  have h2 := h.get p
  unfold mgetT at h2
  cases hm : mget m p with
  | none => rw [hm] at h2; exact absurd h2.symm hp
  | some v =>
    rw [hm] at h2
    have h3 : v = f p := h2
    exact h3 ▸ mget_mem m p v hm
theorem SM.congr {k : Tag} {f g : k.T → Int} {m : List (k.T × Int)} (h : SM k f m) (e : ∀ p, g p = f p) : SM k g m := ⟨fun p => by rw [h.get, e], h.nd, h.pos⟩
def gP (r h : Int) (x : Order) : Bool := !x.outlet && x.index == r && x.hour == h
def glit (l : List Order) (r h : Int) : Int := osum (gP r h) l
theorem gP_key {r h : Int} {x y : Order} (hx : gP r h x = true) (hy : gP r h y = true) : K x y := by
  unfold gP at hx hy
  simp only [Bool.and_eq_true, Bool.not_eq_true', beq_iff_eq] at hx hy
  exact ⟨by rw [hx.2, hy.2], by rw [hx.1.2, hy.1.2], by rw [hx.1.1, hy.1.1]⟩
theorem osum_single {p : Order → Bool} {l : List Order} (hk : l.Pairwise fun x y => ¬ K x y) (hp : ∀ x y, p x = true → p y = true → K x y) {x : Order} (hx : x ∈ l) (h : p x = true) : osum p l = x.litres := by
  obtain ⟨i, hi, rfl⟩ := List.getElem_of_mem hx
  refine osum_one hi h fun j hj hne => ?_
  cases hq : p l[j] with
  | false => rfl
  | true =>
    rw [List.pairwise_iff_getElem] at hk
    rcases Nat.lt_or_gt_of_ne hne with q | q
    · exact absurd (hp _ _ hq h) (hk j i hj hi q)
    · exact absurd (hp _ _ h hq) (hk i j hi hj q)
theorem glit_mem {l : List Order} (hk : l.Pairwise fun x y => ¬ K x y) {x : Order} (hx : x ∈ l) (ho : x.outlet = false) : glit l x.index x.hour = x.litres :=
  osum_single hk (fun _ _ h1 h2 => gP_key h1 h2) hx (by unfold gP; rw [ho]; simp)
theorem osum_ne {p : Order → Bool} {l : List Order} (h : osum p l ≠ 0) : ∃ x ∈ l, p x = true :=
  Classical.byContradiction fun q => h (osum_none fun x hx => by
    cases hp : p x with
    | false => rfl
    | true => exact absurd ⟨x, hx, hp⟩ q)
theorem glit_ne {l : List Order} (hk : l.Pairwise fun x y => ¬ K x y) {r h : Int} (hg : glit l r h ≠ 0) : ∃ x ∈ l, x.outlet = false ∧ x.index = r ∧ x.hour = h ∧ x.litres = glit l r h := by
  obtain ⟨x, hx, hp⟩ := osum_ne hg
  have := osum_single hk (fun _ _ h1 h2 => gP_key h1 h2) hx hp
  unfold gP at hp
  simp only [Bool.and_eq_true, Bool.not_eq_true', beq_iff_eq] at hp
  exact ⟨x, hx, hp.1.1, hp.1.2, hp.2, this.symm⟩
theorem gates_ok {l : List Order} (hk : l.Pairwise fun x y => ¬ K x y) (hl : ∀ x ∈ l, 1 ≤ x.litres) : SM .acequialaw22Place (fun p => glit l p.reach p.hour) (law22_gates l) := by
  let f : Order → List (Acequialaw22Place × Int) → Empty ⊕ List (Acequialaw22Place × Int) := fun x s => bif !x.outlet then .inr (mupdT .acequialaw22Place .int s { reach := x.index, hour := x.hour } x.litres) else .inr s
  have e : runI (law22_gates_l0 l) l.length 0 [] = runL f l [] := runI_eq_runL f default l []
  have key : ∀ (L pre : List Order) (m : List (Acequialaw22Place × Int)), (pre ++ L).Pairwise (fun x y => ¬ K x y) → (∀ x ∈ L, 1 ≤ x.litres) → SM .acequialaw22Place (fun p => glit pre p.reach p.hour) m → ∃ m', runL f L m = .inr m' ∧ SM .acequialaw22Place (fun p => glit (pre ++ L) p.reach p.hour) m' := by
    intro L
    induction L with
    | nil => intro pre m _ _ hm; exact ⟨m, rfl, by simpa using hm⟩
    | cons x L ih =>
      intro pre m hk hl hm
      have hk' : (pre ++ [x] ++ L).Pairwise (fun x y => ¬ K x y) := by simpa using hk
      have hnone : ∀ r h : Int, x.outlet = false → x.index = r → x.hour = h → glit pre r h = 0 := fun r h q1 q2 q3 => osum_none fun y hy => by
        cases hp : gP r h y with
        | false => rfl
        | true =>
          have : gP r h x = true := by unfold gP; rw [q1, q2, q3]; simp
          exact absurd (gP_key hp this) ((List.pairwise_append.1 hk).2.2 y hy x List.mem_cons_self)
      simp only [runL]
      cases ho : x.outlet with
      | true =>
        have ef : f x m = .inr m := by simp only [f, ho]; rfl
        rw [ef]
        obtain ⟨m', e1, e2⟩ := ih (pre ++ [x]) m hk' (fun y hy => hl y (List.mem_cons_of_mem _ hy)) (hm.congr fun p => by
          unfold glit; rw [osum_app]; simp [osum, gP, ho])
        exact ⟨m', e1, by simpa using e2⟩
      | false =>
        have ef : f x m = .inr (mupdT .acequialaw22Place .int m { reach := x.index, hour := x.hour } x.litres) := by simp only [f, ho]; rfl
        rw [ef]
        obtain ⟨m', e1, e2⟩ := ih (pre ++ [x]) _ hk' (fun y hy => hl y (List.mem_cons_of_mem _ hy)) (hm.put (k := .acequialaw22Place) { reach := x.index, hour := x.hour } (hl x List.mem_cons_self) (g := fun p => glit (pre ++ [x]) p.reach p.hour) fun p => by
          show glit (pre ++ [x]) p.reach p.hour = _
          unfold glit
          rw [osum_app]
          by_cases q : p = { reach := x.index, hour := x.hour }
          · rw [if_pos q]
            subst q
            have := hnone x.index x.hour ho rfl rfl
            unfold glit at this
            rw [this]
            simp [osum, gP, ho]
          · rw [if_neg q]
            have : gP p.reach p.hour x = false := by
              cases hp : gP p.reach p.hour x with
              | false => rfl
              | true =>
                unfold gP at hp
                simp only [Bool.and_eq_true, beq_iff_eq] at hp
                exact absurd (by rw [hp.1.2, hp.2]) q
            simp [osum, this])
        exact ⟨m', e1, by simpa using e2⟩
  obtain ⟨m', e1, e2⟩ := key l [] [] (by simpa using hk) hl (SM.nil.congr fun p => rfl)
  unfold law22_gates
  rw [e, e1]
  simpa using e2
end Go.Sx
end
section
namespace Go.Sx
open Go.Proofs
def Kept (d : District) (l : List Order) : Prop := ∀ r h : Int, 0 ≤ r → 1 ≤ drw d l r h → ∃ w, losses_Worst (rch d r) (glit l r (h - (rch d r).delay)) = (w, 0) ∧ drw d l r h ≤ w
theorem drw_src {d : District} {l : List Order} (hg : Good d l) {r h : Int} (hr : 0 ≤ r) (hd : drw d l r h ≠ 0) : r < (d.reaches.length : Int) ∧ 0 ≤ h ∧ h < d.hours := by
  obtain ⟨x, hx, hp⟩ := osum_ne hd
  have h1 := hg.one x hx
  unfold drawP at hp
  simp only [Bool.and_eq_true, Bool.or_eq_true, Bool.not_eq_true', beq_iff_eq] at hp
  have a1 := h1.hour0; have a2 := h1.hour; have a3 := h1.index0
  refine ⟨?_, by omega, by omega⟩
  rcases hp.2 with ⟨q1, q2⟩ | ⟨q1, q2⟩
  · have := h1.farm q1
    have := hg.right.farm x.index.toNat (by omega)
    omega
  · have := h1.reach q1
    have := up_lt hg.right (r := x.index.toNat) (by omega)
    rw [show ((x.index.toNat : Nat) : Int) = x.index from Int.toNat_of_nonneg a3] at this
    have q2' : (rch d x.index).up = r := q2
    omega
def kf (d : District) (x : Order) (s : List (Acequialaw22Place × Int)) : Unit ⊕ List (Acequialaw22Place × Int) := (bif (!(law22_known d x)) then .inl () else (bif x.outlet then .inr (mupdT .acequialaw22Place .int s ({ reach := (d.farms.getD (Int.toNat (x.index)) (default : Farm)).reach, hour := x.hour } : Acequialaw22Place) (IntKind.i64.wrap ((mgetT .acequialaw22Place .int s ({ reach := (d.farms.getD (Int.toNat (x.index)) (default : Farm)).reach, hour := x.hour } : Acequialaw22Place)) + x.litres))) else (bif (decide ((d.reaches.getD (Int.toNat (x.index)) (default : Reach)).up < 0)) then .inr s else .inr (mupdT .acequialaw22Place .int s ({ reach := (d.reaches.getD (Int.toNat (x.index)) (default : Reach)).up, hour := x.hour } : Acequialaw22Place) (IntKind.i64.wrap ((mgetT .acequialaw22Place .int s ({ reach := (d.reaches.getD (Int.toNat (x.index)) (default : Reach)).up, hour := x.hour } : Acequialaw22Place)) + x.litres))))))
def kdrw (d : District) (l : List Order) (p : Acequialaw22Place) : Int := if p.reach < 0 then 0 else drw d l p.reach p.hour
theorem known_ok {d : District} {x : Order} (h : Order1 d x) : law22_known d x = true := by
  unfold law22_known
  have := h.index0
  cases ho : x.outlet with
  | true => have := h.farm ho; simp only [cond_true, Bool.and_eq_true, decide_eq_true_eq]; omega
  | false => have := h.reach ho; simp only [cond_false, Bool.and_eq_true, decide_eq_true_eq]; omega
theorem known_rng {d : District} {x : Order} (h : law22_known d x = true) : (x.outlet = true → 0 ≤ x.index ∧ x.index < (d.farms.length : Int)) ∧ (x.outlet = false → 0 ≤ x.index ∧ x.index < (d.reaches.length : Int)) := by
  unfold law22_known at h
  refine ⟨fun ho => ?_, fun ho => ?_⟩
  all_goals
    rw [ho] at h
    simp only [cond_true, cond_false, Bool.and_eq_true, decide_eq_true_eq] at h
    omega
theorem kept_map {d : District} {l : List Order} (hg : Good d l) : ∃ m, runI (law22_kept_l0 d l) l.length 0 [] = .inr m ∧ SM .acequialaw22Place (kdrw d l) m := by
  have e : runI (law22_kept_l0 d l) l.length 0 [] = runL (kf d) l [] := runI_eq_runL (kf d) default l []
  have hlit := hg.orders.lit
  have key : ∀ (L pre : List Order) (m : List (Acequialaw22Place × Int)), pre ++ L = l → SM .acequialaw22Place (kdrw d pre) m → ∃ m', runL (kf d) L m = .inr m' ∧ SM .acequialaw22Place (kdrw d l) m' := by
    intro L
    induction L with
    | nil => intro pre m hl hm; rw [List.append_nil] at hl; subst hl; exact ⟨m, rfl, hm⟩
    | cons x L ih =>
      intro pre m hl hm
      have hxl : x ∈ l := by rw [← hl]; simp
      have h1 := hg.one x hxl
      have hk := known_ok h1
      have hpre : ∀ y ∈ pre, 1 ≤ y.litres ∧ y.litres ≤ 1073741824 := fun y hy => hlit y (by rw [← hl]; simp [hy])
      have hlen : pre.length ≤ 4096 := by have := hg.len; rw [← hl, List.length_append] at this; omega
      have hb : ∀ p : Acequialaw22Place, 0 ≤ kdrw d pre p ∧ kdrw d pre p ≤ 4398046511104 := fun p => by
        unfold kdrw
        have := drw_bound (d := d) hpre p.reach p.hour
        split <;> omega
      have hx1 := hlit x hxl
      have hput : ∀ r0 : Int, 0 ≤ r0 → (∀ r h, 0 ≤ r → drawP d r h x = (x.hour == h && r0 == r)) → SM .acequialaw22Place (kdrw d (pre ++ [x])) (mupdT .acequialaw22Place .int m { reach := r0, hour := x.hour } (IntKind.i64.wrap (mgetT .acequialaw22Place .int m ({ reach := r0, hour := x.hour } : Acequialaw22Place) + x.litres))) := fun r0 hr0 hd => by
        have hb1 := hb { reach := r0, hour := x.hour }
        rw [hm.get, wrapI (by omega) (by omega)]
        refine hm.put (k := .acequialaw22Place) _ (by omega) fun p => ?_
        unfold kdrw
        rw [drw_app, drw_one]
        by_cases q : p = { reach := r0, hour := x.hour }
        · rw [if_pos q]
          subst q
          simp only
          rw [if_neg (by omega), if_neg (by omega), hd _ _ hr0]
          simp
        · rw [if_neg q]
          by_cases hneg : p.reach < 0
          · rw [if_pos hneg, if_pos hneg]
          · rw [if_neg hneg, if_neg hneg, hd _ _ (by omega)]
            have : (x.hour == p.hour && r0 == p.reach) = false := by
              rw [Bool.and_eq_false_iff, beq_eq_false_iff_ne, beq_eq_false_iff_ne]
              by_cases q1 : x.hour = p.hour
              · right; intro q2; exact q (by rw [q1, q2])
              · left; exact q1
            rw [this]; simp
      simp only [runL]
      unfold kf
      rw [hk]
      simp only [Bool.not_true, cond_false]
      cases ho : x.outlet with
      | true =>
        simp only [cond_true]
        refine ih (pre ++ [x]) _ (by simpa using hl) (hput _ ?_ fun r h _ => ?_)
        · have := h1.farm ho; have := h1.index0
          exact (hg.right.farm x.index.toNat (by omega)).1
        · unfold drawP; rw [ho]; simp
      | false =>
        simp only [cond_false]
        by_cases hup : (rch d x.index).up < 0
        · have hup' : decide ((d.reaches.getD (Int.toNat x.index) (default : Reach)).up < 0) = true := decide_eq_true hup
          rw [hup']
          simp only [cond_true]
          refine ih (pre ++ [x]) _ (by simpa using hl) (hm.congr fun p => ?_)
          unfold kdrw
          rw [drw_app, drw_one]
          by_cases hneg : p.reach < 0
          · rw [if_pos hneg, if_pos hneg]
          · rw [if_neg hneg, if_neg hneg]
            have : drawP d p.reach p.hour x = false := by
              unfold drawP
              rw [ho]
              have : ((d.reaches.getD x.index.toNat default).up == p.reach) = false := by
                rw [beq_eq_false_iff_ne]
                have hup2 : (d.reaches.getD x.index.toNat default).up < 0 := hup
                omega
              rw [this]; simp
            rw [this]; simp
        · have hup' : decide ((d.reaches.getD (Int.toNat x.index) (default : Reach)).up < 0) = false := decide_eq_false hup
          rw [hup']
          simp only [cond_false]
          refine ih (pre ++ [x]) _ (by simpa using hl) (hput _ (by have hup2 : ¬ (d.reaches.getD x.index.toNat default).up < 0 := hup; omega) fun r h _ => ?_)
          unfold drawP; rw [ho]; simp
  obtain ⟨m, e1, e2⟩ := key l [] [] rfl (SM.nil.congr fun p => by unfold kdrw; split <;> rfl)
  exact ⟨m, by rw [e, e1], e2⟩
theorem kept_entry {d : District} {l : List Order} (hg : Good d l) {m : List (Acequialaw22Place × Int)} (hm : SM .acequialaw22Place (kdrw d l) m) {e : Acequialaw22Place × Int} (he : e ∈ m) : 0 ≤ e.1.reach ∧ e.1.reach < (d.reaches.length : Int) ∧ 0 ≤ e.1.hour ∧ e.1.hour < d.hours ∧ e.2 = drw d l e.1.reach e.1.hour ∧ 1 ≤ drw d l e.1.reach e.1.hour := by
  obtain ⟨h1, h2⟩ := hm.entry he
  unfold kdrw at h1 h2
  by_cases hneg : e.1.reach < 0
  · rw [if_pos hneg] at h2; omega
  · rw [if_neg hneg] at h1 h2
    obtain ⟨q1, q2, q3⟩ := drw_src hg (by omega : 0 ≤ e.1.reach) (by omega : drw d l e.1.reach e.1.hour ≠ 0)
    exact ⟨by omega, q1, q2, q3, h1, h2⟩
theorem kept_step {d : District} {l : List Order} (hg : Good d l) {m : List (Acequialaw22Place × Int)} (hm : SM .acequialaw22Place (kdrw d l) m) {e : Acequialaw22Place × Int} (he : e ∈ m) (s : List (Acequialaw22Place × Int)) :
    law22_kept_l1 d l s e () = .inr () ↔ ∃ w, losses_Worst (rch d e.1.reach) (glit l e.1.reach (e.1.hour - (rch d e.1.reach).delay)) = (w, 0) ∧ drw d l e.1.reach e.1.hour ≤ w := by
  obtain ⟨h1, h2, h3, h4, h5, h6⟩ := kept_entry hg hm he
  have hd := delay_pos hg.right (r := e.1.reach.toNat) (by omega)
  rw [show ((e.1.reach.toNat : Nat) : Int) = e.1.reach from Int.toNat_of_nonneg h1] at hd
  have hH := hg.right.hours
  have hgt := gates_ok hg.keys fun x hx => (hg.orders.lit x hx).1
  unfold law22_kept_l1
  rw [hgt.get]
  have hw : IntKind.i64.wrap (e.1.hour - (d.reaches.getD (Int.toNat e.1.reach) (default : Reach)).delay) = e.1.hour - (rch d e.1.reach).delay := wrapI (by show _ ≤ e.1.hour - (rch d e.1.reach).delay; omega) (by show e.1.hour - (rch d e.1.reach).delay < _; omega)
  simp only
  rw [hw, h5]
  have ew : losses_Worst (d.reaches.getD (Int.toNat e.1.reach) (default : Reach)) (glit l e.1.reach (e.1.hour - (rch d e.1.reach).delay)) = losses_Worst (rch d e.1.reach) (glit l e.1.reach (e.1.hour - (rch d e.1.reach).delay)) := rfl
  rw [ew]
  generalize losses_Worst (rch d e.1.reach) (glit l e.1.reach (e.1.hour - (rch d e.1.reach).delay)) = q
  obtain ⟨a, b⟩ := q
  simp only
  by_cases hb : b = 0
  · subst hb
    by_cases hq : a < drw d l e.1.reach e.1.hour
    · rw [decide_eq_true hq]
      simp only [bne_self_eq_false, Bool.false_or, cond_true]
      exact ⟨fun h => (by cases h), fun ⟨w, e1, e2⟩ => (by cases e1; omega)⟩
    · rw [decide_eq_false hq]
      simp only [bne_self_eq_false, Bool.or_self, cond_false]
      exact ⟨fun _ => ⟨a, rfl, by omega⟩, fun _ => trivial⟩
  · have : (b != 0) = true := by simpa using hb
    rw [this]
    simp only [Bool.true_or, cond_true]
    exact ⟨fun h => (by cases h), fun ⟨w, e1, e2⟩ => (by cases e1; exact absurd rfl hb)⟩
theorem kept_iff {d : District} {l : List Order} (hg : Good d l) : law22_kept d l = true ↔ Kept d l := by
  obtain ⟨m, e1, e2⟩ := kept_map hg
  have key : runL (law22_kept_l1 d l m) m () = .inr () ↔ Kept d l := by
    rw [runL_unit_iff]
    constructor
    · intro h r hh h0 h1
      have hp := e2.mem (p := ({ reach := r, hour := hh } : Acequialaw22Place)) (by unfold kdrw; simp only; rw [if_neg (by omega)]; omega)
      exact (kept_step hg e2 hp m).1 (h _ hp)
    · intro h e he
      obtain ⟨h1, h2, h3, h4, h5, h6⟩ := kept_entry hg e2 he
      exact (kept_step hg e2 he m).2 (h _ _ h1 h6)
  unfold law22_kept
  rw [e1]
  simp only
  rw [← key]
  cases h : runL (law22_kept_l1 d l m) m () with
  | inl y => simp
  | inr y => simp
theorem kept_p {d : District} {l : List Order} (hg : Good d l) : law22_kept_p d l := fun _ => by
  obtain ⟨m, e1, e2⟩ := kept_map hg
  refine ⟨okI_all _ _ _ fun j s _ hj => fun hk => ?_, fun s hs => ?_⟩
  · have := known_rng (d := d) (x := l.getD j default) (by simpa using hk)
    exact ⟨fun h => this.1 h, fun h => this.2 h⟩
  · rw [e1] at hs
    cases hs
    refine okM_unit fun e he => ?_
    obtain ⟨h1, h2, _⟩ := kept_entry hg e2 he
    exact ⟨⟨h1, h2⟩, h1, h2⟩
theorem siphons_iff {d : District} {l : List Order} (hg : Good d l) : law22_siphons d l = true ↔ ∀ x ∈ l, x.outlet = false → (rch d x.index).siphon ≤ x.litres := by
  let f : Order → Unit → Unit ⊕ Unit := fun x _ => (bif ((!(law22_known d x)) || ((!x.outlet) && (decide (x.litres < (d.reaches.getD (Int.toNat x.index) (default : Reach)).siphon)))) then .inl () else .inr ())
  have e : runI (law22_siphons_l0 d l) l.length 0 () = runL f l () := runI_eq_runL f default l ()
  have key : runL f l () = .inr () ↔ ∀ x ∈ l, x.outlet = false → (rch d x.index).siphon ≤ x.litres := by
    rw [runL_unit_iff]
    refine forall_congr' fun x => forall_congr' fun hx => ?_
    have hk := known_ok (hg.one x hx)
    simp only [f, hk, Bool.not_true, Bool.false_or]
    have ee : (d.reaches.getD (Int.toNat x.index) (default : Reach)).siphon = (rch d x.index).siphon := rfl
    rw [ee]
    cases ho : x.outlet with
    | true => simp
    | false =>
      rw [ee]
      generalize (rch d x.index).siphon = z
      by_cases q : x.litres < z
      · rw [decide_eq_true q]; simp; omega
      · rw [decide_eq_false q]; simp; omega
  unfold law22_siphons
  rw [e, ← key]
  cases h : runL f l () with
  | inl y => simp
  | inr y => simp
theorem siphons_p (d : District) (l : List Order) : law22_siphons_p d l := fun _ => okI_all _ _ _ fun j s _ hj => fun hk ho => by
  have := known_rng (d := d) (x := l.getD j default) (by simpa using hk)
  exact this.2 (by simpa using ho)
theorem contains_iff (l part : List Order) : law22_contains l part = true ↔ ∀ x ∈ part, x ∈ l := by
  let f : Order → List (Order × Bool) → Empty ⊕ List (Order × Bool) := fun x s => .inr (mupdT .order .bool s x true)
  have e : runI (law22_contains_l0 l) l.length 0 [] = runL f l [] := runI_eq_runL f default l []
  have key : ∀ (L : List Order) (m : List (Order × Bool)), ∃ m', runL f L m = .inr m' ∧ ∀ x, mgetT .order .bool m' x = true ↔ x ∈ L ∨ mgetT .order .bool m x = true := by
    intro L
    induction L with
    | nil => intro m; exact ⟨m, rfl, fun x => by simp⟩
    | cons y L ih =>
      intro m
      obtain ⟨m', e1, e2⟩ := ih (mupdT .order .bool m y true)
      refine ⟨m', e1, fun x => ?_⟩
      rw [e2 x, List.mem_cons]
      have : mgetT .order .bool (mupdT .order .bool m y true) x = if x = y then true else mgetT .order .bool m x := by
        unfold mgetT mupdT
        rw [mget_mupd]
        by_cases h : x = y <;> simp [h]
      rw [this]
      by_cases h : x = y <;> simp [h]
  obtain ⟨m, e1, e2⟩ := key l []
  unfold law22_contains
  rw [e, e1]
  simp only
  let g : Order → Unit → Unit ⊕ Unit := fun x _ => (bif (!(mgetT .order .bool m x)) then .inl () else .inr ())
  have e' : runI (law22_contains_l1 part m) part.length 0 () = runL g part () := runI_eq_runL g default part ()
  have k2 : runL g part () = .inr () ↔ ∀ x ∈ part, x ∈ l := by
    rw [runL_unit_iff]
    refine forall_congr' fun x => forall_congr' fun hx => ?_
    have := e2 x
    have hd : mgetT .order .bool ([] : List (Order × Bool)) x = false := rfl
    rw [hd] at this
    simp only [Bool.false_eq_true, or_false] at this
    rw [← this]
    simp only [g]
    cases mgetT .order .bool m x <;> simp
  rw [e', ← k2]
  cases h : runL g part () with
  | inl y => simp
  | inr y => simp
end Go.Sx
end
section
namespace Go.Sx
open Go.Proofs
theorem getDset0 {α : Type} (l : List α) (d r : α) (i k : Nat) (hi : i < l.length) : (l.set i r).getD k d = if k = i then r else l.getD k d := by
  rw [List.getD_eq_getElem?_getD, List.getElem?_set, List.getD_eq_getElem?_getD]
  by_cases h : k = i
  · subst h; simp [hi]
  · rw [if_neg (fun e => h e.symm), if_neg h]
theorem rev_run (l : List Int) (hl : l.length ≤ maxL) : okI (slices_Reverse_int_int_l0 l) (slices_Reverse_int_int_l0_p l) (l.length + 1) 0 (l, 0, (IntKind.i64.wrap ((l.length : Int) - 1))) ∧ runI (slices_Reverse_int_int_l0 l) (l.length + 1) 0 (l, 0, (IntKind.i64.wrap ((l.length : Int) - 1))) = .inl l.reverse := by
  unfold maxL at hl
  rw [wrapI (by omega) (by omega)]
  have key : ∀ (n k : Nat) (s : List Int), n + k = l.length + 1 → s.length = l.length → 2 * k ≤ l.length + 1 → (∀ p, p < l.length → s.getD p 0 = if p < k ∨ l.length ≤ p + k then l.getD (l.length - 1 - p) 0 else l.getD p 0) →
      okI (slices_Reverse_int_int_l0 l) (slices_Reverse_int_int_l0_p l) n k (s, (k : Int), (l.length : Int) - 1 - k) ∧ (1 ≤ n → runI (slices_Reverse_int_int_l0 l) n k (s, (k : Int), (l.length : Int) - 1 - k) = .inl l.reverse) := by
    intro n
    induction n with
    | zero => intro k s _ _ _ _; exact ⟨trivial, fun h => by omega⟩
    | succ n ih =>
      intro k s hn hs hk hp
      have hstep : slices_Reverse_int_int_l0 l k (s, (k : Int), (l.length : Int) - 1 - k) = if (k : Int) < (l.length : Int) - 1 - k then .inr ((s.set k (s.getD (l.length - 1 - k) 0)).set (l.length - 1 - k) (s.getD k 0), ((k + 1 : Nat) : Int), (l.length : Int) - 1 - ((k + 1 : Nat) : Int)) else .inl s := by
        unfold slices_Reverse_int_int_l0
        simp only
        by_cases hlt : (k : Int) < (l.length : Int) - 1 - k
        · rw [decide_eq_true hlt, if_pos hlt, wrapI (by omega) (by omega), wrapI (by omega) (by omega)]
          simp only [cond_true, Int.toNat_natCast]
          have e : ((l.length : Int) - 1 - k).toNat = l.length - 1 - k := by omega
          rw [e]
          congr 2
          congr 1
          omega
        · rw [decide_eq_false hlt, if_neg hlt]; rfl
      by_cases hlt : (k : Int) < (l.length : Int) - 1 - k
      · have hnew : ∀ p, p < l.length → ((s.set k (s.getD (l.length - 1 - k) 0)).set (l.length - 1 - k) (s.getD k 0)).getD p 0 = if p < k + 1 ∨ l.length ≤ p + (k + 1) then l.getD (l.length - 1 - p) 0 else l.getD p 0 := fun p hpl => by
          rw [getDset0 _ _ _ _ _ (by rw [List.length_set, hs]; omega), getDset0 _ _ _ _ _ (by rw [hs]; omega)]
          have h1 := hp k (by omega)
          have h2 := hp (l.length - 1 - k) (by omega)
          rw [if_neg (by omega)] at h1 h2
          by_cases q1 : p = l.length - 1 - k
          · rw [if_pos q1, if_pos (by omega), h1]
            congr 1; omega
          · rw [if_neg q1]
            by_cases q2 : p = k
            · rw [if_pos q2, if_pos (by omega), h2]
              congr 1; omega
            · rw [if_neg q2, hp p hpl]
              by_cases q3 : p < k ∨ l.length ≤ p + k
              · rw [if_pos q3, if_pos (by omega)]
              · rw [if_neg q3, if_neg (by omega)]
        have := ih (k + 1) _ (by omega) (by rw [List.length_set, List.length_set, hs]) (by omega) hnew
        refine ⟨⟨?_, fun s' hs' => ?_⟩, fun _ => ?_⟩
        · unfold slices_Reverse_int_int_l0_p
          simp only
          intro _
          have e1 : (s.set (Int.toNat (k : Int)) (s.getD (Int.toNat ((l.length : Int) - 1 - k)) 0)).length = l.length := by rw [List.length_set, hs]
          rw [hs, e1]
          omega
        · rw [hstep, if_pos hlt] at hs'
          cases hs'
          exact this.1
        · simp only [runI, hstep, if_pos hlt]
          exact this.2 (by omega)
      · refine ⟨⟨?_, fun s' hs' => ?_⟩, fun _ => ?_⟩
        · unfold slices_Reverse_int_int_l0_p
          simp only
          intro h
          rw [decide_eq_true_eq] at h
          exact absurd h hlt
        · rw [hstep, if_neg hlt] at hs'; cases hs'
        · simp only [runI, hstep, if_neg hlt]
          congr 1
          apply List.ext_getElem
          · rw [hs, List.length_reverse]
          · intro p h1 h2
            rw [List.getElem_reverse]
            have := hp p (by omega)
            rw [getD_el s 0 h1, getD_el l 0 (by omega)] at this
            rw [this]
            by_cases q : p < k ∨ l.length ≤ p + k
            · rw [if_pos q]
            · rw [if_neg q, getD_el l 0 (by omega)]
              congr 1; omega
  have h0 := key (l.length + 1) 0 l (by omega) rfl (by omega) (fun p hp => by rw [if_neg (by omega)])
  have e : (l.length : Int) - 1 - (0 : Nat) = (l.length : Int) - 1 := by omega
  rw [e] at h0
  exact ⟨h0.1, h0.2 (by omega)⟩
theorem rev_eq (l : List Int) (hl : l.length ≤ maxL) : slices_Reverse_int_int l = l.reverse := by
  unfold slices_Reverse_int_int
  rw [(rev_run l hl).2]
theorem rev_p (l : List Int) : slices_Reverse_int_int_p l := fun hl => ⟨(rev_run l hl).1, fun z hz => by rw [(rev_run l hl).2] at hz; cases hz⟩
theorem up_facts {d : District} (hr : Right1 d) : ∀ (f : Nat) (n : Int), n < (d.reaches.length : Int) → n < f → upOk d f n ∧ (upL d f n).length ≤ f ∧ ∀ x ∈ upL d f n, 0 ≤ x ∧ x < (d.reaches.length : Int)
  | 0, n, h1, h2 => ⟨by unfold upOk; omega, Nat.le_refl _, fun x hx => by cases hx⟩
  | f + 1, n, h1, h2 => by
    by_cases h0 : 0 ≤ n
    · have hup := up_lt hr (r := n.toNat) (by omega)
      rw [show ((n.toNat : Nat) : Int) = n from Int.toNat_of_nonneg h0] at hup
      have e : (d.reaches.getD n.toNat (dflt .reach)) = rch d n := rfl
      obtain ⟨i1, i2, i3⟩ := up_facts hr f (rch d n).up (by omega) (by omega)
      refine ⟨fun _ => ⟨h1, by rw [e]; exact i1⟩, ?_, fun x hx => ?_⟩
      · rw [upL, if_pos h0, e, List.length_cons]; omega
      · rw [upL, if_pos h0, e] at hx
        rcases List.mem_cons.1 hx with rfl | hx
        · exact ⟨h0, h1⟩
        · exact i3 x hx
    · refine ⟨fun h => absurd h h0, by rw [upL_end h0]; simp, fun x hx => by rw [upL_end h0] at hx; cases hx⟩
theorem canals_check_iff (d : District) (l : List Int) : canals_check d l = 0 ↔ expand_Check d = 0 ∧ ∀ x ∈ l, 0 ≤ x ∧ x < (d.reaches.length : Int) := by
  unfold canals_check
  cases h1 : (expand_Check d != 0) with
  | true => simp at h1; simp [h1]
  | false =>
    simp at h1
    simp only [cond_false, h1, true_and]
    let f : Int → Unit → Unit ⊕ Unit := fun x _ => (bif ((decide (x < 0)) || (decide (x ≥ (d.reaches.length : Int)))) then .inl () else .inr ())
    have e : runI (canals_check_l0 d l) l.length 0 () = runL f l () := runI_eq_runL f 0 l ()
    have key : runL f l () = .inr () ↔ ∀ x ∈ l, 0 ≤ x ∧ x < (d.reaches.length : Int) := by
      rw [runL_unit_iff]
      refine forall_congr' fun x => forall_congr' fun hx => ?_
      simp only [f]
      by_cases q : x < 0
      · rw [decide_eq_true q]; simp; omega
      · by_cases q2 : x ≥ (d.reaches.length : Int)
        · rw [decide_eq_true q2]; simp; omega
        · rw [decide_eq_false q, decide_eq_false q2]; simp; omega
    rw [e, ← key]
    cases h : runL f l () with
    | inl y => simp
    | inr y => simp
structure PathOk (d : District) (reach : Int) : Prop where
  chk : expand_Check d = 0
  r0 : 0 ≤ reach
  r1 : reach < (d.reaches.length : Int)
theorem PathOk.right {d : District} {reach : Int} (h : PathOk d reach) : Right1 d := check_right (by rw [h.chk]; rfl)
theorem path_iff (d : District) (reach : Int) : canals_check d [reach] = 0 ↔ PathOk d reach := by
  rw [canals_check_iff]
  exact ⟨fun ⟨h1, h2⟩ => ⟨h1, (h2 reach (by simp)).1, (h2 reach (by simp)).2⟩, fun h => ⟨h.chk, fun x hx => by rw [List.mem_singleton] at hx; subst hx; exact ⟨h.r0, h.r1⟩⟩⟩
theorem PathOk.up {d : District} {reach : Int} (h : PathOk d reach) : canals_up_p d reach ∧ (canals_up d reach).length ≤ 64 ∧ ∀ x ∈ canals_up d reach, 0 ≤ x ∧ x < (d.reaches.length : Int) := by
  have := up_facts h.right (reach.toNat + 1) reach h.r1 (by have := h.r0; omega)
  have h1 := h.right.reaches
  have h2 := h.r1
  exact ⟨this.1, by have := this.2.1; unfold canals_up; omega, this.2.2⟩
theorem canals_path_p (d : District) (reach : Int) : canals_Path_p d reach := fun h => by
  have hp := (path_iff d reach).1 (by simpa using h)
  have hu := hp.up
  exact ⟨⟨hp.r0, hu.1, by unfold maxB; omega⟩, rev_p _⟩
theorem canals_path_eq {d : District} {reach : Int} (h : PathOk d reach) : canals_Path d reach = ((canals_up d reach).reverse, 0) := by
  unfold canals_Path
  rw [(path_iff d reach).2 h, rev_eq _ (by have := h.up.2.1; unfold maxL; omega)]
  rfl
theorem path_p (d : District) (reach n : Int) : routing_path_p d reach n := canals_path_p d reach
theorem path_cases (d : District) (reach n : Int) : (PathOk d reach ∧ 0 ≤ n ∧ n ≤ 1073741824 ∧ routing_path d reach n = ((canals_up d reach).reverse, 0)) ∨ (PathOk d reach ∧ ¬ (0 ≤ n ∧ n ≤ 1073741824) ∧ routing_path d reach n = ([], 1)) ∨ (¬ PathOk d reach ∧ canals_check d [reach] ≠ 0 ∧ routing_path d reach n = ([], canals_check d [reach])) := by
  unfold routing_path
  by_cases h : PathOk d reach
  · rw [canals_path_eq h]
    simp only [bne_self_eq_false, cond_false]
    by_cases hn : 0 ≤ n ∧ n ≤ 1073741824
    · rw [decide_eq_false (by omega), decide_eq_false (by omega)]
      exact .inl ⟨h, hn.1, hn.2, rfl⟩
    · have : (decide (n < 0) || decide (n > 1073741824)) = true := by rw [Bool.or_eq_true, decide_eq_true_eq, decide_eq_true_eq]; omega
      rw [this]
      exact .inr (.inl ⟨h, hn, rfl⟩)
  · have hc : canals_check d [reach] ≠ 0 := fun e => h ((path_iff d reach).1 e)
    have e : canals_Path d reach = ([], canals_check d [reach]) := by
      unfold canals_Path
      have : (canals_check d [reach] != 0) = true := by simpa using hc
      rw [this]; rfl
    rw [e]
    have : (canals_check d [reach] != 0) = true := by simpa using hc
    simp only [this, cond_true]
    exact .inr (.inr ⟨h, hc, trivial⟩)
theorem worstR_p (d : District) (reach v : Int) : routing_Worst_p d reach v := by
  refine ⟨path_p _ _ _, fun h hl => ?_⟩
  rcases path_cases d reach v with ⟨h1, _, _, e⟩ | ⟨_, _, e⟩ | ⟨_, h2, e⟩
  · refine okI_all _ _ _ fun j s _ hj => ?_
    unfold routing_Worst_l0_p
    rw [e] at hj ⊢
    simp only at hj ⊢
    have := h1.up.2.2 _ (List.mem_reverse.1 (getD_mem' (canals_up d reach).reverse 0 (k := j) (by omega)))
    exact this
  · rw [e] at h; cases h
  · rw [e] at h
    simp only [bne_eq_false_iff_eq] at h
    exact absurd h h2
theorem back_mem (l : List Int) : ∀ (k : Nat), k ≤ l.length → ∀ x ∈ backL l k, x.2 ∈ l
  | 0, _, x, h => by cases h
  | k + 1, hk, x, h => by
    rcases List.mem_cons.1 h with rfl | h
    · exact getD_mem' l 0 (by omega)
    · exact back_mem l k (by omega) x h
theorem needR_p (d : District) (reach w : Int) : routing_Need_p d reach w := by
  refine ⟨path_p _ _ _, fun h => ?_⟩
  rcases path_cases d reach w with ⟨h1, _, _, e⟩ | ⟨_, _, e⟩ | ⟨_, h2, e⟩
  · refine okL_all _ _ fun x hx s => ?_
    rw [e] at hx
    have := h1.up.2.2 _ (List.mem_reverse.1 (back_mem _ _ (Nat.le_refl _) x hx))
    exact ⟨this, intake_p _ _⟩
  · rw [e] at h; cases h
  · rw [e] at h
    simp only [bne_eq_false_iff_eq] at h
    exact absurd h h2
theorem loads_p {d : District} {l : List Order} (h : Good d l) : routing_loads_p d l := fun _ => okI_all _ _ _ fun j s _ hj => fun ho => by
  have h1 := h.one _ (getD_mem' l default (k := j) (by omega))
  have h2 := h1.reach ho
  have h0 := h1.index0
  refine ⟨⟨h0, h2⟩, ?_⟩
  have := delay_pos h.right (r := (l.getD j default).index.toNat) (by omega)
  rw [show (((l.getD j default).index.toNat : Nat) : Int) = (l.getD j default).index from Int.toNat_of_nonneg h0] at this
  have e : (d.reaches.getD (Int.toNat (l.getD j default).index) (default : Reach)).delay = (rch d (l.getD j default).index).delay := rfl
  rw [e]; omega
theorem fits_p (d : District) (l : List Order) : routing_Fits_p d l := ⟨narrow_p _ _, fun h => by
  have hN := (narrow_iff d l).1 (by simpa using h)
  exact ⟨loads_p hN.good, by have := hN.good.right.hours; omega⟩⟩
theorem load_p (d : District) (l : List Order) (r h : Int) : routing_Load_p d l r h := ⟨narrow_p _ _, fun hn _ => loads_p ((narrow_iff d l).1 (by simpa using hn)).good⟩
theorem same_p (a b : List Order) : ref22_Same_p a b := fun _ _ h => okI_all _ _ _ fun j s _ hj => fun _ => by
  simp only [bne_eq_false_iff_eq] at h
  omega
end Go.Sx
end
section
namespace Go.Sx
open Go.Proofs Go.Shelf Go.Sort Go.Lib
theorem srt_eq {l m : List Order} (hp : m.Perm l) (hs : m.Pairwise olt) : srt routing_by_1 l = m := by
  have hk : l.Pairwise fun x y => ¬ K x y := pairwise_perm hp.symm (hs.imp fun {_ _} q => olt_ne q)
  exact List.Perm.eq_of_pairwise (fun a b _ _ h1 h2 => absurd h2 (fun h2 => by unfold olt at h1 h2; omega)) (srt_lt hk) hs ((srt_perm l).trans hp.symm)
theorem s_c11 : law22_sane_c11 = (9, true, 0) := by kernel_rfl
theorem s_c10 : law22_sane_c10 = (5, 0) := by kernel_rfl
theorem s_c9 : law22_sane_c9 = (0, 1) := by kernel_rfl
theorem s_c7 : law22_sane_c7 = ([], false, 0) := by kernel_rfl
theorem s_c5 : law22_sane_c5 = ([], false, 220) := by kernel_rfl
theorem s_c6' : law22_sane_c6 = (srt routing_by_1 [({ hour := 3, index := 0, litres := 5, outlet := true } : Order), ({ hour := 2, index := 1, litres := 7, outlet := false } : Order), ({ hour := 1, index := 0, litres := 9, outlet := false } : Order)], true, 0) := by kernel_rfl
theorem s_c6 : law22_sane_c6 = (law22_sane_c13, true, 0) := by
  rw [s_c6', srt_eq (m := law22_sane_c13) (by unfold law22_sane_c13; exact (List.reverse_perm [({ hour := 3, index := 0, litres := 5, outlet := true } : Order), ({ hour := 2, index := 1, litres := 7, outlet := false } : Order), ({ hour := 1, index := 0, litres := 9, outlet := false } : Order)])) (by
    unfold law22_sane_c13
    simp [olt])]
theorem s_c4 : law22_sane_c4 = law22_sane_c13 := by unfold law22_sane_c4; rw [s_c6]
theorem s_c0 : law22_sane_c0 = (true, 0, 0, 0) := by unfold law22_sane_c0; rw [s_c4]; kernel_rfl
theorem s_c1 : law22_sane_c1 = (12, 0) := by kernel_rfl
theorem s_c3 : law22_sane_c3 = (false, 1, 0, 0) := by kernel_rfl
theorem s_c2 : law22_sane_c2 = 0 := by kernel_rfl
theorem sane_t : law22_sane = true := by
  unfold law22_sane
  rw [s_c11, s_c10, s_c9, s_c7, s_c5, s_c6, s_c0, s_c1, s_c3, s_c2, s_c4]
  kernel_rfl
theorem sane_p : law22_sane_p := ⟨needR_p _ _ _, worstR_p _ _ _, plan_p _ _, plan_p _ _, plan_p _ _, worstR_p _ _ _, fits_p _ _, ⟨Nat.le_refl _, by unfold law22_example; simp⟩, load_p _ _ _ _, fits_p _ _, fun _ => routing_pt _ _, fun _ _ => same_p _ _⟩
theorem osum_perm {P : Order → Bool} {l m : List Order} (h : l.Perm m) : osum P l = osum P m := by
  induction h with
  | nil => rfl
  | cons x _ ih => simp only [osum, ih]
  | swap x y l => simp only [osum]; omega
  | trans _ _ ih1 ih2 => rw [ih1, ih2]
theorem osum_nn {P : Order → Bool} {l : List Order} (h : ∀ x ∈ l, 0 ≤ x.litres) : 0 ≤ osum P l := by
  induction l with
  | nil => exact Int.le_refl _
  | cons x r ih =>
    simp only [osum]
    have h1 := ih fun y hy => h y (List.mem_cons_of_mem _ hy)
    have h2 := h x List.mem_cons_self
    cases P x <;> simp only [cond_true, cond_false] <;> omega
theorem osum_dom {P : Order → Bool} (hP : ∀ x y, K x y → P x = P y) : ∀ (A B : List Order), A.Pairwise (fun x y => ¬ K x y) → (∀ x ∈ A, P x = true → ∃ z ∈ B, K z x ∧ x.litres ≤ z.litres) → (∀ z ∈ B, 0 ≤ z.litres) → osum P A ≤ osum P B
  | [], B, _, _, hB => osum_nn hB
  | x :: A, B, hA, hd, hB => by
    have hA' := (List.pairwise_cons.1 hA)
    simp only [osum]
    cases hx : P x with
    | false =>
      have := osum_dom hP A B hA'.2 (fun y hy hp => hd y (List.mem_cons_of_mem _ hy) hp) hB
      simp only [cond_false]; omega
    | true =>
      obtain ⟨z, hz, hk, hl⟩ := hd x List.mem_cons_self hx
      have hperm := osum_perm (P := P) (List.perm_cons_erase hz)
      have hPz : P z = true := by rw [hP z x hk]; exact hx
      simp only [osum, hPz, cond_true] at hperm
      have := osum_dom hP A (B.erase z) hA'.2 (fun y hy hp => by
        obtain ⟨w, hw, hkw, hlw⟩ := hd y (List.mem_cons_of_mem _ hy) hp
        refine ⟨w, ?_, hkw, hlw⟩
        have hne : w ≠ z := fun e => by
          subst e
          exact hA'.1 y hy ⟨hk.1.symm.trans hkw.1, hk.2.1.symm.trans hkw.2.1, hk.2.2.symm.trans hkw.2.2⟩
        exact (List.mem_erase_of_ne hne).2 hw) (fun w hw => hB w (List.mem_of_mem_erase hw))
      simp only [cond_true]; omega
theorem drawP_key (d : District) (r h : Int) (x y : Order) (hk : K x y) : drawP d r h x = drawP d r h y := by
  unfold drawP; rw [hk.1, hk.2.1, hk.2.2]
structure Keeps (d : District) (l : List Order) : Prop where
  good : Good d l
  sip : ∀ x ∈ l, x.outlet = false → (rch d x.index).siphon ≤ x.litres
  kept : Kept d l
theorem keeps_use {d : District} {l : List Order} (h : Keeps d l) {r hh : Int} (r0 : 0 ≤ r) (h1 : 1 ≤ drw d l r hh) : ∃ z ∈ l, z.outlet = false ∧ z.index = r ∧ z.hour = hh - (rch d r).delay ∧ drw d l r hh ≤ wst (rch d r) z.litres ∧ 1 ≤ z.litres ∧ z.litres ≤ 1073741824 ∧ (rch d r).siphon ≤ z.litres ∧ r < (d.reaches.length : Int) := by
  obtain ⟨w, e1, e2⟩ := h.kept r hh r0 h1
  obtain ⟨q1, _, _⟩ := drw_src h.good r0 (by omega : drw d l r hh ≠ 0)
  have hx : expand_reach (r.toNat : Int) (rch d r) = true := h.good.right.reach r.toNat (by omega)
  by_cases hg : glit l r (hh - (rch d r).delay) = 0
  · exfalso
    rw [hg, losses_worst hx (Int.le_refl 0) (by omega), wst_zero hx] at e1
    cases e1; omega
  · obtain ⟨z, hz, z1, z2, z3, z4⟩ := glit_ne h.good.keys hg
    have hl := h.good.orders.lit z hz
    rw [← z4, losses_worst hx (by omega) hl.2] at e1
    cases e1
    have := h.sip z hz z1
    rw [z2] at this
    exact ⟨z, hz, z1, z2, z3, e2, hl.1, hl.2, this, q1⟩
theorem least_dom {d : District} {out gs l : List Order} (hr : Right1 d) (hk : (out ++ gs).Pairwise fun x y => ¬ K x y) (hg : ∀ x ∈ gs, PG d (out ++ gs) x) (hout : ∀ x ∈ out, x ∈ l) (hl : Keeps d l) :
    ∀ (n : Nat) (x : Order), x ∈ gs → (d.reaches.length : Int) - x.index ≤ n → ∃ z ∈ l, K z x ∧ x.litres ≤ z.litres := by
  intro n
  induction n with
  | zero => intro x hx hn; have := (hg x hx).i1; omega
  | succ n ih =>
    intro x hx hn
    have g := hg x hx
    have hD : drw d (out ++ gs) x.index (x.hour + (rch d x.index).delay) ≤ drw d l x.index (x.hour + (rch d x.index).delay) := by
      refine osum_dom (drawP_key d _ _) _ _ hk (fun y hy hp => ?_) fun z hz => by have := hl.good.orders.lit z hz; omega
      rcases List.mem_append.1 hy with hy | hy
      · exact ⟨y, hout y hy, ⟨rfl, rfl, rfl⟩, Int.le_refl _⟩
      · have gy := hg y hy
        refine ih y hy ?_
        unfold drawP at hp
        rw [gy.out] at hp
        simp only [Bool.false_and, Bool.not_false, Bool.true_and, Bool.false_or, Bool.and_eq_true, beq_iff_eq] at hp
        have i0 := gy.i0; have i1 := gy.i1
        have := up_lt hr (r := y.index.toNat) (by omega)
        rw [show ((y.index.toNat : Nat) : Int) = y.index from Int.toNat_of_nonneg i0] at this
        have e : (rch d y.index).up = x.index := hp.2
        omega
    have h1 := g.w
    obtain ⟨z, hz, z1, z2, z3, z4, z5, z6, z7, _⟩ := keeps_use hl g.i0 (by omega : 1 ≤ drw d l x.index (x.hour + (rch d x.index).delay))
    refine ⟨z, hz, ⟨by rw [z3]; omega, z2, by rw [z1, g.out]⟩, ?_⟩
    exact (gate_lit hr g).2.2.2.2 z.litres (by omega) z6 z7 (by omega)
theorem out_keys {d : District} {out gs : List Order} (ho : Good d out) (hall : ∀ x ∈ out, x.outlet = true) (hg : ∀ x ∈ gs, x.outlet = false) (hu : gs.Pairwise fun x y => ¬ (x.index = y.index ∧ x.hour = y.hour)) : (out ++ gs).Pairwise fun x y => ¬ K x y := by
  rw [List.pairwise_append]
  refine ⟨ho.keys, hu.imp fun {x y} q k => q ⟨k.2.1, k.1⟩, fun x hx y hy k => ?_⟩
  have := k.2.2
  rw [hall x hx, hg y hy] at this
  cases this
theorem no_fail {d : District} {out gs l : List Order} {r h : Nat} (ho : Good d out) (hall : ∀ x ∈ out, x.outlet = true) (hx : PX d out gs r h) (hout : ∀ x ∈ out, x ∈ l) (hl : Keeps d l) : False := by
  obtain ⟨m, p⟩ := hx.part
  have hr := ho.right
  have hk := out_keys ho hall (fun x hx => (p.gate x hx).1.out) p.uniq
  have hdom := least_dom hr hk (fun x hx => (p.gate x hx).1) hout hl
  have hD : drw d (out ++ gs) r h ≤ drw d l r h := by
    refine osum_dom (drawP_key d _ _) _ _ hk (fun y hy hp => ?_) fun z hz => by have := hl.good.orders.lit z hz; omega
    rcases List.mem_append.1 hy with hy | hy
    · exact ⟨y, hout y hy, ⟨rfl, rfl, rfl⟩, Int.le_refl _⟩
    · exact hdom d.reaches.length y hy (by have := (p.gate y hy).1.i0; omega)
  have hw := hx.w
  obtain ⟨z, hz, z1, z2, z3, z4, z5, z6, z7, _⟩ := keeps_use hl (by omega : (0 : Int) ≤ r) (by omega : 1 ≤ drw d l r h)
  rcases hx.no with q | q
  · rcases intake_ok (i := (r : Int)) (by omega) (hr.reach r hx.r1) hw with ⟨v, e, _⟩ | ⟨_, e⟩
    · have : (routing_intake (rch d r) (drw d (out ++ gs) r h)).2 = true := by
        have e' : routing_intake (rch d r) (drw d (out ++ gs) r h) = (v, true) := e
        rw [e']
      rw [this] at q; cases q
    · have := e z.litres (by omega) z6
      have e' : wst (d.reaches.getD r default) z.litres = wst (rch d r) z.litres := rfl
      omega
  · have := (hl.good.one z hz).hour0
    omega
theorem plan_keeps {d : District} {out gs : List Order} (ho : Good d out) (hall : ∀ x ∈ out, x.outlet = true) (h : PL d out gs) : Keeps d (srt routing_by_1 (out ++ gs)) := by
  have hr := ho.right
  have hperm := srt_perm (out ++ gs)
  have hk := fin_keys ho hall h.fin
  refine ⟨h.good, fun x hx hxo => ?_, fun r hh r0 h1 => ?_⟩
  · rcases List.mem_append.1 (hperm.mem_iff.1 hx) with q | q
    · rw [hall x q] at hxo; cases hxo
    · exact (gate_lit hr (h.fin.gate x q)).2.2.1
  · have hd : drw d (srt routing_by_1 (out ++ gs)) r hh = drw d (out ++ gs) r hh := osum_perm hperm
    obtain ⟨q1, q2, q3⟩ := drw_src h.good r0 (by omega : drw d (srt routing_by_1 (out ++ gs)) r hh ≠ 0)
    obtain ⟨x, hx, e1, e2⟩ := h.fin.all r hh r0 q1 q2 q3 (by omega)
    have g := h.fin.gate x hx
    have gl := gate_lit hr g
    rw [e1, e2] at gl
    have hxr : expand_reach (r.toNat : Int) (rch d r) = true := hr.reach r.toNat (by omega)
    have hg : glit (srt routing_by_1 (out ++ gs)) r (hh - (rch d r).delay) = x.litres := by
      have e : glit (srt routing_by_1 (out ++ gs)) x.index x.hour = x.litres := glit_mem h.good.keys (hperm.mem_iff.2 (List.mem_append_right _ hx)) g.out
      rw [e1, show x.hour = hh - (rch d r).delay by omega] at e
      exact e
    refine ⟨wst (rch d r) x.litres, ?_, by rw [hd]; exact gl.2.2.2.1⟩
    rw [hg]
    exact losses_worst hxr (by omega) gl.2.1
end Go.Sx
end
section
namespace Go.Sx
open Go.Proofs Go.Shelf Go.Sort Go.Lib
theorem keeps_iff (d : District) (l out : List Order) : ((((routing_Check d l) != 0) || (!(law22_contains l out))) || (!(law22_siphons d l))) = false → routing_Check d l = 0 := fun h => by
  simp only [Bool.or_eq_false_iff, bne_eq_false_iff_eq] at h
  exact h.1.1
theorem keeps_of {d : District} {l out : List Order} (h : (((((routing_Check d l) != 0) || (!(law22_contains l out))) || (!(law22_siphons d l))) || (!(law22_kept d l))) = false) : Keeps d l ∧ ∀ x ∈ out, x ∈ l := by
  simp only [Bool.or_eq_false_iff, bne_eq_false_iff_eq, Bool.not_eq_false'] at h
  have hg := good_of h.1.1.1
  exact ⟨⟨hg, (siphons_iff hg).1 h.1.2, (kept_iff hg).1 h.2⟩, (contains_iff l out).1 h.1.1.2⟩
theorem keeps_to {d : District} {l out : List Order} (h : Keeps d l) (ho : ∀ x ∈ out, x ∈ l) : (((((routing_Check d l) != 0) || (!(law22_contains l out))) || (!(law22_siphons d l))) || (!(law22_kept d l))) = false := by
  simp only [Bool.or_eq_false_iff, bne_eq_false_iff_eq, Bool.not_eq_false']
  exact ⟨⟨⟨check_of h.good, (contains_iff l out).2 ho⟩, (siphons_iff h.good).2 h.sip⟩, (kept_iff h.good).2 h.kept⟩
theorem gates_of {d : District} {l : List Order} (h : Good d l) : SM .acequialaw22Place (fun p => glit l p.reach p.hour) (law22_gates l) := gates_ok h.keys fun x hx => (h.orders.lit x hx).1
theorem least_t (d : District) (out l : List Order) : law22_RoutingLeast d out l = true := by
  unfold law22_RoutingLeast
  rw [sane_t]
  simp only [Bool.not_true, cond_false]
  cases hf : (!(ref22_Few d out) || !(ref22_Few d l)) with
  | true => rfl
  | false =>
    simp only [cond_false]
    rcases plan_cases d out with ⟨hn, e⟩ | ⟨_, _, e⟩ | ⟨hN, hall, ⟨gs, r, h, hx⟩, e⟩ | ⟨_, _, gs, _, _, e⟩ | ⟨hN, hall, gs, hP, e⟩
    · rw [e]
      have : (routing_narrow d out != 0) = true := by simpa using hn
      simp only [this, cond_true]; rfl
    · rw [e]; rfl
    · rw [e]
      simp only [bne_self_eq_false, cond_false, Bool.not_false, Bool.true_and, Bool.false_and, Bool.or_false, List.length_nil]
      have e0 : decide (((0 : Nat) : Int) > 0) = false := by decide
      rw [e0]
      simp only [cond_false]
      cases hk : (((((routing_Check d l) != 0) || (!(law22_contains l out))) || (!(law22_siphons d l))) || (!(law22_kept d l))) with
      | true => rfl
      | false =>
        obtain ⟨h1, h2⟩ := keeps_of hk
        exact (no_fail hN.good hall hx h2 h1).elim
    · rw [e]; rfl
    · rw [e]
      have hperm := srt_perm (out ++ gs)
      have hkp := plan_keeps hN.good hall hP
      have hcon : ∀ x ∈ out, x ∈ srt routing_by_1 (out ++ gs) := fun x hx => hperm.mem_iff.2 (List.mem_append_left _ hx)
      simp only [bne_self_eq_false, cond_false, Bool.not_true, Bool.false_and, Bool.true_and, Bool.false_or]
      rw [keeps_to hkp hcon]
      simp only [cond_false]
      cases hk : (((((routing_Check d l) != 0) || (!(law22_contains l out))) || (!(law22_siphons d l))) || (!(law22_kept d l))) with
      | true => rfl
      | false =>
        obtain ⟨h1, h2⟩ := keeps_of hk
        simp only [cond_false]
        have hrun : runL (law22_RoutingLeast_l0 d out l) (law22_gates (srt routing_by_1 (out ++ gs))) () = .inr () := by
          refine runL_unit_iff.2 fun x hx => ?_
          obtain ⟨q1, q2⟩ := (gates_of hkp.good).entry hx
          obtain ⟨y, hy, y1, y2, y3, y4⟩ := glit_ne hkp.good.keys (by omega : glit (srt routing_by_1 (out ++ gs)) x.1.reach x.1.hour ≠ 0)
          have hyg : y ∈ gs := by
            rcases List.mem_append.1 (hperm.mem_iff.1 hy) with q | q
            · rw [hall y q] at y1; cases y1
            · exact q
          obtain ⟨z, hz, hzk, hzl⟩ := least_dom hN.good.right (fin_keys hN.good hall hP.fin) hP.fin.gate h2 h1 d.reaches.length y hyg (by have := (hP.fin.gate y hyg).i0; omega)
          unfold law22_RoutingLeast_l0
          rw [(gates_of h1.good).get]
          have hzo : z.outlet = false := by rw [hzk.2.2]; exact y1
          have e1 := glit_mem h1.good.keys hz hzo
          rw [hzk.2.1, hzk.1, y2, y3] at e1
          have hle : ¬ glit l x.1.reach x.1.hour < x.2 := by omega
          rw [decide_eq_false hle]; rfl
        rw [hrun]
theorem least_p (d : District) (out l : List Order) : law22_RoutingLeast_p d out l := ⟨sane_p, fun _ _ => ⟨plan_p _ _, fun _ => ⟨fun _ _ => routing_pt _ _, fun _ _ _ => siphons_p _ _, fun _ _ h => kept_p (good_of (keeps_iff _ _ _ h)), fun _ => ⟨routing_pt _ _, fun _ => siphons_p _ _, fun h => kept_p (good_of (keeps_iff _ _ _ h)), fun _ _ => okM_unit fun _ _ => trivial⟩⟩⟩⟩
end Go.Sx
end
section
namespace Go.Sx
open Go.RowKit Go.Deep
section
variable {F : Nat → Prop} {own : Own} {w : World}
def RC (F : Nat → Prop) (own : Own) (w : World) (ks : List Kd) (cs : List Value) : Prop :=
  ∃ l : List SV, fits ks l = true ∧ l.length = cs.length ∧ ∀ (j : Nat) (s : SV) (v : Value), l[j]? = some s → cs[j]? = some v → Rel F own w s v
theorem fits_app : ∀ {a b : List Kd} {l m : List SV}, fits a l = true → fits b m = true → fits (a ++ b) (l ++ m) = true
  | [], b, l, m, h1, h2 => by rw [fits_nil h1]; exact h2
  | k :: a, b, l, m, h1, h2 => by
    obtain ⟨x, r, rfl, e1, e2⟩ := fits_cons h1
    simp only [List.cons_append, fits, e1, fits_app e2 h2, Bool.and_self]
theorem RC.nil : RC F own w [] [] := ⟨[], rfl, rfl, fun j s v h => by cases h⟩
theorem RC.app {a b : List Kd} {c d : List Value} (h1 : RC F own w a c) (h2 : RC F own w b d) : RC F own w (a ++ b) (c ++ d) := by
  obtain ⟨l, f1, n1, r1⟩ := h1
  obtain ⟨m, f2, n2, r2⟩ := h2
  refine ⟨l ++ m, fits_app f1 f2, by simp [n1, n2], fun j s v hs hv => ?_⟩
  by_cases hj : j < l.length
  · rw [List.getElem?_append_left hj] at hs
    rw [List.getElem?_append_left (by omega)] at hv
    exact r1 j s v hs hv
  · rw [List.getElem?_append_right (by omega)] at hs
    rw [List.getElem?_append_right (by omega), ← n1] at hv
    exact r2 _ s v hs hv
theorem RC.one {k : Kd} {s : SV} {v : Value} (h1 : fit k s = true) (h2 : Rel F own w s v) : RC F own w [k] [v] :=
  ⟨[s], by simp [fits, h1], rfl, fun j s' v' hs hv => by
    cases j with
    | zero => simp only [List.getElem?_cons_zero, Option.some.injEq] at hs hv; subst hs; subst hv; exact h2
    | succ j => simp at hs⟩
end
def eqKd : Kd → Kd → Bool
  | .s, .s => true
  | .b, .b => true
  | .n a, .n b => decide (a = b)
  | .r a, .r b => decide (a = b)
  | .m a c, .m b d => decide (a = b) && decide (c = d)
  | _, _ => false
theorem eqKd_ok : ∀ {a b : Kd}, eqKd a b = true → a = b := by
  intro a b h
  cases a <;> cases b <;> simp_all [eqKd]
def eqKs : List Kd → List Kd → Bool
  | [], [] => true
  | a :: l, b :: m => eqKd a b && eqKs l m
  | _, _ => false
theorem eqKs_ok : ∀ {a b : List Kd}, eqKs a b = true → a = b
  | [], [], _ => rfl
  | a :: l, b :: m, h => by
    simp only [eqKs, Bool.and_eq_true] at h
    rw [eqKd_ok h.1, eqKs_ok h.2]
def kindsF (P : Program) (g : TypeId → Option (List Kd)) : List Field → Nat → Nat → Option (List Kd)
  | [], off, tot => bif Nat.beq off tot then some [] else none
  | f :: r, off, tot => match g f.type with
    | some a => bif Nat.beq f.offset off && Nat.beq a.length (P.cellsOf f.type) then (kindsF P g r (off + a.length) tot).map (a ++ ·) else none
    | none => none
def kindsA (a : List Kd) : Nat → List Kd
  | 0 => []
  | n + 1 => a ++ kindsA a n
def kindsT (P : Program) : Nat → TypeId → Option (List Kd)
  | 0, _ => none
  | n + 1, t => match P.underlying t with
    | some .bool => some [.b]
    | some (.int k) => some [.n k]
    | some .string => some [.s]
    | some (.slice e) => match tagT P e, kindsT P n e with
      | some k, some ks => bif eqKs ks (kindsOf k) && Nat.beq (P.cellsOf e) (sizeOfTag k) && Nat.ble 1 (sizeOfTag k) then some [.r k] else none
      | _, _ => none
    | some (.struct fs) => kindsF P (kindsT P n) fs.toList 0 (P.cellsOf t)
    | some (.array m e) => match kindsT P n e with
      | some a => bif Nat.beq a.length (P.cellsOf e) && Nat.beq (P.cellsOf t) (m * a.length) then some (kindsA a m) else none
      | none => none
    | _ => none
section
variable {H : Type} {enc : TypeId × Value → H} {P : Program} {F : Nat → Prop} {own : Own} {w : World} {base : Nat} {spare : Nat → Bool} {held : Bool} {S : DataW H → Prop}
theorem kF_read {g : TypeId → Option (List Kd)} (hg : ∀ t ks, g t = some ks → ∀ (fuel : Nat) (cs : List Value) (x : DataW H × List MemPlace), DataW.trod enc P w base spare held fuel t cs = some x → S x.1 → RC F own w ks cs)
    (fuel : Nat) (cs : List Value) : ∀ (fs : List Field) (off : Nat) (ks : List Kd), kindsF P g fs off cs.length = some ks → (∀ f ∈ fs, ∃ x, DataW.trod enc P w base spare held fuel f.type ((cs.drop f.offset).take (P.cellsOf f.type)) = some x ∧ S x.1) → RC F own w ks (cs.drop off)
  | [], off, ks, h, _ => by
    unfold kindsF at h
    cases hb : Nat.beq off cs.length with
    | false => rw [hb] at h; cases h
    | true =>
      rw [hb] at h
      have : off = cs.length := Nat.eq_of_beq_eq_true hb
      subst this
      cases h
      rw [List.drop_length]
      exact RC.nil
  | f :: r, off, ks, h, hx => by
    unfold kindsF at h
    cases ha : g f.type with
    | none => rw [ha] at h; cases h
    | some a =>
      rw [ha] at h
      dsimp only at h
      cases hb : Nat.beq f.offset off && Nat.beq a.length (P.cellsOf f.type) with
      | false => rw [hb] at h; cases h
      | true =>
        rw [hb] at h
        simp only [cond_true, Option.map_eq_some_iff] at h
        obtain ⟨ks2, h2, rfl⟩ := h
        rw [Bool.and_eq_true] at hb
        have e1 : f.offset = off := Nat.eq_of_beq_eq_true hb.1
        have e2 : a.length = P.cellsOf f.type := Nat.eq_of_beq_eq_true hb.2
        obtain ⟨x, hx1, hs1⟩ := hx f (by simp)
        have h3 := hg _ _ ha _ _ _ hx1 hs1
        have h4 := kF_read hg fuel cs r (off + a.length) ks2 h2 fun f hf => hx f (by simp [hf])
        have := h3.app h4
        rw [e1, ← e2] at this
        rwa [← List.drop_drop, List.take_append_drop] at this
theorem kA_read {e : TypeId} {a : List Kd} (ha : ∀ (fuel : Nat) (cs : List Value) (x : DataW H × List MemPlace), DataW.trod enc P w base spare held fuel e cs = some x → S x.1 → RC F own w a cs)
    (fuel : Nat) : ∀ (m : Nat) (cs : List Value), cs.length = m * a.length → (∀ i, i < m → ∃ x, DataW.trod enc P w base spare held fuel e ((cs.drop (i * a.length)).take a.length) = some x ∧ S x.1) → RC F own w (kindsA a m) cs
  | 0, cs, h, _ => by
    have : cs = [] := by simpa using h
    subst this
    exact RC.nil
  | m + 1, cs, h, hx => by
    obtain ⟨x, hx1, hs1⟩ := hx 0 (by omega)
    rw [Nat.zero_mul, List.drop_zero] at hx1
    have h3 := ha _ _ _ hx1 hs1
    have h4 := kA_read ha fuel m (cs.drop a.length) (by rw [List.length_drop, h, Nat.succ_mul]; omega) fun i hi => by
      obtain ⟨x, hx2, hs2⟩ := hx (i + 1) (by omega)
      refine ⟨x, ?_, hs2⟩
      rw [List.drop_drop]
      rwa [Nat.succ_mul, Nat.add_comm] at hx2
    have := h3.app h4
    rwa [List.take_append_drop] at this
structure Small (S : DataW H → Prop) : Prop where
  agg : ∀ l, S (.agg l) → ∀ d ∈ l, S d
  slice : ∀ l m, S (.slice l m) → l.length ≤ maxL ∧ ∀ d ∈ l, S d
theorem kinds_read (hS : Small S) (hown : ∀ b, ¬ ownB F own b) : ∀ (n : Nat) (t : TypeId) (ks : List Kd), kindsT P n t = some ks → ∀ (fuel : Nat) (cs : List Value) (x : DataW H × List MemPlace), DataW.trod enc P w base spare held fuel t cs = some x → S x.1 → RC F own w ks cs
  | 0, _, _, h, _, _, _, _, _ => by cases h
  | n + 1, t, ks, h, fuel, cs, x, hx, hs => by
    unfold kindsT at h
    split at h
    · rename_i ht
      cases h
      obtain ⟨b, rfl, rfl⟩ := DataW.trod_bool ht hx
      exact RC.one (s := .v (.bool b)) rfl (.v _)
    · rename_i k ht
      cases h
      obtain ⟨m, rfl, rfl, _⟩ := DataW.trod_int ht hx
      exact RC.one (s := .v (.int k m)) (by simp [fit]) (.v _)
    · rename_i ht
      cases h
      obtain ⟨b, rfl, rfl, _⟩ := DataW.trod_string ht hx
      exact RC.one (s := .v (.string b)) rfl (.v _)
    · rename_i e ht
      split at h
      · rename_i k ks2 hk hks
        cases hb : eqKs ks2 (kindsOf k) && Nat.beq (P.cellsOf e) (sizeOfTag k) && Nat.ble 1 (sizeOfTag k) with
        | false => rw [hb] at h; cases h
        | true =>
          rw [hb] at h
          cases h
          simp only [Bool.and_eq_true] at hb
          have e1 := eqKs_ok hb.1.1
          have e2 : P.cellsOf e = sizeOfTag k := Nat.eq_of_beq_eq_true hb.1.2
          have e3 : 1 ≤ sizeOfTag k := Nat.le_of_ble_eq_true hb.2
          subst e1
          rcases open_slice ht hx with ⟨rfl, rfl⟩ | ⟨a, len, cap, m, f2, D, Pl, rfl, hb1, hl, hm, hmm, rfl, hel⟩
          · exact RC.one (s := .rs k []) (by simp [fit]) .rs0
          · have hlm : len ≤ m := by subst hmm; split <;> omega
            obtain ⟨hs1, hs2⟩ := hS.slice _ _ hs
            simp only [List.length_map, List.length_range] at hs1
            have helt : ∀ i, i < len → ∃ cs', cs'.length = sizeOfTag k ∧ (∀ j v, cs'[j]? = some v → w.cell? ((a.add (i * sizeOfTag k)).add j) = some v) ∧ RC F own w (kindsOf k) cs' := fun i hi => by
              obtain ⟨cs', h1, h2⟩ := hel i (by omega)
              have h3 := kinds_read hS hown n e (kindsOf k) hks f2 cs' _ h2 (hs2 _ (List.mem_map_of_mem (List.mem_range.2 hi)))
              unfold World.cells? at h1
              split at h1
              · refine ⟨cs', by rw [mapM_some_length h1, List.length_range, e2], fun j v hj => ?_, h3⟩
                have hlt : j < P.cellsOf e := by
                  have := (List.getElem?_eq_some_iff.1 hj).1
                  rwa [mapM_some_length h1, List.length_range] at this
                have := mapM_some_get h1 j j (by simp [hlt])
                rw [e2] at this
                rw [this, hj]
              · cases h1
            by_cases h0 : len = 0
            · subst h0
              exact RC.one (s := .rs k []) (by simp [fit]) .rs0
            · have hsp : a.spot = none := by
                obtain ⟨cs', h1, h2, _⟩ := helt 0 (by omega)
                have := h2 0 (cs'[0]'(by omega)) (by rw [List.getElem?_eq_getElem])
                rw [Nat.zero_mul] at this
                simp only [Addr.add, if_true] at this
                unfold World.cell? at this
                split at this
                · cases hsp : a.spot with
                  | none => rfl
                  | some q => rw [hsp] at this; simp at this
                · cases this
              obtain ⟨ab, ao, asp⟩ := a
              dsimp only at hsp
              subst hsp
              haveI : Inhabited k.T := ⟨dflt k⟩
              obtain ⟨X, hX⟩ := choose_lt (p := fun i (x : k.T) => ∀ (j : Nat) (s : SV), (cellsOf k x)[j]? = some s → ∃ v, w.cell? ⟨ab, ao + i * sizeOfTag k + j, none⟩ = some v ∧ Rel F own w s v) (n := len) fun i hi => by
                obtain ⟨cs', h1, h2, l, h3, h4, h5⟩ := helt i hi
                refine ⟨mkE k l, fun j s hj => ?_⟩
                rw [elemO_cells (k := k) (l := l) (x := mkE k l) (by unfold elemO; rw [h3]; rfl)] at hj
                have hlt : j < cs'.length := by
                  have := (List.getElem?_eq_some_iff.1 hj).1
                  omega
                refine ⟨cs'[j], ?_, h5 j s _ hj (List.getElem?_eq_getElem hlt)⟩
                have := h2 j cs'[j] (List.getElem?_eq_getElem hlt)
                have hadd : ∀ p q, ((⟨ab, ao, none⟩ : Addr).add p).add q = ⟨ab, ao + p + q, none⟩ := fun p q => by
                  unfold Addr.add
                  by_cases hp : p = 0 <;> by_cases hq : q = 0 <;> simp [hp, hq]
                rwa [hadd] at this
              have hL : ((List.range len).map X).length = len := by simp
              refine RC.one (s := .rs k ((List.range len).map X)) (by simp [fit]) ?_
              have hget : ∀ (i : Nat) (x : k.T), ((List.range len).map X)[i]? = some x → i < len ∧ x = X i := fun i x hi => by
                obtain ⟨h1, h2⟩ := List.getElem?_eq_some_iff.1 hi
                rw [hL] at h1
                simp only [List.getElem_map, List.getElem_range] at h2
                subst h2
                exact ⟨h1, rfl⟩
              have := Rel.rs (F := F) (own := own) (w := w) (k := k) (l := (List.range len).map X) (b := ab) (o := ao) (cap := cap) (fun i j => (w.cell? ⟨ab, ao + i * sizeOfTag k + j, none⟩).getD undef) (by rw [hL]; exact hl) (by rw [hL]; exact hs1)
                (fun i x hi j s hj => by
                  obtain ⟨h1, rfl⟩ := hget i x hi
                  obtain ⟨v, h2, _⟩ := hX i h1 j s hj
                  exact ⟨hown _, by rw [h2]; rfl⟩)
                (fun i x hi j s hj => by
                  obtain ⟨h1, rfl⟩ := hget i x hi
                  obtain ⟨v, h2, h3⟩ := hX i h1 j s hj
                  rw [h2]; exact h3)
              rwa [hL] at this
      · cases h
    · rename_i fs ht
      obtain ⟨xs, m, rfl, rfl, hl, hlen, hf⟩ := DataW.trod_struct ht hx
      rw [← hl] at h
      have := kF_read (kinds_read hS hown n) m cs fs.toList 0 ks h fun f hfm => by
        obtain ⟨i, hi, rfl⟩ := List.getElem_of_mem hfm
        have hi' : i < fs.size := by simpa using hi
        have h1 := hf i fs[i] (by simp [hi'])
        rw [List.getElem?_eq_getElem (by omega)] at h1
        refine ⟨_, by simpa using h1, hS.agg _ hs _ (List.mem_map_of_mem (List.getElem_mem _))⟩
      simpa using this
    · rename_i m e ht
      split at h
      · rename_i a ha
        cases hb : Nat.beq a.length (P.cellsOf e) && Nat.beq (P.cellsOf t) (m * a.length) with
        | false => rw [hb] at h; cases h
        | true =>
          rw [hb] at h
          cases h
          rw [Bool.and_eq_true] at hb
          have e1 : a.length = P.cellsOf e := Nat.eq_of_beq_eq_true hb.1
          have e2 : P.cellsOf t = m * a.length := Nat.eq_of_beq_eq_true hb.2
          obtain ⟨xs, f2, rfl, rfl, hl, hlen, hf⟩ := DataW.trod_array ht hx
          refine kA_read (kinds_read hS hown n e a ha) f2 m cs (by rw [hl, e2]) fun i hi => ?_
          have h1 := hf i hi
          rw [List.getElem?_eq_getElem (by omega), ← e1] at h1
          exact ⟨_, h1, hS.agg _ hs _ (List.mem_map_of_mem (List.getElem_mem _))⟩
      · cases h
    · cases h
end
end Go.Sx
end
section
namespace Go.Sx
open Go.Proofs
section
variable {F : Nat → Prop} {own : Own} {w : World}
theorem agg_rel {k : Tag} {cs : Array Value} (h : RC F own w (kindsOf k) cs.toList) : ∃ x : k.T, Rel F own w (.agg (cellsOf k x)) (.agg cs) := by
  obtain ⟨l, h3, h4, h5⟩ := h
  refine ⟨mkE k l, ?_⟩
  rw [elemO_cells (k := k) (l := l) (x := mkE k l) (by unfold elemO; rw [h3]; rfl)]
  refine .agg (by simpa using h4.symm) fun j s hj => ?_
  have hlt : j < cs.size := by
    have := (List.getElem?_eq_some_iff.1 hj).1
    simpa [h4] using this
  exact h5 j s _ hj (by simp [Array.getD, hlt])
theorem sl_rel {k : Tag} {v : Value} (h : RC F own w [.r k] [v]) : ∃ l : List k.T, Rel F own w (.rs k l) v := by
  obtain ⟨l, h3, h4, h5⟩ := h
  obtain ⟨x, r, rfl, h6, h7⟩ := fits_cons h3
  have h8 := h5 0 x v rfl rfl
  cases x with
  | rs k' l' =>
    have : k = k' := by
      simp only [fit] at h6
      exact tagN_inj h6
    subst this
    exact ⟨l', h8⟩
  | _ => simp [fit] at h6
end
end Go.Sx
end
section
namespace Go.Sx
open Go.RowKit Go.WideShapes Go.ChangeShapes
section
variable {H : Type} {enc : TypeId × Value → H} {P : Program}
def okTs (P : Program) : List TypeId → Bool
  | [] => true
  | t :: r => P.readableRec t && Nat.blt t P.types.size && okTs P r
theorem all_stays (hl : laidOutB P = true) {W W' : World} (hg : Below W.heap.size W W') : ∀ {ts : List TypeId} {vs : List Value} {ds : List (DataW H)} {ps : List MemPlace}, okTs P ts = true →
    DataW.TrodAll enc P W 0 (fun _ => true) true ts vs ds ps → (∀ x ∈ ps, x.block < W.heap.size) → DataW.TrodAll enc P W' 0 (fun b => decide (b < W.heap.size)) true ts vs ds ps
  | [], vs, ds, ps, _, h, _ => by
    obtain ⟨rfl, rfl, rfl⟩ := trodAll_nil h
    exact trodAll_mk0
  | t :: ts, vs, ds, ps, hk, h, hlt => by
    unfold okTs at hk
    rw [Bool.and_eq_true, Bool.and_eq_true] at hk
    obtain ⟨v, vs', d, ds', p, q, rfl, rfl, rfl, h1, h2⟩ := trodAll_cons h
    refine trodAll_cons_mk (WideElems.Trod_stays hl hk.1.1 (by simpa [Nat.blt_eq] using hk.1.2) h1 (fun x hx => hg.same (hlt x (List.mem_append_left _ hx))) (fun x hx => by simpa using hlt x (List.mem_append_left _ hx))) ?_
    exact all_stays hl hg hk.2 h2 fun x hx => hlt x (List.mem_append_right _ hx)
theorem law_post (hl : laidOutB P = true) {f : Func} {s : ChangeSpec} {W W' : World} {args : Array Value} {ds gs : List (DataW H)} {before : List MemPlace} {t : TypeId}
    (hk : okTs P f.params.toList = true) (hW : DataW.Whole enc P f.params.toList s.vars false W args.toList ds gs before)
    (hr : f.resultTypes = #[t]) (ht : P.underlying t = some .bool) (hv : s.vars = []) (h1 : (s.fn H (ds ++ gs)).results = [.lit (.bool true)]) (h2 : (s.fn H (ds ++ gs)).args = ds) (h3 : (s.fn H (ds ++ gs)).vars = [])
    (hg : Below W.heap.size W W') : s.post enc P f false true false false W args (.bool true) W' := by
  have hlt := hW.lt
  have hW0 := hW
  obtain ⟨p, q, hA, hV, rfl, _, _⟩ := hW
  rw [hv] at hV
  obtain ⟨rfl, rfl⟩ := trodVars_none hV
  refine ⟨ds, [], p ++ [], [], p, [], hW0, ?_, ?_, ?_, ?_, fun h => by cases h⟩
  · rw [h1, hr]
    exact trodAll_cons_mk (shut_bool ht _) trodAll_mk0
  · rw [h2]
    exact all_stays hl hg hk hA fun x hx => hlt x (by simpa using hx)
  · rw [h3, hv]
    rfl
  · exact World.keptBut_mono (fun x hx => ⟨hx, .inr (.inl (by simpa using hx))⟩) (hg.frame (· ∈ p ++ []))
end
end Go.Sx
end
section
namespace Go.Proofs.Ytkblpdepdncnmaa.bulks
theorem one_le {H : Type} (d : DataW H) : 1 ≤ Rows.uptoBulk d := by
  cases d with
  | lit l => cases l <;> simp [Rows.uptoBulk]
  | nil => simp [Rows.uptoBulk]
  | ptr d => simp [Rows.uptoBulk]
  | slice elems spare => simp [Rows.uptoBulk]
  | agg parts => simp [Rows.uptoBulk]
  | iface t d => simp [Rows.uptoBulk]
  | map entries => simp [Rows.uptoBulk]
  | held h => simp [Rows.uptoBulk]
theorem part_le {H : Type} {d : DataW H} {l : List (DataW H)} (h : d ∈ l) : Rows.uptoBulk d ≤ Rows.uptoBulkAll l := by
  induction l with
  | nil => cases h
  | cons x r ih =>
    simp only [Rows.uptoBulkAll]
    cases List.mem_cons.1 h with
    | inl e => subst e; omega
    | inr e => have := ih e; omega
theorem append {H : Type} (l r : List (DataW H)) : Rows.uptoBulkAll (l ++ r) = Rows.uptoBulkAll l + Rows.uptoBulkAll r := by
  induction l with
  | nil => simp [Rows.uptoBulkAll]
  | cons x l ih => simp only [List.cons_append, Rows.uptoBulkAll, ih]; omega
theorem length_le {H : Type} (l : List (DataW H)) : l.length ≤ Rows.uptoBulkAll l := by
  induction l with
  | nil => simp [Rows.uptoBulkAll]
  | cons x r ih => have := one_le x; simp only [Rows.uptoBulkAll, List.length_cons]; omega
theorem slice_le {H : Type} (elems spare : List (DataW H)) : elems.length + spare.length + 1 ≤ Rows.uptoBulk (.slice elems spare) := by
  have h1 := length_le elems
  have h2 := length_le spare
  simp only [Rows.uptoBulk]
  omega
theorem slice_elems {H : Type} (elems spare : List (DataW H)) : Rows.uptoBulkAll elems + 1 ≤ Rows.uptoBulk (.slice elems spare) := by
  simp only [Rows.uptoBulk]
  omega
theorem bound {H : Type} {l : List (DataW H)} (hk : Rows.uptoSmall H l = true) : Rows.uptoBulkAll l ≤ 1048576 := by
  simpa [Rows.uptoSmall] using hk
theorem room {n b : Nat} (hn : n ≤ 2097152) (hb : b ≤ 4096) : (n + n / 4 + 192) * b ≤ 281474976710656 := by
  have h : (n + n / 4 + 192) * b ≤ 2621632 * 4096 := Nat.mul_le_mul (by omega) hb
  omega
end Go.Proofs.Ytkblpdepdncnmaa.bulks
end
section
namespace Go.Proofs.Ytkblpdepdncnmaa.routingLeast
open Go.ChangeShapes Go.WideShapes Go.ChangeAt Go.RowKit Go.Sx
set_option linter.unusedVariables false
theorem con_eq (x0 : Tag.district.T) (x1 : List Tag.order.T) (x2 : List Tag.order.T) : C_law22_RoutingLeast [.agg (cellsOf .district x0), .rs .order x1, .rs .order x2] = some (.det (law22_RoutingLeast_p x0 x1 x2) (.v (.bool (law22_RoutingLeast x0 x1 x2)))) := by
  unfold C_law22_RoutingLeast
  simp only [go_sem, Nat.reduceBEq]
theorem call_true {W : World} {cs0 : Array Value} (h0 : RC (fun _ => False) own0 W (kindsOf .district) cs0.toList) {v1 : Value} (h1 : RC (fun _ => False) own0 W [.r .order] [v1]) {v2 : Value} (h2 : RC (fun _ => False) own0 W [.r .order] [v2]) :
    Calls Try.prog 3 #[.agg cs0, v1, v2] W (fun e W' => e = .returned (.bool true) ∧ Below W.heap.size W W') := by
  obtain ⟨x0, r0⟩ := agg_rel h0
  obtain ⟨x1, r1⟩ := sl_rel h1
  obtain ⟨x2, r2⟩ := sl_rel h2
  refine (ok_law22_RoutingLeast.calls _ _ (con_eq x0 x1 x2) (least_p x0 x1 x2 ) (fun _ => False) W _ (fun b h => h.elim) ⟨rfl, fun j s hj => ?_⟩).mono fun e W' he => ?_
  · match j, hj with
    | 0, hj => cases hj; exact r0
    | 1, hj => cases hj; exact r1
    | 2, hj => cases hj; exact r2
  · rcases he with ⟨s, u, own', hs, rfl, hh, hb⟩ | ⟨x, hx, _⟩
    · simp only [conPost] at hs
      subst hs
      rw [least_t x0 x1 x2 ] at hh
      have := hh.val
      simp only [HandV] at this
      rw [rel_v this]
      exact ⟨rfl, hb⟩
    · exact hx.elim
theorem own : ownKnob Try.prog.godebug = none := by kernel_rfl
theorem small (H : Type) : Small (fun d : DataW H => Rows.uptoBulk d ≤ 1048576) where
  agg l h d hd := by
    have h1 := bulks.part_le hd
    simp only [Rows.uptoBulk] at h
    omega
  slice l m h := by
    have h1 := bulks.slice_le l m
    have h2 := bulks.slice_elems l m
    refine ⟨by unfold maxL; omega, fun d hd => ?_⟩
    have := bulks.part_le hd
    omega
theorem laid : laidOutB Try.prog = true := by kernel_rfl
set_option maxRecDepth 100000 in
theorem contract (H : Type) (enc : TypeId × Value → H) (W : World) (base : Nat) (args : Array Value) (ds gs : List (DataW H)) (before : List MemPlace)
    (hval : ∀ (j : Nat) t v, Try.f3.params[j]? = some t → args[j]? = some v → Value.okWide Try.prog W .any base t v)
    (hW : DataW.Whole enc Try.prog Try.f3.params.toList Rows.routingLeastSpec.vars false W args.toList ds gs before) (hk : Rows.uptoSmall H (ds ++ gs) = true) :
    Calls Try.prog 3 args W fun e W' => ∃ v, e = .returned v ∧ Rows.routingLeastSpec.post enc Try.prog Try.f3 false true false false W args v W' := by
  have hW' := hW
  obtain ⟨p, q, hA0, hV, rfl, hfz, hnd⟩ := hW
  have hA : DataW.TrodAll enc Try.prog W 0 (fun _ => true) true Try.f3.params.toList args.toList ds p := hA0
  rw [Try.params3] at hA hval
  obtain ⟨v0, vs0, d0, ds0, p0, q0, hargs, rfl, rfl, h0, r0⟩ := trodAll_cons hA
  obtain ⟨v1, vs1, d1, ds1, p1, q1, rfl, rfl, rfl, h1, r1⟩ := trodAll_cons r0
  obtain ⟨v2, vs2, d2, ds2, p2, q2, rfl, rfl, rfl, h2, r2⟩ := trodAll_cons r1
  obtain ⟨rfl, rfl, rfl⟩ := trodAll_nil r2
  obtain rfl : args = #[v0, v1, v2] := by cases args; simp_all
  obtain ⟨rfl, rfl⟩ := trodVars_none hV
  have hb := bulks.bound hk
  simp only [Rows.uptoBulkAll, List.append_nil, List.cons_append, List.nil_append] at hb
  have ho : ∀ b, ¬ ownB (fun _ => False) own0 b := fun b h => by
    rcases h with h | ⟨_, _, h, _⟩
    · exact h
    · cases h
  have s0 : ∃ cs, v0 = .agg cs := by
    have := hval 0 31 v0 rfl rfl
    simp only [Value.okWide, Try.underlying31] at this
    exact ⟨_, this.choose_spec.1⟩
  obtain ⟨cs0, rfl⟩ := s0
  obtain ⟨a1, l1, c1, rfl⟩ := okWide_slice Try.underlying32 (hval 1 32 v1 rfl rfl)
  obtain ⟨a2, l2, c2, rfl⟩ := okWide_slice Try.underlying32 (hval 2 32 v2 rfl rfl)
  have R0 : RC (fun _ => False) own0 W (kindsOf .district) cs0.toList := by
    obtain ⟨f, hf⟩ := h0
    exact kinds_read (n := 6) (t := 31) (small H) ho _ (by kernel_rfl) f _ _ hf (by show Rows.uptoBulk d0 ≤ _; omega)
  have R1 : RC (fun _ => False) own0 W [.r .order] [.slice a1 l1 c1] := by
    obtain ⟨f, hf⟩ := h1
    exact kinds_read (n := 6) (t := 32) (small H) ho _ (by kernel_rfl) f _ _ hf (by show Rows.uptoBulk d1 ≤ _; omega)
  have R2 : RC (fun _ => False) own0 W [.r .order] [.slice a2 l2 c2] := by
    obtain ⟨f, hf⟩ := h2
    exact kinds_read (n := 6) (t := 32) (small H) ho _ (by kernel_rfl) f _ _ hf (by show Rows.uptoBulk d2 ≤ _; omega)
  refine (call_true R0 R1 R2).mono fun e W' ⟨he, hg⟩ => ?_
  subst he
  exact ⟨_, rfl, law_post laid (by kernel_rfl) hW' (by kernel_rfl) Try.underlying4 rfl rfl rfl rfl hg⟩
def zeroV : Kd → Value
  | .n k => .int k 0
  | .b => .bool false
  | .s => .string (ByteArray.mk #[])
  | .r _ => .slice none 0 0
  | .m _ _ => .map none
def wit : Array Value := #[.agg ((kindsOf .district).map zeroV).toArray, .slice none 0 0, .slice none 0 0]
set_option maxRecDepth 100000 in
theorem lifted (os : Os) (started : os.Started) (H : Type) (enc : TypeId × Value → H) (F : Stop.Interp) :
    ReturnsInHanded {} Try.checked os 3 .any ((Rows.OpenSpec.upto Rows.routingLeastSpec).pre6 enc Try.prog Try.f3 Rows.routingLeastUptoRow.domain false) (((Rows.OpenSpec.upto Rows.routingLeastSpec).at F).post enc Try.prog Try.f3 false true false false) := by
  refine returnsInHanded_of_cond (C := Try.checked) (s := Rows.OpenSpec.upto Rows.routingLeastSpec) (k := Rows.uptoSmall) rfl own started (by kernel_rfl) Try.func3
    (OpenSpec.witness (enc := enc) (C := Try.checked) (s := Rows.OpenSpec.upto Rows.routingLeastSpec) (k := Rows.uptoSmall) rfl false ⟨#[], wit, []⟩ 8 (by kernel_rfl) (by kernel_rfl) (by kernel_rfl)
      (x := (DataW.whole enc Try.prog (World.plainHolding Try.prog os ⟨#[], wit, []⟩).memory Try.f3.params.toList Rows.routingLeastSpec.vars false wit.toList 8).getD ([], [], [])) (by kernel_rfl) rfl (by kernel_rfl)) ?_
  intro W base args ds gs before hval hW _ hk _
  exact contract H enc W base args ds gs before hval hW hk
theorem over : Rows.routingLeastUptoRow.holds Try.pinned (Rows.OpenSpec.upto Rows.routingLeastSpec) :=
  OpenClaim.holds_of_cond 3 Try.f3 rfl rfl rfl rfl rfl rfl rfl ⟨rfl, rfl, rfl, rfl, rfl⟩ rfl rfl rfl rfl rfl (by kernel_rfl) Try.func3 (by kernel_rfl)
    (of_decide_eq_true (by kernel_rfl)) (by unfold Func.isWrapper; first | (rw [if_pos (by decide +kernel)]; kernel_rfl) | (rw [if_neg (by decide +kernel)]; exact ⟨rfl, rfl⟩))
    (fun os started H enc _ F => lifted os started H enc F)
theorem proved : Rows.RoutingLeastUptoSaid := over
end Go.Proofs.Ytkblpdepdncnmaa.routingLeast
end
