/- Part of the proof that the law RoutingPlanSpec returns true and leaves its arguments as they were, for all arguments of bulk at most 1048576 (the Upto form). -/
import Derived.Test.YtfbcohfemignhaaGreatC108
import Derived.Test.YtfbcohfemignhaaGreatC107
import Derived.Test.YtfbcohfemignhaaGreatC101
import Derived.Test.YtfbcohfemignhaaGreatC106
set_option linter.all false
set_option maxHeartbeats 4000000
section
namespace Go.Sx
open Go.Proofs
set_option maxRecDepth 100000
set_option linter.unusedSimpArgs false
theorem crSxR5_0 {p : Prop} (h : p := by (first | done | (repeat' (first | with_reducible refine And.intro ?_ ?_ | ((with_reducible show _ ≠ _); first | assumption | omega | (simp_all [outR, outL]; done) | grind) | with_reducible intro _)) <;> (first | done | exact Empty.elim ‹Empty› | assumption | rfl | omega | decide | exact fk [0, 1, 2] | exact czl | (simp only [*, cond_true, cond_false, Bool.not_true, Bool.not_false, go_sem, Nat.reduceBEq, Nat.reduceLeDiff, Nat.reduceLT, decide_true, Nat.reduceAdd, Nat.reduceSub, Nat.reduceMul, Int.reduceLE, Int.reduceLT, Int.reduceToNat, Int.reduceNeg, reduceCtorEq]; (repeat' (first | with_reducible refine And.intro ?_ ?_ | ((with_reducible show _ ≠ _); first | assumption | omega | (simp_all [outR, outL]; done) | grind) | with_reducible intro _)) <;> (first | done | assumption | rfl | omega | decide | exact fk [0, 1, 2] | (simp_all [outR, outL]; done))) | (simp_all [okI, outR, outL]; done) | (simp_all [outR, outL]; (first | done | exact fk2 [0, 1, 2])) | exact fk2 [0, 1, 2]))) : p := h
theorem crSxR5_1 {p : Prop} (h : p := by (first | done | (repeat' (first | with_reducible refine And.intro ?_ ?_ | ((with_reducible show _ ≠ _); first | assumption | omega | (simp_all [outR, outL]; done) | grind) | with_reducible intro _)) <;> (first | done | exact Empty.elim ‹Empty› | assumption | rfl | omega | decide | exact fk [0, 1, 2, 3] | exact czl | (simp only [*, cond_true, cond_false, Bool.not_true, Bool.not_false, go_sem, Nat.reduceBEq, Nat.reduceLeDiff, Nat.reduceLT, decide_true, Nat.reduceAdd, Nat.reduceSub, Nat.reduceMul, Int.reduceLE, Int.reduceLT, Int.reduceToNat, Int.reduceNeg, reduceCtorEq]; (repeat' (first | with_reducible refine And.intro ?_ ?_ | ((with_reducible show _ ≠ _); first | assumption | omega | (simp_all [outR, outL]; done) | grind) | with_reducible intro _)) <;> (first | done | assumption | rfl | omega | decide | exact fk [0, 1, 2, 3] | (simp_all [outR, outL]; done))) | (simp_all [okI, outR, outL]; done) | (simp_all [outR, outL]; (first | done | exact fk2 [0, 1, 2, 3])) | exact fk2 [0, 1, 2, 3]))) : p := h
theorem crSxR5_2 {p : Prop} (h : p := by (first | done | (repeat' (first | with_reducible refine And.intro ?_ ?_ | ((with_reducible show _ ≠ _); first | assumption | omega | (simp_all [outR, outL]; done) | grind) | with_reducible intro _)) <;> (first | done | exact Empty.elim ‹Empty› | assumption | rfl | omega | decide | exact fk [0, 1, 2, 3, 4, 5] | exact czl | (simp only [*, cond_true, cond_false, Bool.not_true, Bool.not_false, go_sem, Nat.reduceBEq, Nat.reduceLeDiff, Nat.reduceLT, decide_true, Nat.reduceAdd, Nat.reduceSub, Nat.reduceMul, Int.reduceLE, Int.reduceLT, Int.reduceToNat, Int.reduceNeg, reduceCtorEq]; (repeat' (first | with_reducible refine And.intro ?_ ?_ | ((with_reducible show _ ≠ _); first | assumption | omega | (simp_all [outR, outL]; done) | grind) | with_reducible intro _)) <;> (first | done | assumption | rfl | omega | decide | exact fk [0, 1, 2, 3, 4, 5] | (simp_all [outR, outL]; done))) | (simp_all [okI, outR, outL]; done) | (simp_all [outR, outL]; (first | done | exact fk2 [0, 1, 2, 3, 4, 5])) | exact fk2 [0, 1, 2, 3, 4, 5]))) : p := h
theorem crSxR5_3 {p : Prop} (h : p := by (first | done | (repeat' (first | with_reducible refine And.intro ?_ ?_ | ((with_reducible show _ ≠ _); first | assumption | omega | (simp_all [outR, outL]; done) | grind) | with_reducible intro _)) <;> (first | done | exact Empty.elim ‹Empty› | assumption | rfl | omega | decide | exact fk [0, 1, 2, 3, 4, 5, 6, 7] | exact fk [0, 1, 2, 3, 4, 5, 6, 10] | exact czl | (simp only [*, cond_true, cond_false, Bool.not_true, Bool.not_false, go_sem, Nat.reduceBEq, Nat.reduceLeDiff, Nat.reduceLT, decide_true, Nat.reduceAdd, Nat.reduceSub, Nat.reduceMul, Int.reduceLE, Int.reduceLT, Int.reduceToNat, Int.reduceNeg, reduceCtorEq]; (repeat' (first | with_reducible refine And.intro ?_ ?_ | ((with_reducible show _ ≠ _); first | assumption | omega | (simp_all [outR, outL]; done) | grind) | with_reducible intro _)) <;> (first | done | assumption | rfl | omega | decide | exact fk [0, 1, 2, 3, 4, 5, 6, 7] | exact fk [0, 1, 2, 3, 4, 5, 6, 10] | (simp_all [outR, outL]; done))) | (simp_all [okI, outR, outL]; done) | (simp_all [outR, outL]; (first | done | exact fk2 [0, 1, 2, 3, 4, 5, 6, 7] | exact fk2 [0, 1, 2, 3, 4, 5, 6, 10])) | exact fk2 [0, 1, 2, 3, 4, 5, 6, 7] | exact fk2 [0, 1, 2, 3, 4, 5, 6, 10]))) : p := h
theorem exSxR5_0 {p : Prop} (h : p := by simp only [go_sem, Nat.reduceBEq, Nat.reduceLeDiff, Nat.reduceLT, decide_true, Nat.reduceAdd, Nat.reduceSub, Nat.reduceMul, Int.reduceLE, Int.reduceLT, Int.reduceToNat, Int.reduceNeg, reduceCtorEq, hc, hw]; all_goals exact crSxR5_0) : p := h
theorem ezSxR5_0 {p : Prop} (h : p := by simp only [go_sem, Nat.reduceBEq, Nat.reduceLeDiff, Nat.reduceLT, decide_true, Nat.reduceAdd, Nat.reduceSub, Nat.reduceMul, Int.reduceLE, Int.reduceLT, Int.reduceToNat, Int.reduceNeg, reduceCtorEq, hc]; all_goals exact crSxR5_0) : p := h
theorem exSxR5_1 {p : Prop} (h : p := by simp only [go_sem, Nat.reduceBEq, Nat.reduceLeDiff, Nat.reduceLT, decide_true, Nat.reduceAdd, Nat.reduceSub, Nat.reduceMul, Int.reduceLE, Int.reduceLT, Int.reduceToNat, Int.reduceNeg, reduceCtorEq, hc, hw]; all_goals exact crSxR5_1) : p := h
theorem ezSxR5_1 {p : Prop} (h : p := by simp only [go_sem, Nat.reduceBEq, Nat.reduceLeDiff, Nat.reduceLT, decide_true, Nat.reduceAdd, Nat.reduceSub, Nat.reduceMul, Int.reduceLE, Int.reduceLT, Int.reduceToNat, Int.reduceNeg, reduceCtorEq, hc]; all_goals exact crSxR5_1) : p := h
theorem exSxR5_2 {p : Prop} (h : p := by simp only [go_sem, Nat.reduceBEq, Nat.reduceLeDiff, Nat.reduceLT, decide_true, Nat.reduceAdd, Nat.reduceSub, Nat.reduceMul, Int.reduceLE, Int.reduceLT, Int.reduceToNat, Int.reduceNeg, reduceCtorEq, hc, hw]; all_goals exact crSxR5_2) : p := h
theorem ezSxR5_2 {p : Prop} (h : p := by simp only [go_sem, Nat.reduceBEq, Nat.reduceLeDiff, Nat.reduceLT, decide_true, Nat.reduceAdd, Nat.reduceSub, Nat.reduceMul, Int.reduceLE, Int.reduceLT, Int.reduceToNat, Int.reduceNeg, reduceCtorEq, hc]; all_goals exact crSxR5_2) : p := h
@[go_sem] def routing_loads_l1 (d : District) (l_ : List Order) (k_0 : Nat) (k_1 : Nat) (s_1 : List ((Int × Int) × Int)) : Empty ⊕ (List ((Int × Int) × Int)) := .inr (mupdT .int2 .int s_1 ((l_.getD k_0 (default : Order)).index, (IntKind.i64.wrap ((l_.getD k_0 (default : Order)).hour + (k_1 : Int)))) (IntKind.i64.wrap ((mgetT .int2 .int s_1 ((l_.getD k_0 (default : Order)).index, (IntKind.i64.wrap ((l_.getD k_0 (default : Order)).hour + (k_1 : Int))))) + (l_.getD k_0 (default : Order)).litres)))
@[go_sem] def routing_loads_l0 (d : District) (l_ : List Order) (k_0 : Nat) (s_0 : List ((Int × Int) × Int) × List ((Int × Int) × Int)) : Empty ⊕ (List ((Int × Int) × Int) × List ((Int × Int) × Int)) := (bif (l_.getD k_0 (default : Order)).outlet then .inr (s_0.1, s_0.2) else (match runI (routing_loads_l1 d l_ k_0) (Int.toNat ((d.reaches.getD (Int.toNat ((l_.getD k_0 (default : Order)).index)) (default : Reach)).delay)) 0 s_0.2 with | .inl x => x.elim | .inr s_1 => .inr ((mupdT .int2 .int s_0.1 ((l_.getD k_0 (default : Order)).index, (l_.getD k_0 (default : Order)).hour) ((l_.getD k_0 (default : Order)).litres)), s_1)))
def routing_loads_l0_p (d : District) (l_ : List Order) (k_0 : Nat) (s_0 : List ((Int × Int) × Int) × List ((Int × Int) × Int)) : Prop := ((l_.getD k_0 (default : Order)).outlet = false → ((0 ≤ (l_.getD k_0 (default : Order)).index ∧ (l_.getD k_0 (default : Order)).index < (d.reaches.length : Int)) ∧ ((d.reaches.getD (Int.toNat ((l_.getD k_0 (default : Order)).index)) (default : Reach)).delay < 9223372036854775808)))
def routing_loads (d : District) (l_ : List Order) : List ((Int × Int) × Int) × List ((Int × Int) × Int) := (match runI (routing_loads_l0 d l_) l_.length 0 ([], []) with | .inl x => x.elim | .inr s_0 => (s_0.1, s_0.2))
def routing_loads_p (d : District) (l_ : List Order) : Prop := (l_.length ≤ maxL → okI (routing_loads_l0 d l_) (routing_loads_l0_p d l_) l_.length 0 ([], []))
@[go_sem] def C_routing_loads : List SV → Option Con := (pD .district fun d => (pR .order fun l_ => (pE (.det (routing_loads_p d l_) (.tup [.nm .int2 .int ((routing_loads d l_).1), .nm .int2 .int ((routing_loads d l_).2)])))))
theorem ok_routing_loads : FnOk Tryz.prog 34 C_routing_loads := by
  have hG : ConsOk Tryz.prog (mkG [] []) := mkG_ok cg0 cg0
  refine fn_okE true mixed ts_ok hG (fn := Tryz.f34) (c := bodyOf Tryz.f34) (by kernel_rfl) (by kernel_rfl) (by kernel_rfl) (by kernel_rfl) (pD_all fun d => (pR_all fun l_ => (pE_all (fun hp => ?_))))
  dsimp only [conPre] at hp
  unfold routing_loads_p at hp
  refine ⟨Nat.le_of_ble_eq_true rfl, (fun id st => bif Nat.beq id 0 then some (LCR (ρ := Empty) (σ := (List ((Int × Int) × Int) × List ((Int × Int) × Int))) 3 [] [0, 1, 2] (fun k_0 s_0 => ⟨[(2, .ptr 0 0), (4, .os 1), (5, .os 2), (11, .rs .order l_), (12, .v (.int .i64 (l_.length : Int))), (13, .v (.int .i64 (k_0 : Int)))], [.cells (cellsOf .district d), .mp .int2 .int s_0.1 none, .mp .int2 .int s_0.2 none]⟩) (routing_loads_l0 d l_) (routing_loads_l0_p d l_) l_.length ([], []) (l_.length ≤ maxL) ((·.elim)) ((·.elim)) st) else none), ?_, ?_⟩
  · unfold bodyOf Tryz.f34
    simp only [loopsOk, true_and, and_true]
    · refine loopR_ok mixed ts_ok hG (by kernel_rfl) (fun _ => rfl) (l_.length : Int) rfl lenB (fun hb0 k_0 s_0 hlt0 hq0 hw hc => ⟨(fun id st => bif Nat.beq id 2 then some (LCR (ρ := Empty) (σ := (List ((Int × Int) × Int))) 4 [] [0, 1, 2, 3] (fun k_1 s_1 => ⟨[(2, .ptr 0 0), (4, .os 1), (5, .os 2), (7, .ptr 3 0), (11, .rs .order l_), (12, .v (.int .i64 (l_.length : Int))), (13, .v (.int .i64 (k_0 : Int))), (33, .v (.int .i64 ((d.reaches.getD (Int.toNat ((l_.getD k_0 (default : Order)).index)) (default : Reach)).delay))), (34, .v (.int .i64 (k_1 : Int)))], [.cells (cellsOf .district d), .mp .int2 .int (mupdT .int2 .int s_0.1 ((l_.getD k_0 (default : Order)).index, (l_.getD k_0 (default : Order)).hour) ((l_.getD k_0 (default : Order)).litres)) none, .mp .int2 .int s_1 none, .cells (cellsOf .order (l_.getD k_0 (default : Order)))]⟩) (routing_loads_l1 d l_ k_0) pT (Int.toNat ((d.reaches.getD (Int.toNat ((l_.getD k_0 (default : Order)).index)) (default : Reach)).delay)) s_0.2 ((d.reaches.getD (Int.toNat ((l_.getD k_0 (default : Order)).index)) (default : Reach)).delay < 9223372036854775808) ((·.elim)) ((·.elim)) st) else none), ?_, ?_⟩) (fun hb0 s_0 hc => ?_)
      · simp only [loopsOk, true_and, and_true]
        · refine loopR_ok mixed ts_ok hG (by kernel_rfl) (fun _ => rfl) ((d.reaches.getD (Int.toNat ((l_.getD k_0 (default : Order)).index)) (default : Reach)).delay) rfl id (fun hb1 k_1 s_1 hlt1 _ hw hc => ⟨L0, loopsOk0 _, ?_⟩) (fun hb1 s_1 hc => ?_)
          · exact exSxR5_1
          · exact ezSxR5_1
      · unfold routing_loads_l0_p at hq0
        try simp only [hw, Int.toNat_natCast] at hq0
        exact exSxR5_0
      · exact ezSxR5_0
  · unfold bodyOf Tryz.f34
    try unfold routing_loads
    simp only [go_sem, Nat.reduceBEq, Nat.reduceLeDiff, Nat.reduceLT, decide_true, Nat.reduceAdd, Nat.reduceSub, Nat.reduceMul, Int.reduceLE, Int.reduceLT, Int.reduceToNat, Int.reduceNeg, reduceCtorEq]
    all_goals exact cl
@[go_sem] def routing_Fits_l1 (d : District) (l_ : List Order) (k_0 : Nat) (k_1 : Nat) (s_1 : Unit) : Int ⊕ Unit := (bif ((decide ((mgetT .int2 .int ((routing_loads d l_).1) ((k_1 : Int), (k_0 : Int))) > (d.reaches.getD k_1 (default : Reach)).cap)) || (decide ((mgetT .int2 .int ((routing_loads d l_).2) ((k_1 : Int), (k_0 : Int))) > (d.reaches.getD k_1 (default : Reach)).bank))) then .inl (k_1 : Int) else .inr ())
@[go_sem] def routing_Fits_l0 (d : District) (l_ : List Order) (k_0 : Nat) (s_0 : Unit) : (Int × Int) ⊕ Unit := (match runI (routing_Fits_l1 d l_ k_0) d.reaches.length 0 () with | .inl x_1_0 => .inl ((k_0 : Int), x_1_0) | .inr s_1 => .inr ())
def routing_Fits (d : District) (l_ : List Order) : Bool × Int × Int × Int := (bif ((routing_narrow d l_) != 0) then (false, 0, 0, (routing_narrow d l_)) else (match runI (routing_Fits_l0 d l_) (Int.toNat d.hours) 0 () with | .inl x_0_0 => (false, x_0_0.1, x_0_0.2, 0) | .inr s_0 => (true, 0, 0, 0)))
def routing_Fits_p (d : District) (l_ : List Order) : Prop := ((routing_narrow_p d l_) ∧ (((routing_narrow d l_) != 0) = false → ((routing_loads_p d l_) ∧ (d.hours < 9223372036854775808))))
@[go_sem] def C_routing_Fits : List SV → Option Con := (pD .district fun d => (pR .order fun l_ => (pE (.det (routing_Fits_p d l_) (.tup [.v (.bool ((routing_Fits d l_).1)), .v (.int .i64 ((routing_Fits d l_).2.1)), .v (.int .i64 ((routing_Fits d l_).2.2.1)), .v (.int .i64 ((routing_Fits d l_).2.2.2))])))))
theorem ok_routing_Fits : FnOk Tryz.prog 14 C_routing_Fits := by
  have hG : ConsOk Tryz.prog (mkG [(18, fun l => C_routing_narrow (nrmA [.st .district, .sl .order] l)), (34, fun l => C_routing_loads (nrmA [.st .district, .sl .order] l))] []) := mkG_ok (cgc (ok_routing_narrow.norm [.st .district, .sl .order]) (cgc (ok_routing_loads.norm [.st .district, .sl .order]) cg0)) cg0
  refine fn_okN [.o, .o, .o, .o] mixed ts_ok hG (fn := Tryz.f14) (c := bodyOf Tryz.f14) (by kernel_rfl) (by kernel_rfl) (by kernel_rfl) (by kernel_rfl) (pD_all fun d => (pR_all fun l_ => (pE_all (fun hp => ?_))))
  dsimp only [conPre] at hp
  unfold routing_Fits_p at hp
  refine ⟨Nat.le_of_ble_eq_true rfl, (fun id st => bif Nat.beq id 0 then some (LCR (ρ := (Int × Int)) (σ := Unit) 3 [] [0, 1, 2] (fun k_0 s_0 => ⟨[(2, .ptr 0 0), (8, .os 1), (9, .os 2), (27, .v (.int .i64 d.hours)), (28, .v (.int .i64 (k_0 : Int)))], [.cells (cellsOf .district d), .mp .int2 .int ((routing_loads d l_).1) none, .mp .int2 .int ((routing_loads d l_).2) none]⟩) (routing_Fits_l0 d l_) pT (Int.toNat d.hours) () (d.hours < 9223372036854775808) (fun _ => .ret) (fun x_0_0 => ⟨[(4, .v (.bool false)), (5, .v (.int .i64 x_0_0.1)), (6, .v (.int .i64 x_0_0.2)), (7, .v (.int .i64 0))], [.dead, .dead, .dead]⟩) st) else none), ?_, ?_⟩
  · unfold bodyOf Tryz.f14
    simp only [loopsOk, true_and, and_true]
    · refine loopR_ok mixed ts_ok hG (by kernel_rfl) (fun _ => rfl) d.hours rfl id (fun hb0 k_0 s_0 hlt0 _ hw hc => ⟨(fun id st => bif Nat.beq id 2 then some (LCR (ρ := Int) (σ := Unit) 3 [] [0, 1, 2] (fun k_1 s_1 => ⟨[(2, .ptr 0 0), (8, .os 1), (9, .os 2), (10, .v (.int .i64 (k_0 : Int))), (27, .v (.int .i64 d.hours)), (28, .v (.int .i64 (k_0 : Int))), (32, .rs .reach d.reaches), (33, .v (.int .i64 (d.reaches.length : Int))), (34, .v (.int .i64 (k_1 : Int)))], [.cells (cellsOf .district d), .mp .int2 .int ((routing_loads d l_).1) none, .mp .int2 .int ((routing_loads d l_).2) none]⟩) (routing_Fits_l1 d l_ k_0) pT d.reaches.length () (d.reaches.length ≤ maxL) (fun _ => .ret) (fun x_1_0 => ⟨[(4, .v (.bool false)), (5, .v (.int .i64 (k_0 : Int))), (6, .v (.int .i64 x_1_0)), (7, .v (.int .i64 0))], [.dead, .dead, .dead]⟩) st) else none), ?_, ?_⟩) (fun hb0 s_0 hc => ?_)
      · simp only [loopsOk, true_and, and_true]
        · refine loopR_ok mixed ts_ok hG (by kernel_rfl) (fun _ => rfl) (d.reaches.length : Int) rfl lenB (fun hb1 k_1 s_1 hlt1 _ hw hc => ⟨L0, loopsOk0 _, ?_⟩) (fun hb1 s_1 hc => ?_)
          · exact exSxR5_0
          · exact ezSxR5_0
      · exact exSxR5_0
      · exact ezSxR5_0
  · unfold bodyOf Tryz.f14
    try unfold routing_Fits
    simp only [go_sem, Nat.reduceBEq, Nat.reduceLeDiff, Nat.reduceLT, decide_true, Nat.reduceAdd, Nat.reduceSub, Nat.reduceMul, Int.reduceLE, Int.reduceLT, Int.reduceToNat, Int.reduceNeg, reduceCtorEq]
    all_goals exact cl
def routing_Load (d : District) (l_ : List Order) (reach : Int) (hour : Int) : Int × Int := (bif ((routing_narrow d l_) != 0) then (0, (routing_narrow d l_)) else (bif ((((decide (reach < 0)) || (decide (reach ≥ (d.reaches.length : Int)))) || (decide (hour < 0))) || (decide (hour ≥ d.hours))) then (0, 1) else ((mgetT .int2 .int ((routing_loads d l_).2) (reach, hour)), 0)))
def routing_Load_p (d : District) (l_ : List Order) (reach : Int) (hour : Int) : Prop := ((routing_narrow_p d l_) ∧ (((routing_narrow d l_) != 0) = false → (((((decide (reach < 0)) || (decide (reach ≥ (d.reaches.length : Int)))) || (decide (hour < 0))) || (decide (hour ≥ d.hours))) = false → (routing_loads_p d l_))))
@[go_sem] def C_routing_Load : List SV → Option Con := (pD .district fun d => (pR .order fun l_ => (pI fun reach => (pI fun hour => (pE (.det (routing_Load_p d l_ reach hour) (.tup [.v (.int .i64 ((routing_Load d l_ reach hour).1)), .v (.int .i64 ((routing_Load d l_ reach hour).2))])))))))
theorem ok_routing_Load : FnOk Tryz.prog 16 C_routing_Load := by
  have hG : ConsOk Tryz.prog (mkG [(18, fun l => C_routing_narrow (nrmA [.st .district, .sl .order] l)), (34, fun l => C_routing_loads (nrmA [.st .district, .sl .order] l))] []) := mkG_ok (cgc (ok_routing_narrow.norm [.st .district, .sl .order]) (cgc (ok_routing_loads.norm [.st .district, .sl .order]) cg0)) cg0
  refine fn_okN [.o, .o] mixed ts_ok hG (fn := Tryz.f16) (c := bodyOf Tryz.f16) (by kernel_rfl) (by kernel_rfl) (by kernel_rfl) (by kernel_rfl) (pD_all fun d => (pR_all fun l_ => (pI_all fun reach => (pI_all fun hour => (pE_all (fun hp => ?_))))))
  dsimp only [conPre] at hp
  unfold routing_Load_p at hp
  refine ⟨Nat.le_of_ble_eq_true rfl, L0, loopsOk0 _, ?_⟩
  · unfold bodyOf Tryz.f16
    try unfold routing_Load
    simp only [go_sem, Nat.reduceBEq, Nat.reduceLeDiff, Nat.reduceLT, decide_true, Nat.reduceAdd, Nat.reduceSub, Nat.reduceMul, Int.reduceLE, Int.reduceLT, Int.reduceToNat, Int.reduceNeg, reduceCtorEq]
    all_goals exact cl
@[go_sem] def routing_Plan_l0 (a0 : District) (a1 : List Order) (k_0 : Nat) (s_0 : List ((Int × Int) × Int)) : Unit ⊕ (List ((Int × Int) × Int)) := (bif (!(a1.getD k_0 (default : Order)).outlet) then .inl () else .inr (mupdT .int2 .int s_0 ((a0.farms.getD (Int.toNat ((a1.getD k_0 (default : Order)).index)) (default : Farm)).reach, (a1.getD k_0 (default : Order)).hour) (IntKind.i64.wrap ((mgetT .int2 .int s_0 ((a0.farms.getD (Int.toNat ((a1.getD k_0 (default : Order)).index)) (default : Farm)).reach, (a1.getD k_0 (default : Order)).hour)) + (a1.getD k_0 (default : Order)).litres))))
def routing_Plan_l0_p (a0 : District) (a1 : List Order) (k_0 : Nat) (s_0 : List ((Int × Int) × Int)) : Prop := ((!(a1.getD k_0 (default : Order)).outlet) = false → (0 ≤ (a1.getD k_0 (default : Order)).index ∧ (a1.getD k_0 (default : Order)).index < (a0.farms.length : Int)))
@[go_sem] def routing_Plan_l1 (a0 : District) (z_1 : Int × Int) (s_1 : List Order × List ((Int × Int) × Int)) : (List ((Int × Int) × Int)) ⊕ (List Order × List ((Int × Int) × Int)) := (bif ((mgetT .int2 .int s_1.2 (z_1.1, z_1.2)) == 0) then .inr (s_1.1, s_1.2) else (bif ((!(routing_intake (a0.reaches.getD (Int.toNat z_1.1) (default : Reach)) (mgetT .int2 .int s_1.2 (z_1.1, z_1.2))).2) || (decide (z_1.2 < (a0.reaches.getD (Int.toNat z_1.1) (default : Reach)).delay))) then .inl s_1.2 else .inr ((s_1.1 ++ ([({ hour := (IntKind.i64.wrap (z_1.2 - (a0.reaches.getD (Int.toNat z_1.1) (default : Reach)).delay)), index := z_1.1, litres := (routing_intake (a0.reaches.getD (Int.toNat z_1.1) (default : Reach)) (mgetT .int2 .int s_1.2 (z_1.1, z_1.2))).1, outlet := false } : Order)])), (mupdT .int2 .int s_1.2 ((a0.reaches.getD (Int.toNat z_1.1) (default : Reach)).up, (IntKind.i64.wrap (z_1.2 - (a0.reaches.getD (Int.toNat z_1.1) (default : Reach)).delay))) (IntKind.i64.wrap ((mgetT .int2 .int s_1.2 ((a0.reaches.getD (Int.toNat z_1.1) (default : Reach)).up, (IntKind.i64.wrap (z_1.2 - (a0.reaches.getD (Int.toNat z_1.1) (default : Reach)).delay)))) + (routing_intake (a0.reaches.getD (Int.toNat z_1.1) (default : Reach)) (mgetT .int2 .int s_1.2 (z_1.1, z_1.2))).1))))))
def routing_Plan_l1_p (a0 : District) (z_1 : Int × Int) (s_1 : List Order × List ((Int × Int) × Int)) : Prop := (((mgetT .int2 .int s_1.2 (z_1.1, z_1.2)) == 0) = false → ((0 ≤ z_1.1 ∧ z_1.1 < (a0.reaches.length : Int)) ∧ ((routing_intake_p (a0.reaches.getD (Int.toNat z_1.1) (default : Reach)) (mgetT .int2 .int s_1.2 (z_1.1, z_1.2))) ∧ (((!(routing_intake (a0.reaches.getD (Int.toNat z_1.1) (default : Reach)) (mgetT .int2 .int s_1.2 (z_1.1, z_1.2))).2) || (decide (z_1.2 < (a0.reaches.getD (Int.toNat z_1.1) (default : Reach)).delay))) = false → ((s_1.1 ++ ([({ hour := (IntKind.i64.wrap (z_1.2 - (a0.reaches.getD (Int.toNat z_1.1) (default : Reach)).delay)), index := z_1.1, litres := (routing_intake (a0.reaches.getD (Int.toNat z_1.1) (default : Reach)) (mgetT .int2 .int s_1.2 (z_1.1, z_1.2))).1, outlet := false } : Order)])).length * 32 ≤ maxB)))))
def routing_Plan (a0 : District) (a1 : List Order) : List Order × Bool × Int := (bif ((routing_narrow a0 a1) != 0) then ([], false, (routing_narrow a0 a1)) else (match runI (routing_Plan_l0 a0 a1) a1.length 0 ([]) with | .inl x_0_0 => ([], false, 220) | .inr s_0 => (match runL (routing_Plan_l1 a0) (routing_upward a0) (a1, s_0) with | .inl x_1_0 => ([], false, 0) | .inr s_1 => (bif (decide ((s_1.1.length : Int) > 4096)) then ([], false, 2) else ((srt routing_by_1 s_1.1), true, 0)))))
def routing_Plan_p (a0 : District) (a1 : List Order) : Prop := ((routing_narrow_p a0 a1) ∧ (((routing_narrow a0 a1) != 0) = false → (a1.length ≤ maxL → (okI (routing_Plan_l0 a0 a1) (routing_Plan_l0_p a0 a1) a1.length 0 ([]) ∧ (∀ s_0, runI (routing_Plan_l0 a0 a1) a1.length 0 ([]) = .inr s_0 → ((a1.length * 32 ≤ maxB) ∧ ((a0.hours < 9223372036854775808) ∧ okL (routing_Plan_l1 a0) (routing_Plan_l1_p a0) (routing_upward a0) (a1, s_0) ∧ (∀ s_1, runL (routing_Plan_l1 a0) (routing_upward a0) (a1, s_0) = .inr s_1 → (s_1.1.length ≤ maxL → ((decide ((s_1.1.length : Int) > 4096)) = false → (apart routing_by_1 s_1.1)))))))))))
@[go_sem] def C_routing_Plan : List SV → Option Con := (pD .district fun a0 => (pR .order fun a1 => (pE (.det (routing_Plan_p a0 a1) (.tup [.nw .order ((routing_Plan a0 a1).1), .v (.bool ((routing_Plan a0 a1).2.1)), .v (.int .i64 ((routing_Plan a0 a1).2.2))])))))
theorem ok_routing_Plan : FnOk Tryz.prog 6 C_routing_Plan := by
  have hG : ConsOk Tryz.prog (mkG [(18, fun l => C_routing_narrow (nrmA [.st .district, .sl .order] l)), (19, fun l => C_slices_Clone (nrmA [.sl .order] l)), (20, fun l => C_routing_upward (nrmA [.st .district] l)), (21, C_routing_intake), (23, C_routing_compare)] [(22, C_SortFunc)]) := mkG_ok (cgc (ok_routing_narrow.norm [.st .district, .sl .order]) (cgc (ok_slices_Clone.norm [.sl .order]) (cgc (ok_routing_upward.norm [.st .district]) (cgc ok_routing_intake (cgc ok_routing_compare cg0))))) (cgc ok_SortFunc cg0)
  refine fn_okW [(.cell 4 32, .order)] mixed ts_ok hG (fn := Tryz.f6) (c := bodyOf Tryz.f6) (by kernel_rfl) (by kernel_rfl) (by kernel_rfl) (by kernel_rfl) (pD_all fun a0 => (pR_all fun a1 => (pE_all (fun hp => ?_))))
  dsimp only [conPre] at hp
  unfold routing_Plan_p at hp
  refine ⟨Nat.le_of_ble_eq_true rfl, (fun id st => bif Nat.beq id 0 then some (LCR (ρ := Unit) (σ := (List ((Int × Int) × Int))) 6 [] [0, 1, 2, 3, 4, 5] (fun k_0 s_0 => ⟨[(1, .rs .order a1), (2, .ptr 0 0), (4, .ptr 1 0), (5, .ptr 2 0), (6, .ptr 3 0), (7, .ptr 5 0), (23, .rs .order a1), (24, .v (.int .i64 (a1.length : Int))), (25, .v (.int .i64 (k_0 : Int)))], [.cells (cellsOf .district a0), .cells [.v (.slice none 0 0)], .cells [.v (.bool false)], .cells [.v (.int .i64 (routing_narrow a0 a1))], .mp .int2 .int s_0 none, .cells [.os 4]]⟩) (routing_Plan_l0 a0 a1) (routing_Plan_l0_p a0 a1) a1.length ([]) (a1.length ≤ maxL) (fun _ => .ret) (fun x_0_0 => ⟨[(4, .ptr 1 0), (5, .ptr 2 0), (6, .ptr 3 0)], [.dead, .cells [.v (.slice none 0 0)], .cells [.v (.bool false)], .cells [.v (.int .i64 220)], .dead, .dead]⟩) st) else bif Nat.beq id 2 then some (LC (ρ := List ((Int × Int) × Int)) (σ := List Order × List ((Int × Int) × Int)) (lk 2 st.t = .ptr 0 0 ∧ lk 4 st.t = .ptr 1 0 ∧ lk 5 st.t = .ptr 2 0 ∧ lk 6 st.t = .ptr 3 0 ∧ lk 7 st.t = .ptr 5 0 ∧ lk 53 st.t = .fn 35 [] [.ep (cellsOf .district a0) 0] ∧ st.h = [.cells (cellsOf .district a0), .cells [.os 6], .cells [.v (.bool false)], .cells [.v (.int .i64 (routing_narrow a0 a1))], .mp .int2 .int (outR (runI (routing_Plan_l0 a0 a1) a1.length 0 ([]))) none, .cells [.os 4], .row .order a1] ∧ a0.hours < 9223372036854775808 ∧ okL (routing_Plan_l1 a0) (routing_Plan_l1_p a0) (routing_upward a0) (a1, (outR (runI (routing_Plan_l0 a0 a1) a1.length 0 ([]))))) (runL (routing_Plan_l1 a0) (routing_upward a0) (a1, (outR (runI (routing_Plan_l0 a0 a1) a1.length 0 ([]))))) (fun _ => .ret) (fun x_1_0 => ⟨[(2, .ptr 0 0), (4, .ptr 1 0), (5, .ptr 2 0), (6, .ptr 3 0), (7, .ptr 5 0)], [.cells (cellsOf .district a0), .cells [.v (.slice none 0 0)], .cells [.v (.bool false)], .cells [.v (.int .i64 0)], .mp .int2 .int x_1_0 none, .cells [.os 4], .dead, .dead]⟩) (fun s_1 => ⟨[(2, .ptr 0 0), (4, .ptr 1 0), (5, .ptr 2 0), (6, .ptr 3 0), (7, .ptr 5 0)], [.cells (cellsOf .district a0), .cells [.os 7], .cells [.v (.bool false)], .cells [.v (.int .i64 (routing_narrow a0 a1))], .mp .int2 .int s_1.2 none, .cells [.os 4], .dead, .row .order s_1.1]⟩)) else none), ?_, ?_⟩
  · unfold bodyOf Tryz.f6
    simp only [loopsOk, true_and, and_true]
    refine ⟨?_, ?_⟩
    · refine loopR_ok mixed ts_ok hG (by kernel_rfl) (fun _ => rfl) (a1.length : Int) rfl lenB (fun hb0 k_0 s_0 hlt0 hq0 hw hc => ⟨L0, loopsOk0 _, ?_⟩) (fun hb0 s_0 hc => ?_)
      · unfold routing_Plan_l0_p at hq0
        try simp only [hw, Int.toNat_natCast] at hq0
        exact exSxR5_2
      · exact ezSxR5_2
    · refine rangeL_ok mixed ts_ok hG (by decide) (by decide) (by kernel_rfl) (by kernel_rfl) fun st lc hC hp => ?_
      simp only [go_sem, Nat.reduceBEq, Option.some.injEq] at hC
      subst hC
      obtain ⟨t, h⟩ := st
      dsimp only [LC] at hp
      obtain ⟨e1_0, e1_1, e1_2, e1_3, e1_4, e1_5, rfl, hb1, hok1⟩ := hp
      refine ⟨35, [.ep (cellsOf .district a0) 0], Int × Int, _, _, (routing_upward a0), pairI, (routing_Plan_l1 a0), (routing_Plan_l1_p a0), _, (a1, (outR (runI (routing_Plan_l0 a0 a1) a1.length 0 ([])))), _, _, _, [(2, .ptr 0 0), (4, .ptr 1 0), (5, .ptr 2 0), (6, .ptr 3 0), (7, .ptr 5 0)], (fun s_1 => [.cells (cellsOf .district a0), .cells [.os 7], .cells [.v (.bool false)], .cells [.v (.int .i64 (routing_narrow a0 a1))], .mp .int2 .int s_1.2 none, .cells [.os 4], .dead, .row .order s_1.1]), (fun x_1_0 => [.cells (cellsOf .district a0), .cells [.v (.slice none 0 0)], .cells [.v (.bool false)], .cells [.v (.int .i64 0)], .mp .int2 .int x_1_0 none, .cells [.os 4], .dead, .dead]), [0, 1, 2, 3, 4, 5, 6, 6], ?_, rfl, hok1, Nat.le_of_ble_eq_true rfl, ?_, upward_it a0 hb1, fun z_1 s_1 hq1 => ⟨rfl, L0, fun l => ?_, fun l => ?_, ?_⟩, fun s_1 => ?_, fun y => ?_⟩
      · simp only [go_sem, e1_0, e1_1, e1_2, e1_3, e1_4, e1_5]
      · simp only [go_sem, Nat.reduceBEq, Nat.reduceLeDiff, Nat.reduceLT, decide_true, Nat.reduceAdd, Nat.reduceSub, Nat.reduceMul, Int.reduceLE, Int.reduceLT, Int.reduceToNat, Int.reduceNeg, reduceCtorEq, killL, capIds, List.flatMap_cons, List.flatMap_nil, List.nil_append, List.append_nil, List.map_nil, e1_0, e1_1, e1_2, e1_3, e1_4, e1_5]
        all_goals (first | done | decide | (repeat' (first | refine And.intro ?_ ?_ | rfl | decide)))
      · simp only [loopsOk, and_self, true_and, and_true]
      · simp only [loopsOk, and_self, true_and, and_true]
      · unfold routing_Plan_l1_p at hq1
        simp only [go_sem, Nat.reduceBEq, Nat.reduceLeDiff, Nat.reduceLT, decide_true, Nat.reduceAdd, Nat.reduceSub, Nat.reduceMul, Int.reduceLE, Int.reduceLT, Int.reduceToNat, Int.reduceNeg, reduceCtorEq, C_routing_upward, C_routing_compare, routing_Plan_l1, psT, pairI, List.cons_append, List.nil_append]
        all_goals exact crSxR5_3
      · simp only [go_sem, Nat.reduceBEq, Nat.reduceLeDiff, Nat.reduceLT, decide_true, Nat.reduceAdd, Nat.reduceSub, Nat.reduceMul, Int.reduceLE, Int.reduceLT, Int.reduceToNat, Int.reduceNeg, reduceCtorEq, C_routing_upward, C_routing_compare]
        all_goals exact crSxR5_3
      · simp only [go_sem, Nat.reduceBEq, Nat.reduceLeDiff, Nat.reduceLT, decide_true, Nat.reduceAdd, Nat.reduceSub, Nat.reduceMul, Int.reduceLE, Int.reduceLT, Int.reduceToNat, Int.reduceNeg, reduceCtorEq, C_routing_upward, C_routing_compare]
        all_goals exact crSxR5_3
  · unfold bodyOf Tryz.f6
    try unfold routing_Plan
    simp only [go_sem, Nat.reduceBEq, Nat.reduceLeDiff, Nat.reduceLT, decide_true, Nat.reduceAdd, Nat.reduceSub, Nat.reduceMul, Int.reduceLE, Int.reduceLT, Int.reduceToNat, Int.reduceNeg, reduceCtorEq, C_routing_upward, C_routing_compare]
    all_goals exact cl3
end Go.Sx
end
section
namespace Go.Sx
open Go.Proofs
def drawP (d : District) (reach hour : Int) (x : Order) : Bool := (x.hour == hour) && ((x.outlet && (d.farms.getD x.index.toNat default).reach == reach) || (!x.outlet && (d.reaches.getD x.index.toNat default).up == reach))
abbrev rch (d : District) (r : Int) : Reach := d.reaches.getD r.toNat default
def drw (d : District) (l : List Order) (r h : Int) : Int := osum (drawP d r h) l
theorem runL_suf {ρ σ τ : Type} {step : τ → σ → ρ ⊕ σ} (J : List τ → σ → Prop) (hJ : ∀ x L s, J (x :: L) s → ∀ s', step x s = .inr s' → J L s') : ∀ (L : List τ) (s : σ), J L s → (∀ s', runL step L s = .inr s' → J [] s') ∧ ∀ y, runL step L s = .inl y → ∃ x L' s', J (x :: L') s' ∧ step x s' = .inl y
  | [], s, h => ⟨fun s' e => by simp only [runL, Sum.inr.injEq] at e; subst e; exact h, fun y e => by simp [runL] at e⟩
  | x :: L, s, h => by
    cases hs : step x s with
    | inl y =>
      refine ⟨fun s' e => ?_, fun y' e => ?_⟩
      · simp only [runL, hs] at e; cases e
      · simp only [runL, hs, Sum.inl.injEq] at e; subst e; exact ⟨x, L, s, h, hs⟩
    | inr s1 =>
      obtain ⟨h1, h2⟩ := runL_suf J hJ L s1 (hJ x L s h s1 hs)
      exact ⟨fun s' e => h1 s' (by simpa only [runL, hs] using e), fun y e => h2 y (by simpa only [runL, hs] using e)⟩
theorem okL_suf {ρ σ τ : Type} {step : τ → σ → ρ ⊕ σ} {p : τ → σ → Prop} (J : List τ → σ → Prop) (hJ : ∀ x L s, J (x :: L) s → p x s ∧ ∀ s', step x s = .inr s' → J L s') : ∀ (L : List τ) (s : σ), J L s → okL step p L s
  | [], _, _ => trivial
  | x :: L, s, h => ⟨(hJ x L s h).1, fun s' e => okL_suf J hJ L s' ((hJ x L s h).2 s' e)⟩
def PR (r h : Nat) (a b : Int) : Prop := (r : Int) < a ∨ a = r ∧ b < (h : Int)
abbrev Mp := List ((Int × Int) × Int)
structure PG (d : District) (l : List Order) (x : Order) : Prop where
  out : x.outlet = false
  i0 : 0 ≤ x.index
  i1 : x.index < (d.reaches.length : Int)
  h0 : 0 ≤ x.hour
  h1 : x.hour + (rch d x.index).delay < d.hours
  w : 1 ≤ drw d l x.index (x.hour + (rch d x.index).delay)
  v : routing_intake (rch d x.index) (drw d l x.index (x.hour + (rch d x.index).delay)) = (x.litres, true)
structure PI (d : District) (out gs : List Order) (m : Mp) (r h : Nat) : Prop where
  draws : ∀ a b, mgetT .int2 .int m (a, b) = drw d (out ++ gs) a b
  gate : ∀ x ∈ gs, PG d (out ++ gs) x ∧ PR r h x.index (x.hour + (rch d x.index).delay)
  all : ∀ a b, 0 ≤ a → a < (d.reaches.length : Int) → 0 ≤ b → b < d.hours → PR r h a b → drw d (out ++ gs) a b ≠ 0 → ∃ x ∈ gs, x.index = a ∧ x.hour + (rch d a).delay = b
  uniq : gs.Pairwise fun x y => ¬ (x.index = y.index ∧ x.hour = y.hour)
  len : gs.length ≤ (d.reaches.length - 1 - r) * d.hours.toNat + h
theorem drw_app (d : District) (a b : List Order) (r h : Int) : drw d (a ++ b) r h = drw d a r h + drw d b r h := osum_app _ _ _
theorem drw_one (d : District) (x : Order) (r h : Int) : drw d [x] r h = bif drawP d r h x then x.litres else 0 := by unfold drw; simp [osum]
theorem gate_lit {d : District} (hr : Right1 d) {l : List Order} {x : Order} (h : PG d l x) : 1 ≤ x.litres ∧ x.litres ≤ 1073741824 ∧ (rch d x.index).siphon ≤ x.litres ∧ drw d l x.index (x.hour + (rch d x.index).delay) ≤ wst (rch d x.index) x.litres ∧ ∀ u, 0 ≤ u → u ≤ 1073741824 → (rch d x.index).siphon ≤ u → drw d l x.index (x.hour + (rch d x.index).delay) ≤ wst (rch d x.index) u → x.litres ≤ u := by
  have hk : x.index.toNat < d.reaches.length := by have := h.i0; have := h.i1; omega
  rcases intake_ok (i := (x.index.toNat : Int)) (by omega) (hr.reach _ hk) h.w with ⟨v, e, e1, e2, e3, e4, e5⟩ | ⟨e, _⟩
  · have := h.v
    rw [e] at this
    cases this
    exact ⟨e1, e2, e3, e4, e5⟩
  · rw [h.v] at e; cases e
theorem PI.lit {d : District} {out gs : List Order} {m : Mp} {r h : Nat} (hr : Right1 d) (ho : Orders1 d out) (p : PI d out gs m r h) : ∀ x ∈ out ++ gs, 1 ≤ x.litres ∧ x.litres ≤ 1073741824 := fun x hx => by
  rcases List.mem_append.1 hx with hx | hx
  · exact ho.lit x hx
  · have := gate_lit hr (p.gate x hx).1; omega
theorem drw_bound {d : District} {l : List Order} (h : ∀ x ∈ l, 1 ≤ x.litres ∧ x.litres ≤ 1073741824) (a b : Int) : 0 ≤ drw d l a b ∧ drw d l a b ≤ l.length * 1073741824 := osum_bound h
theorem PI.len2 {d : District} {out gs : List Order} {m : Mp} {r h : Nat} (hr : Right1 d) (ho : Orders1 d out) (p : PI d out gs m r h) (hh : h ≤ d.hours.toNat) : (out ++ gs).length ≤ 266240 + 4096 := by
  have h1 := p.len
  have h2 : (d.reaches.length - 1 - r) * d.hours.toNat ≤ 64 * 4096 := Nat.mul_le_mul (by have := hr.reaches; omega) (by have := hr.hours; omega)
  have := ho.len
  have := hr.hours
  rw [List.length_append]; omega
theorem PI.row {d : District} {out gs : List Order} {m : Mp} {r : Nat} (p : PI d out gs m (r + 1) d.hours.toNat) (hr1 : r + 1 < d.reaches.length) (hh : 1 ≤ d.hours) : PI d out gs m r 0 := by
  refine ⟨p.draws, fun x hx => ⟨(p.gate x hx).1, ?_⟩, fun a b a0 a1 b0 b1 hp => p.all a b a0 a1 b0 b1 ?_, p.uniq, ?_⟩
  · have := (p.gate x hx).2
    unfold PR at this ⊢; omega
  · unfold PR at hp ⊢; omega
  · have := p.len
    rw [show d.reaches.length - 1 - r = (d.reaches.length - 1 - (r + 1)) + 1 by omega, Nat.succ_mul]; omega
theorem PI.skip {d : District} {out gs : List Order} {m : Mp} {r h : Nat} (p : PI d out gs m r h) (h0 : drw d (out ++ gs) r h = 0) : PI d out gs m r (h + 1) := by
  refine ⟨p.draws, fun x hx => ⟨(p.gate x hx).1, ?_⟩, fun a b a0 a1 b0 b1 hp hne => ?_, p.uniq, ?_⟩
  · have := (p.gate x hx).2
    unfold PR at this ⊢; omega
  · by_cases hq : PR r h a b
    · exact p.all a b a0 a1 b0 b1 hq hne
    · have : a = r ∧ b = h := by unfold PR at hp hq; omega
      obtain ⟨rfl, rfl⟩ := this
      exact absurd h0 hne
  · have := p.len; omega
theorem up_lt {d : District} (hr : Right1 d) {r : Nat} (h : r < d.reaches.length) : (rch d r).up < r := (hr.reach1 h).up
theorem delay_pos {d : District} (hr : Right1 d) {r : Nat} (h : r < d.reaches.length) : 1 ≤ (rch d r).delay ∧ (rch d r).delay ≤ 16 := ⟨(hr.reach1 h).delay1, (hr.reach1 h).delay⟩
theorem PI.add {d : District} {out gs : List Order} {m : Mp} {r h : Nat} (hr : Right1 d) (ho : Orders1 d out) (p : PI d out gs m r h) (hrl : r < d.reaches.length) (hhl : h < d.hours.toNat) (h1 : 1 ≤ drw d (out ++ gs) r h) {v : Int} (hv : routing_intake (rch d r) (drw d (out ++ gs) r h) = (v, true)) (hd : (rch d r).delay ≤ h) (v0 : 1 ≤ v) (v1 : v ≤ 1073741824) :
    PI d out (gs ++ [{ hour := (h : Int) - (rch d r).delay, index := r, litres := v, outlet := false }]) (mupdT .int2 .int m ((rch d r).up, (h : Int) - (rch d r).delay) (IntKind.i64.wrap (mgetT .int2 .int m ((rch d r).up, (h : Int) - (rch d r).delay) + v))) r (h + 1) := by
  generalize hx : ({ hour := (h : Int) - (rch d r).delay, index := (r : Int), litres := v, outlet := false } : Order) = x
  have xo : x.outlet = false := by rw [← hx]
  have xi : x.index = r := by rw [← hx]
  have xh : x.hour = (h : Int) - (rch d r).delay := by rw [← hx]
  have xl : x.litres = v := by rw [← hx]
  have hup := up_lt hr hrl
  have hdl := delay_pos hr hrl
  have hone : ∀ a b, drw d (out ++ (gs ++ [x])) a b = drw d (out ++ gs) a b + (if a = (rch d r).up ∧ b = (h : Int) - (rch d r).delay then v else 0) := fun a b => by
    rw [← List.append_assoc, drw_app, drw_one]
    congr 1
    unfold drawP
    rw [xo, xi, xh, xl]
    simp only [Bool.false_and, Bool.not_false, Bool.true_and, Bool.false_or, Int.toNat_natCast]
    by_cases e : a = (rch d r).up ∧ b = (h : Int) - (rch d r).delay
    · obtain ⟨rfl, rfl⟩ := e
      simp
    · rw [if_neg e]
      have : ((h : Int) - (rch d r).delay == b && (d.reaches.getD r default).up == a) = false := by
        rw [Bool.and_eq_false_iff, beq_eq_false_iff_ne, beq_eq_false_iff_ne]
        by_cases q : b = (h : Int) - (rch d r).delay
        · right; intro e2; exact e ⟨e2.symm, q⟩
        · left; exact fun e2 => q e2.symm
      rw [this]; rfl
  have hsame : ∀ a b, (r : Int) ≤ a → drw d (out ++ (gs ++ [x])) a b = drw d (out ++ gs) a b := fun a b ha => by
    rw [hone, if_neg (fun e => by omega)]; omega
  have hb := drw_bound (d := d) (p.lit hr ho)
  have hlen := p.len2 hr ho (by omega)
  refine ⟨fun a b => ?_, fun y hy => ?_, fun a b a0 a1 b0 b1 hp hne => ?_, ?_, ?_⟩
  · rw [mgetT_mupdT (k := .int2), hone, p.draws, p.draws]
    have := hb (rch d r).up ((h : Int) - (rch d r).delay)
    by_cases e : a = (rch d r).up ∧ b = (h : Int) - (rch d r).delay
    · rw [if_pos e, if_pos (by rw [e.1, e.2]), e.1, e.2, wrapI (by omega) (by omega)]
    · rw [if_neg e, if_neg (fun q => e (by cases q; exact ⟨rfl, rfl⟩))]; exact (Int.add_zero _).symm
  · rcases List.mem_append.1 hy with hy | hy
    · obtain ⟨g, gp⟩ := p.gate y hy
      have hge : (r : Int) ≤ y.index := by unfold PR at gp; omega
      refine ⟨⟨g.out, g.i0, g.i1, g.h0, g.h1, by rw [hsame _ _ hge]; exact g.w, by rw [hsame _ _ hge]; exact g.v⟩, ?_⟩
      unfold PR at gp ⊢; omega
    · rw [List.mem_singleton] at hy
      subst hy
      have eh : y.hour + (rch d y.index).delay = h := by rw [xh, xi]; omega
      refine ⟨⟨xo, by rw [xi]; omega, by rw [xi]; omega, by rw [xh]; omega, by rw [eh]; omega, ?_, ?_⟩, ?_⟩
      · rw [eh, xi, hsame _ _ (Int.le_refl _)]; exact h1
      · rw [eh, xi, hsame _ _ (Int.le_refl _), xl]; exact hv
      · rw [eh, xi]; unfold PR; omega
  · have hge : (r : Int) ≤ a := by unfold PR at hp; omega
    rw [hsame _ _ hge] at hne
    by_cases hq : PR r h a b
    · obtain ⟨y, hy, e⟩ := p.all a b a0 a1 b0 b1 hq hne
      exact ⟨y, List.mem_append_left _ hy, e⟩
    · have : a = r ∧ b = h := by unfold PR at hp hq; omega
      obtain ⟨rfl, rfl⟩ := this
      exact ⟨x, by simp, xi, by rw [xh]; omega⟩
  · rw [List.pairwise_append]
    refine ⟨p.uniq, List.pairwise_singleton _ _, fun y hy z hz => ?_⟩
    rw [List.mem_singleton] at hz
    subst hz
    rintro ⟨e1, e2⟩
    have := (p.gate y hy).2
    rw [e1, e2, xi, xh] at this
    unfold PR at this; omega
  · have := p.len
    rw [List.length_append]; simp; omega
theorem first_run {d : District} {out : List Order} (hr : Right1 d) (ho : Orders1 d out) :
    (∀ m, runI (routing_Plan_l0 d out) out.length 0 [] = .inr m → (∀ x ∈ out, x.outlet = true) ∧ ∀ a b, mgetT .int2 .int m (a, b) = drw d out a b) ∧ okI (routing_Plan_l0 d out) (routing_Plan_l0_p d out) out.length 0 [] ∧ ((∀ x ∈ out, x.outlet = true) → ∃ m, runI (routing_Plan_l0 d out) out.length 0 [] = .inr m) := by
  let J : Nat → Mp → Prop := fun k m => k ≤ out.length → (∀ x ∈ out.take k, x.outlet = true) ∧ ∀ a b, mgetT .int2 .int m (a, b) = drw d (out.take k) a b
  have hJ0 : J 0 [] := fun _ => ⟨by simp, fun a b => by rw [List.take_zero]; rfl⟩
  have hstep : ∀ j s, 0 ≤ j → j < 0 + out.length → J j s → routing_Plan_l0_p d out j s ∧ ∀ s', routing_Plan_l0 d out j s = .inr s' → J (j + 1) s' := fun j s _ hj hJ => by
    have hj : j < out.length := by omega
    obtain ⟨h1, h2⟩ := hJ (by omega)
    have hx := ho.one j hj
    refine ⟨fun he => ?_, fun s' hs _ => ?_⟩
    · have : (out.getD j default).outlet = true := by simpa using he
      have := hx.farm this
      have := hx.index0
      omega
    · unfold routing_Plan_l0 at hs
      cases hout : (out.getD j default).outlet with
      | false => rw [hout] at hs; cases hs
      | true =>
        rw [hout] at hs
        simp only [Bool.not_true, cond_false, Sum.inr.injEq] at hs
        have hel := getD_el out default hj
        rw [List.take_succ_eq_append_getElem hj]
        refine ⟨fun x hx => ?_, fun a b => ?_⟩
        · rcases List.mem_append.1 hx with h | h
          · exact h1 x h
          · rw [List.mem_singleton] at h; subst h; rw [← hel]; exact hout
        · subst hs
          rw [drw_app, drw_one, mgetT_mupdT (k := .int2), h2, h2, ← hel]
          have hb := drw_bound (d := d) (l := out.take j) (fun x hx => ho.lit x (List.mem_of_mem_take hx)) (d.farms.getD (out.getD j default).index.toNat default).reach (out.getD j default).hour
          have hl : (out.take j).length ≤ 4096 := by have := ho.len; rw [List.length_take]; omega
          have hl1 := hx.litres1; have hl2 := hx.litres
          rw [wrapI (by omega) (by omega)]
          unfold drawP
          rw [hout]
          simp only [Bool.true_and, Bool.not_true, Bool.false_and, Bool.or_false]
          by_cases e : (a, b) = ((d.farms.getD (out.getD j default).index.toNat default).reach, (out.getD j default).hour)
          · rw [if_pos e]; cases e; simp
          · rw [if_neg e]
            have : ((out.getD j default).hour == b && (d.farms.getD (out.getD j default).index.toNat default).reach == a) = false := by
              rw [Bool.and_eq_false_iff, beq_eq_false_iff_ne, beq_eq_false_iff_ne]
              by_cases q : (out.getD j default).hour = b
              · right; intro q2; exact e (by rw [q, q2])
              · left; exact q
            rw [this]; exact (Int.add_zero _).symm
  refine ⟨fun m hm => ?_, okI_inv J _ _ _ hJ0 hstep, fun hall => ?_⟩
  · have := runI_inv J _ _ _ hJ0 (fun j s h1 h2 h3 => (hstep j s h1 h2 h3).2) m hm (by omega)
    rw [Nat.zero_add, List.take_length] at this
    exact this
  · cases hrun : runI (routing_Plan_l0 d out) out.length 0 [] with
    | inr m => exact ⟨m, rfl⟩
    | inl y =>
      exfalso
      have key : ∀ n i s, i + n ≤ out.length → ∀ y, runI (routing_Plan_l0 d out) n i s ≠ .inl y := by
        intro n
        induction n with
        | zero => intro i s _ y h; simp [runI] at h
        | succ n ih =>
          intro i s hi y h
          simp only [runI] at h
          have hout : (out.getD i default).outlet = true := hall _ (getD_mem' _ _ (by omega))
          unfold routing_Plan_l0 at h
          rw [hout] at h
          simp only [Bool.not_true, cond_false] at h
          exact ih (i + 1) _ (by omega) y h
      exact key _ _ _ (by omega) y hrun
def PJ (d : District) (out : List Order) (L : List (Int × Int)) (s : List Order × Mp) : Prop := ∃ gs r h, r < d.reaches.length ∧ h ≤ d.hours.toNat ∧ s.1 = out ++ gs ∧ L = rowH r d.hours.toNat h ++ upwL d.hours.toNat r ∧ PI d out gs s.2 r h
theorem PJ_head {d : District} {out : List Order} (hr : Right1 d) {x : Int × Int} {L : List (Int × Int)} {s : List Order × Mp} (h : PJ d out (x :: L) s) : ∃ (gs : List Order) (r h : Nat), r < d.reaches.length ∧ h < d.hours.toNat ∧ s.1 = out ++ gs ∧ x = ((r : Int), (h : Int)) ∧ L = rowH r d.hours.toNat (h + 1) ++ upwL d.hours.toNat r ∧ PI d out gs s.2 r h := by
  obtain ⟨gs, r, h, h1, h2, h3, h4, h5⟩ := h
  have hH := hr.hours1
  by_cases hh : h < d.hours.toNat
  · rw [rowH_step hh, List.cons_append] at h4
    cases h4
    exact ⟨gs, r, h, h1, hh, h3, rfl, rfl, h5⟩
  · have : h = d.hours.toNat := by omega
    subst this
    rw [rowH_end, List.nil_append] at h4
    cases r with
    | zero => simp [upwL] at h4
    | succ r =>
      rw [upwL_row, rowH_step (by omega), List.cons_append] at h4
      cases h4
      exact ⟨gs, r, 0, by omega, by omega, h3, rfl, rfl, h5.row h1 hH⟩
theorem plan_step {d : District} {out : List Order} (hr : Right1 d) (ho : Orders1 d out) {gs : List Order} {r h : Nat} (hrl : r < d.reaches.length) (hhl : h < d.hours.toNat) {s : List Order × Mp} (hs : s.1 = out ++ gs) (p : PI d out gs s.2 r h) :
    (drw d (out ++ gs) r h = 0 ∧ routing_Plan_l1 d ((r : Int), (h : Int)) s = .inr s) ∨
    (1 ≤ drw d (out ++ gs) r h ∧ ((routing_intake (rch d r) (drw d (out ++ gs) r h)).2 = false ∨ (h : Int) < (rch d r).delay) ∧ routing_Plan_l1 d ((r : Int), (h : Int)) s = .inl s.2) ∨
    ∃ v, 1 ≤ drw d (out ++ gs) r h ∧ routing_intake (rch d r) (drw d (out ++ gs) r h) = (v, true) ∧ (rch d r).delay ≤ h ∧ 1 ≤ v ∧ v ≤ 1073741824 ∧
      routing_Plan_l1 d ((r : Int), (h : Int)) s = .inr (out ++ (gs ++ [{ hour := (h : Int) - (rch d r).delay, index := r, litres := v, outlet := false }]), mupdT .int2 .int s.2 ((rch d r).up, (h : Int) - (rch d r).delay) (IntKind.i64.wrap (mgetT .int2 .int s.2 ((rch d r).up, (h : Int) - (rch d r).delay) + v))) := by
  have hb := (drw_bound (d := d) (p.lit hr ho) r h).1
  have hm := p.draws r h
  have hdl := delay_pos hr hrl
  have hH := hr.hours
  by_cases h0 : drw d (out ++ gs) r h = 0
  · refine .inl ⟨h0, ?_⟩
    unfold routing_Plan_l1
    simp only
    rw [hm, h0]; rfl
  · have h1 : 1 ≤ drw d (out ++ gs) r h := by omega
    have hne : (mgetT .int2 .int s.2 ((r : Int), (h : Int)) == 0) = false := by rw [hm, beq_eq_false_iff_ne]; exact h0
    have hw : IntKind.i64.wrap ((h : Int) - (rch d r).delay) = (h : Int) - (rch d r).delay := wrapI (by omega) (by omega)
    by_cases hd : (h : Int) < (rch d r).delay
    · refine .inr (.inl ⟨h1, .inr hd, ?_⟩)
      unfold routing_Plan_l1
      simp only [hne, cond_false]
      rw [decide_eq_true hd, Bool.or_true]; rfl
    · rcases intake_ok (i := (r : Int)) (by omega) (hr.reach r hrl) h1 with ⟨v, e, e1, e2, e3, e4, e5⟩ | ⟨e, _⟩
      · refine .inr (.inr ⟨v, h1, e, by omega, e1, e2, ?_⟩)
        have e' : routing_intake (d.reaches.getD r default) (mgetT .int2 .int s.2 ((r : Int), (h : Int))) = (v, true) := by rw [hm]; exact e
        unfold routing_Plan_l1
        simp only [hne, cond_false, Int.toNat_natCast]
        have hd' : decide ((h : Int) < (d.reaches.getD r default).delay) = false := decide_eq_false hd
        rw [e', hd']
        simp only [Bool.not_true, Bool.or_self, cond_false, hs, List.append_assoc]
        have hw' : IntKind.i64.wrap ((h : Int) - (d.reaches.getD r default).delay) = (h : Int) - (rch d r).delay := hw
        rw [hw']
        rfl
      · refine .inr (.inl ⟨h1, .inl e, ?_⟩)
        have e' : (routing_intake (d.reaches.getD r default) (mgetT .int2 .int s.2 ((r : Int), (h : Int)))).2 = false := by rw [hm]; exact e
        unfold routing_Plan_l1
        simp only [hne, cond_false, Int.toNat_natCast]
        rw [e']; rfl
theorem PJ_step {d : District} {out : List Order} (hr : Right1 d) (ho : Orders1 d out) (x : Int × Int) (L : List (Int × Int)) (s : List Order × Mp) (hpj : PJ d out (x :: L) s) : ∀ s', routing_Plan_l1 d x s = .inr s' → PJ d out L s' := by
  obtain ⟨gs, r, h, h1, h2, h3, rfl, h5, h6⟩ := PJ_head hr hpj
  intro s' hs
  rcases plan_step hr ho h1 h2 h3 h6 with ⟨q0, q1⟩ | ⟨q0, q1, q2⟩ | ⟨v, q0, q1, q2, q3, q4, q5⟩
  · rw [q1] at hs; cases hs
    exact ⟨gs, r, h + 1, h1, h2, h3, h5, h6.skip q0⟩
  · rw [q2] at hs; cases hs
  · rw [q5] at hs; cases hs
    exact ⟨_, r, h + 1, h1, h2, rfl, h5, h6.add hr ho h1 h2 q0 q1 q2 q3 q4⟩
theorem PJ_start {d : District} {out : List Order} (hr : Right1 d) {m : Mp} (hm : ∀ a b, mgetT .int2 .int m (a, b) = drw d out a b) : PJ d out (routing_upward d) (out, m) := by
  have h1 := hr.one
  refine ⟨[], d.reaches.length - 1, 0, by omega, Nat.zero_le _, by simp, ?_, ⟨by simpa using hm, by simp, fun a b a0 a1 b0 b1 hp => ?_, List.Pairwise.nil, by simp⟩⟩
  · unfold routing_upward
    rw [← upwL_row, show d.reaches.length - 1 + 1 = d.reaches.length by omega]
  · unfold PR at hp; omega
structure PFin (d : District) (out gs : List Order) : Prop where
  gate : ∀ x ∈ gs, PG d (out ++ gs) x
  all : ∀ a b, 0 ≤ a → a < (d.reaches.length : Int) → 0 ≤ b → b < d.hours → drw d (out ++ gs) a b ≠ 0 → ∃ x ∈ gs, x.index = a ∧ x.hour + (rch d a).delay = b
  uniq : gs.Pairwise fun x y => ¬ (x.index = y.index ∧ x.hour = y.hour)
  len : gs.length ≤ d.reaches.length * d.hours.toNat
theorem PJ_end {d : District} {out : List Order} (hr : Right1 d) {s : List Order × Mp} (h : PJ d out [] s) : ∃ gs, s.1 = out ++ gs ∧ PFin d out gs := by
  obtain ⟨gs, r, h, h1, h2, h3, h4, h5⟩ := h
  have hH := hr.hours1
  have hh : h = d.hours.toNat := by
    by_cases hq : h < d.hours.toNat
    · rw [rowH_step hq] at h4; cases h4
    · omega
  subst hh
  rw [rowH_end, List.nil_append] at h4
  have r0 : r = 0 := by
    cases r with
    | zero => rfl
    | succ r => rw [upwL_row, rowH_step (by omega)] at h4; cases h4
  subst r0
  refine ⟨gs, h3, ⟨fun x hx => (h5.gate x hx).1, fun a b a0 a1 b0 b1 hne => h5.all a b a0 a1 b0 b1 ?_ hne, h5.uniq, ?_⟩⟩
  · unfold PR; omega
  · have := h5.len
    have e : d.reaches.length = (d.reaches.length - 1 - 0) + 1 := by omega
    rw [e, Nat.succ_mul]; omega
structure PX (d : District) (out gs : List Order) (r h : Nat) : Prop where
  part : ∃ m, PI d out gs m r h
  r1 : r < d.reaches.length
  h1 : h < d.hours.toNat
  w : 1 ≤ drw d (out ++ gs) r h
  no : (routing_intake (rch d r) (drw d (out ++ gs) r h)).2 = false ∨ (h : Int) < (rch d r).delay
theorem second_run {d : District} {out : List Order} (hr : Right1 d) (ho : Orders1 d out) {m : Mp} (hm : ∀ a b, mgetT .int2 .int m (a, b) = drw d out a b) :
    ((∃ s, runL (routing_Plan_l1 d) (routing_upward d) (out, m) = .inr s ∧ ∃ gs, s.1 = out ++ gs ∧ PFin d out gs) ∨ ∃ y, runL (routing_Plan_l1 d) (routing_upward d) (out, m) = .inl y ∧ ∃ gs r h, PX d out gs r h) ∧
    okL (routing_Plan_l1 d) (routing_Plan_l1_p d) (routing_upward d) (out, m) := by
  obtain ⟨h1, h2⟩ := runL_suf (PJ d out) (fun x L s h => PJ_step hr ho x L s h) (routing_upward d) (out, m) (PJ_start hr hm)
  refine ⟨?_, okL_suf (PJ d out) (fun x L s h => ⟨?_, PJ_step hr ho x L s h⟩) _ _ (PJ_start hr hm)⟩
  · cases hrun : runL (routing_Plan_l1 d) (routing_upward d) (out, m) with
    | inr s => exact .inl ⟨s, rfl, PJ_end hr (h1 s hrun)⟩
    | inl y =>
      refine .inr ⟨y, rfl, ?_⟩
      obtain ⟨x, L, s, g1, g2⟩ := h2 y hrun
      obtain ⟨gs, r, h, q1, q2, q3, rfl, q5, q6⟩ := PJ_head hr g1
      rcases plan_step hr ho q1 q2 q3 q6 with ⟨_, e⟩ | ⟨e0, e1, _⟩ | ⟨v, _, _, _, _, _, e⟩
      · rw [e] at g2; cases g2
      · exact ⟨gs, r, h, ⟨_, q6⟩, q1, q2, e0, e1⟩
      · rw [e] at g2; cases g2
  · obtain ⟨gs, r, h, q1, q2, q3, rfl, q5, q6⟩ := PJ_head hr h
    unfold routing_Plan_l1_p
    simp only
    refine fun _ => ⟨⟨by omega, by omega⟩, intake_p _ _, fun _ => ?_⟩
    have := q6.len2 hr ho (by omega)
    rw [q3, List.length_append]
    have e : ∀ (a : Order), [a].length = 1 := fun _ => rfl
    rw [e]
    unfold maxB
    omega
end Go.Sx
end
section
namespace Go.Sx
open Go.Proofs Go.Shelf Go.Sort Go.Lib
def K (x y : Order) : Prop := x.hour = y.hour ∧ x.index = y.index ∧ x.outlet = y.outlet
theorem K.symm {x y : Order} (h : K x y) : K y x := ⟨h.1.symm, h.2.1.symm, h.2.2.symm⟩
theorem oval_inj {x y : Order} (h : oval x = oval y) : x.outlet = y.outlet := by
  unfold oval at h
  cases h1 : x.outlet <;> cases h2 : y.outlet <;> rw [h1, h2] at h <;> simp at h
theorem olt_tri {x y : Order} (h1 : ¬ olt x y) (h2 : ¬ olt y x) : K x y := by
  have e : x.hour = y.hour ∧ x.index = y.index ∧ oval x = oval y := by unfold olt at h1 h2; omega
  exact ⟨e.1, e.2.1, oval_inj e.2.2⟩
theorem olt_ne {x y : Order} (h : olt x y) : ¬ K x y := fun ⟨h1, h2, h3⟩ => by
  have : oval x = oval y := by unfold oval; rw [h3]
  unfold olt at h; omega
theorem keys_eq {l : List Order} (h : l.Pairwise fun x y => ¬ K x y) {x y : Order} (hx : x ∈ l) (hy : y ∈ l) (hk : K x y) : x = y := by
  obtain ⟨i, hi, rfl⟩ := List.getElem_of_mem hx
  obtain ⟨j, hj, rfl⟩ := List.getElem_of_mem hy
  rw [List.pairwise_iff_getElem] at h
  rcases Nat.lt_trichotomy i j with q | q | q
  · exact absurd hk (h i j hi hj q)
  · subst q; rfl
  · exact absurd hk.symm (h j i hj hi q)
theorem apart_of {l : List Order} (h : l.Pairwise fun x y => ¬ K x y) : apart routing_by_1 l := fun x hx y hy h1 h2 => by
  refine keys_eq h hx hy (olt_tri (fun q => ?_) fun q => ?_)
  · unfold ltOf at h1; rw [decide_eq_false_iff_not] at h1; exact h1 ((by_lt _ _).2 q)
  · unfold ltOf at h2; rw [decide_eq_false_iff_not] at h2; exact h2 ((by_lt _ _).2 q)
theorem srt_perm (l : List Order) : (srt routing_by_1 l).Perm l := List.mergeSort_perm _ _
theorem pairwise_perm {l m : List Order} (h : l.Perm m) (hm : m.Pairwise fun x y => ¬ K x y) : l.Pairwise fun x y => ¬ K x y :=
  (h.pairwise_iff (fun {x y} (h : ¬ K x y) (k : K y x) => h k.symm)).2 hm
theorem srt_lt {l : List Order} (h : l.Pairwise fun x y => ¬ K x y) : (srt routing_by_1 l).Pairwise olt := by
  have h1 : (srt routing_by_1 l).Pairwise fun x y => (!(ltOf routing_by_1 y x)) = true := by
    refine List.pairwise_mergeSort (fun a b c h1 h2 => ?_) (fun a b => ?_) l
    · simp only [Bool.not_eq_true'] at h1 h2 ⊢
      exact swo_by.ntrans _ _ _ h2 h1
    · cases q : ltOf routing_by_1 b a with
      | false => rfl
      | true =>
        cases q2 : ltOf routing_by_1 a b with
        | false => rfl
        | true => have := swo_by.trans _ _ _ q q2; rw [swo_by.irrefl] at this; cases this
  have h2 := pairwise_perm (srt_perm l) h
  refine (h1.and h2).imp fun {x y} ⟨q1, q2⟩ => ?_
  have q3 : ¬ olt y x := fun q => by
    have : ltOf routing_by_1 y x = true := by unfold ltOf; rw [decide_eq_true_eq]; exact (by_lt _ _).2 q
    rw [this] at q1; cases q1
  exact Classical.byContradiction fun q4 => q2 (olt_tri q4 q3)
structure Good (d : District) (l : List Order) : Prop where
  chk : expand_Check d = 0
  len : l.length ≤ 4096
  one : ∀ x ∈ l, Order1 d x
  asc : l.Pairwise olt
theorem Good.right {d : District} {l : List Order} (h : Good d l) : Right1 d := check_right (by rw [h.chk]; rfl)
theorem good_of {d : District} {l : List Order} (h : routing_Check d l = 0) : Good d l := by
  have ho := routing_orders (d := d) (l := l) (by rw [h]; rfl)
  refine ⟨((routing_split d l).1 h).1, ho.len, fun x hx => ?_, List.pairwise_iff_getElem.2 fun i j hi hj hij => ?_⟩
  · obtain ⟨i, hi, rfl⟩ := List.getElem_of_mem hx
    have := ho.one i hi
    rwa [getD_el _ _ hi] at this
  · have := ho.lt j i hij hj
    rwa [getD_el _ _ hi, getD_el _ _ hj] at this
theorem Good.orders {d : District} {l : List Order} (h : Good d l) : Orders1 d l := by
  refine ⟨h.right, h.len, fun k hk => ?_, fun k hk => ?_⟩
  · rw [getD_el _ _ hk]; exact h.one _ (List.getElem_mem _)
  · rw [getD_el _ _ hk, getD_el _ _ (by omega : k < l.length)]
    exact (by_lt _ _).2 (List.pairwise_iff_getElem.1 h.asc _ _ _ _ (by omega))
theorem Good.keys {d : District} {l : List Order} (h : Good d l) : l.Pairwise fun x y => ¬ K x y := h.asc.imp fun {_ _} q => olt_ne q
theorem check_of {d : District} {l : List Order} (h : Good d l) : routing_Check d l = 0 := by
  refine (routing_split d l).2 ⟨h.chk, h.len, fun k hk => ?_⟩
  have hx := h.one _ (getD_mem' l default hk)
  have hasc : (decide ((k : Int) > 0) && decide (routing_by_1 (l.getD (IntKind.i64.wrap ((k : Int) - 1)).toNat default) (l.getD k default) ≥ 0)) = false := by
    rw [Bool.and_eq_false_iff, decide_eq_false_iff_not, decide_eq_false_iff_not]
    by_cases hk0 : 0 < k
    · right
      have hl := h.len
      rw [wrap_pred (by omega) hk0, Int.toNat_natCast]
      have := h.orders.asc (k - 1) (by omega)
      rw [show k - 1 + 1 = k by omega] at this
      omega
    · left; omega
  unfold routing_Check_l0
  rw [hasc]
  generalize l.getD k default = x at hx
  cases ho : x.outlet with
  | true =>
    have := hx.farm ho
    simp only [cond_true]
    have e : (decide (x.hour < 0) || decide (x.hour ≥ d.hours) || decide (x.index < 0) || decide (x.index ≥ (d.farms.length : Int)) || decide (x.litres < 1) || decide (x.litres > 1073741824) || false) = false := by
      have := hx.hour0; have := hx.hour; have := hx.index0; have := hx.litres1; have := hx.litres
      simp only [Bool.or_eq_false_iff, decide_eq_false_iff_not, and_true]; omega
    rw [e]; rfl
  | false =>
    have := hx.reach ho
    simp only [cond_false]
    have e : (decide (x.hour < 0) || decide (x.hour ≥ d.hours) || decide (x.index < 0) || decide (x.index ≥ (d.reaches.length : Int)) || decide (x.litres < 1) || decide (x.litres > 1073741824) || false) = false := by
      have := hx.hour0; have := hx.hour; have := hx.index0; have := hx.litres1; have := hx.litres
      simp only [Bool.or_eq_false_iff, decide_eq_false_iff_not, and_true]; omega
    rw [e]; rfl
structure Nar (d : District) (l : List Order) : Prop where
  good : Good d l
  wide : (d.reaches.length : Int) * d.hours ≤ 1024
theorem mul_hours {d : District} (hr : Right1 d) : 0 ≤ (d.reaches.length : Int) * d.hours ∧ (d.reaches.length : Int) * d.hours ≤ 262144 := by
  have := hr.reaches; have := hr.hours; have := hr.hours1
  have h1 := Int.mul_le_mul (by omega : (d.reaches.length : Int) ≤ 64) hr.hours (by omega) (by omega)
  have h2 := Int.mul_nonneg (by omega : 0 ≤ (d.reaches.length : Int)) (by omega : 0 ≤ d.hours)
  omega
theorem narrow_iff (d : District) (l : List Order) : routing_narrow d l = 0 ↔ Nar d l := by
  unfold routing_narrow
  by_cases h : routing_Check d l = 0
  · have hg := good_of h
    have hm := mul_hours hg.right
    rw [wrapI (by omega) (by omega), h]
    by_cases hw : (d.reaches.length : Int) * d.hours > 1024
    · rw [decide_eq_true hw]
      simp only [beq_self_eq_true, Bool.and_self, cond_true]
      exact ⟨fun e => (by cases e), fun e => (by have := e.wide; omega)⟩
    · rw [decide_eq_false hw]
      simp only [Bool.and_false, cond_false]
      exact ⟨fun _ => ⟨hg, by omega⟩, fun _ => trivial⟩
  · have : (routing_Check d l == 0) = false := by rw [beq_eq_false_iff_ne]; exact h
    rw [this]
    simp only [Bool.false_and, cond_false]
    exact ⟨fun e => absurd e h, fun e => absurd (check_of e.good) h⟩
structure PL (d : District) (out gs : List Order) : Prop where
  good : Good d (srt routing_by_1 (out ++ gs))
  fin : PFin d out gs
theorem fin_keys {d : District} {out gs : List Order} (ho : Good d out) (hall : ∀ x ∈ out, x.outlet = true) (h : PFin d out gs) : (out ++ gs).Pairwise fun x y => ¬ K x y := by
  rw [List.pairwise_append]
  refine ⟨ho.keys, h.uniq.imp fun {x y} q k => q ⟨k.2.1, k.1⟩, fun x hx y hy k => ?_⟩
  have := k.2.2
  rw [hall x hx, (h.gate y hy).out] at this
  cases this
theorem fin_one {d : District} {out gs : List Order} (ho : Good d out) (h : PFin d out gs) : ∀ x ∈ out ++ gs, Order1 d x := fun x hx => by
  rcases List.mem_append.1 hx with hx | hx
  · exact ho.one x hx
  · have g := h.gate x hx
    have gl := gate_lit ho.right g
    have hd := delay_pos ho.right (r := x.index.toNat) (by have := g.i0; have := g.i1; omega)
    rw [show ((x.index.toNat : Nat) : Int) = x.index from Int.toNat_of_nonneg g.i0] at hd
    have := g.h1
    exact ⟨g.h0, by omega, g.i0, fun e => (by rw [g.out] at e; cases e), fun _ => g.i1, gl.1, gl.2.1⟩
theorem plan_cases (d : District) (out : List Order) :
    (routing_narrow d out ≠ 0 ∧ routing_Plan d out = ([], false, routing_narrow d out)) ∨
    (Nar d out ∧ ¬ (∀ x ∈ out, x.outlet = true) ∧ routing_Plan d out = ([], false, 220)) ∨
    (Nar d out ∧ (∀ x ∈ out, x.outlet = true) ∧ (∃ gs r h, PX d out gs r h) ∧ routing_Plan d out = ([], false, 0)) ∨
    (Nar d out ∧ (∀ x ∈ out, x.outlet = true) ∧ ∃ gs, PFin d out gs ∧ 4096 < (out ++ gs).length ∧ routing_Plan d out = ([], false, 2)) ∨
    (Nar d out ∧ (∀ x ∈ out, x.outlet = true) ∧ ∃ gs, PL d out gs ∧ routing_Plan d out = (srt routing_by_1 (out ++ gs), true, 0)) := by
  unfold routing_Plan
  by_cases hn : routing_narrow d out = 0
  · have hN := (narrow_iff d out).1 hn
    have hr := hN.good.right
    have ho := hN.good.orders
    rw [hn]
    simp only [bne_self_eq_false, cond_false]
    obtain ⟨f1, _, f3⟩ := first_run hr ho
    by_cases hall : ∀ x ∈ out, x.outlet = true
    · obtain ⟨m, hm⟩ := f3 hall
      rw [hm]
      simp only
      obtain ⟨h1, _⟩ := second_run hr ho (f1 m hm).2
      rcases h1 with ⟨s, hs, gs, e1, e2⟩ | ⟨y, hy, hx⟩
      · rw [hs]
        simp only [e1]
        by_cases hl : (out ++ gs).length ≤ 4096
        · rw [decide_eq_false (by omega)]
          refine .inr (.inr (.inr (.inr ⟨hN, hall, gs, ⟨⟨hN.good.chk, ?_, fun x hx => fin_one hN.good e2 x ((srt_perm _).mem_iff.1 hx), srt_lt (fin_keys hN.good hall e2)⟩, e2⟩, rfl⟩)))
          rw [(srt_perm _).length_eq]; exact hl
        · rw [decide_eq_true (by omega)]
          exact .inr (.inr (.inr (.inl ⟨hN, hall, gs, e2, by omega, rfl⟩)))
      · rw [hy]
        exact .inr (.inr (.inl ⟨hN, hall, hx, rfl⟩))
    · cases hrun : runI (routing_Plan_l0 d out) out.length 0 [] with
      | inr m => exact absurd (f1 m hrun).1 hall
      | inl y => exact .inr (.inl ⟨hN, hall, rfl⟩)
  · have : (routing_narrow d out != 0) = true := by simpa using hn
    rw [this]
    exact .inl ⟨hn, rfl⟩
theorem narrow_p (d : District) (l : List Order) : routing_narrow_p d l := routing_pt d l
theorem plan_p (d : District) (out : List Order) : routing_Plan_p d out := by
  refine ⟨narrow_p _ _, fun hn => ?_⟩
  have hN := (narrow_iff d out).1 (by simpa using hn)
  have hr := hN.good.right
  have ho := hN.good.orders
  obtain ⟨f1, f2, f3⟩ := first_run hr ho
  refine fun _ => ⟨f2, fun m hm => ⟨?_, ?_, ?_⟩⟩
  · have := ho.len; unfold maxB; omega
  · have := hr.hours; omega
  · obtain ⟨h1, h2⟩ := second_run hr ho (f1 m hm).2
    refine ⟨h2, fun s hs _ _ => ?_⟩
    rcases h1 with ⟨s', hs', gs, e1, e2⟩ | ⟨y, hy, _⟩
    · rw [hs'] at hs
      cases hs
      rw [e1]
      exact apart_of (fin_keys hN.good (f1 m hm).1 e2)
    · rw [hy] at hs; cases hs
end Go.Sx
end
section
namespace Go.Sx
open Go.Proofs
set_option maxRecDepth 100000
set_option linter.unusedSimpArgs false
def law22_reach (up : Int) (delay : Int) (bank : Int) : Reach := ({ name := (ByteArray.mk #[]), up := up, delay := delay, cap := 20, bank := bank, siphon := 0, evap := ({ lo := 0, hi := 2 } : Range), seep := (({ n := 0, d := 1 } : Ratio), ({ n := 0, d := 1 } : Ratio)) } : Reach)
@[go_sem] def C_law22_reach : List SV → Option Con := (pI fun up => (pI fun delay => (pI fun bank => (pE (.det True (.agg (cellsOf .reach (law22_reach up delay bank))))))))
theorem ok_law22_reach : FnOk Tryz.prog 15 C_law22_reach := by
  have hG : ConsOk Tryz.prog (mkG [] []) := mkG_ok cg0 cg0
  refine fn_okN [.st .reach] mixed ts_ok hG (fn := Tryz.f15) (c := bodyOf Tryz.f15) (by kernel_rfl) (by kernel_rfl) (by kernel_rfl) (by kernel_rfl) (pI_all fun up => (pI_all fun delay => (pI_all fun bank => (pE_all (fun hp => ?_)))))
  dsimp only [conPre] at hp
  refine ⟨Nat.le_of_ble_eq_true rfl, L0, loopsOk0 _, ?_⟩
  · unfold bodyOf Tryz.f15
    try unfold law22_reach
    simp only [go_sem, Nat.reduceBEq, Nat.reduceLeDiff, Nat.reduceLT, decide_true, Nat.reduceAdd, Nat.reduceSub, Nat.reduceMul, Int.reduceLE, Int.reduceLT, Int.reduceToNat, Int.reduceNeg, reduceCtorEq]
    all_goals exact cl
def law22_example : District := ({ name := (ByteArray.mk #[]), hours := 6, tank := ({ cap := 100, start := 50 } : Tank), reaches := [(law22_reach (-1) 1 50), (law22_reach 0 1 50)], farms := [({ name := (ByteArray.mk #[]), reach := 1, area := 10, crop := 0 } : Farm)], crops := [({ name := (ByteArray.mk #[]), need := 3 } : Crop)], rights := [], duties := [], wells := [] } : District)
@[go_sem] def C_law22_example : List SV → Option Con := (pE (.det True (.agg [.v (.string ((law22_example).name)), .v (.int .i64 ((law22_example).hours)), .v (.int .i64 ((law22_example).tank.cap)), .v (.int .i64 ((law22_example).tank.start)), .nw .reach ((law22_example).reaches), .nw .farm ((law22_example).farms), .nw .crop ((law22_example).crops), .v (.slice none 0 0), .v (.slice none 0 0), .v (.slice none 0 0)])))
theorem ok_law22_example : FnOk Tryz.prog 11 C_law22_example := by
  have hG : ConsOk Tryz.prog (mkG [(15, C_law22_reach)] []) := mkG_ok (cgc ok_law22_reach cg0) cg0
  refine fn_okE true mixed ts_ok hG (fn := Tryz.f11) (c := bodyOf Tryz.f11) (by kernel_rfl) (by kernel_rfl) (by kernel_rfl) (by kernel_rfl) (pE_all (fun hp => ?_))
  dsimp only [conPre] at hp
  refine ⟨Nat.le_of_ble_eq_true rfl, L0, loopsOk0 _, ?_⟩
  · unfold bodyOf Tryz.f11
    try unfold law22_example
    simp only [go_sem, Nat.reduceBEq, Nat.reduceLeDiff, Nat.reduceLT, decide_true, Nat.reduceAdd, Nat.reduceSub, Nat.reduceMul, Int.reduceLE, Int.reduceLT, Int.reduceToNat, Int.reduceNeg, reduceCtorEq]
    all_goals exact cl
def law22_sane_c14 := ([({ hour := 0, index := 0, litres := 6, outlet := false } : Order), ({ hour := 1, index := 0, litres := 6, outlet := false } : Order)])
def law22_sane_c13 := ([({ hour := 1, index := 0, litres := 9, outlet := false } : Order), ({ hour := 2, index := 1, litres := 7, outlet := false } : Order), ({ hour := 3, index := 0, litres := 5, outlet := true } : Order)])
def law22_sane_c12 := ({ name := law22_example.name, hours := law22_example.hours, tank := law22_example.tank, reaches := law22_example.reaches, farms := law22_example.farms, crops := law22_example.crops, rights := [], duties := [], wells := [] } : District)
def law22_sane_c11 := (routing_Need law22_sane_c12 1 5)
def law22_sane_c10 := (routing_Worst law22_sane_c12 1 9)
def law22_sane_c9 := (routing_Worst law22_sane_c12 0 (-1))
def law22_sane_c8 := ({ name := law22_example.name, hours := law22_example.hours, tank := law22_example.tank, reaches := (law22_example.reaches.set 0 (law22_reach (-1) 2 10)), farms := law22_example.farms, crops := law22_example.crops, rights := [], duties := [], wells := [] } : District)
def law22_sane_c7 := (routing_Plan law22_sane_c12 ([({ hour := 1, index := 0, litres := 5, outlet := true } : Order)]))
def law22_sane_c6 := (routing_Plan law22_sane_c12 ([({ hour := 3, index := 0, litres := 5, outlet := true } : Order)]))
def law22_sane_c5 := (routing_Plan law22_sane_c12 ([({ hour := 1, index := 0, litres := 5, outlet := false } : Order)]))
def law22_sane_c4 := (law22_sane_c6.1)
def law22_sane_c3 := (routing_Fits law22_sane_c8 law22_sane_c14)
def law22_sane_c2 := (routing_Check law22_sane_c8 law22_sane_c14)
def law22_sane_c1 := (routing_Load law22_sane_c8 law22_sane_c14 0 1)
def law22_sane_c0 := (routing_Fits law22_sane_c12 law22_sane_c4)
def law22_sane : Bool := (bif ((((((((((law22_sane_c11.2.2 != 0) || (law22_sane_c10.2 != 0)) || (law22_sane_c6.2.2 != 0)) || (law22_sane_c7.2.2 != 0)) || (law22_sane_c5.2.2 != 220)) || (law22_sane_c9.2 != 1)) || (law22_sane_c0.2.2.2 != 0)) || (law22_sane_c1.2 != 0)) || (law22_sane_c3.2.2.2 != 0)) || (law22_sane_c2 != 0)) then false else ((((((((((((law22_sane_c11.2.1 && (law22_sane_c11.1 == 9)) && (law22_sane_c10.1 == 5)) && law22_sane_c6.2.1) && (!law22_sane_c7.2.1)) && law22_sane_c0.1) && (law22_sane_c0.2.1 == 0)) && (law22_sane_c0.2.2.1 == 0)) && (law22_sane_c1.1 == 12)) && (!law22_sane_c3.1)) && (law22_sane_c3.2.1 == 1)) && (law22_sane_c3.2.2.1 == 0)) && (ref22_Same law22_sane_c4 law22_sane_c13)))
def law22_sane_p : Prop := ((routing_Need_p law22_sane_c12 1 5) ∧ ((routing_Worst_p law22_sane_c12 1 9) ∧ ((routing_Plan_p law22_sane_c12 ([({ hour := 3, index := 0, litres := 5, outlet := true } : Order)])) ∧ ((routing_Plan_p law22_sane_c12 ([({ hour := 1, index := 0, litres := 5, outlet := true } : Order)])) ∧ ((routing_Plan_p law22_sane_c12 ([({ hour := 1, index := 0, litres := 5, outlet := false } : Order)])) ∧ ((routing_Worst_p law22_sane_c12 0 (-1)) ∧ ((routing_Fits_p law22_sane_c12 law22_sane_c4) ∧ ((0 ≤ 0 ∧ 0 < (law22_example.reaches.length : Int)) ∧ ((routing_Load_p law22_sane_c8 law22_sane_c14 0 1) ∧ ((routing_Fits_p law22_sane_c8 law22_sane_c14) ∧ (((((((((((law22_sane_c11.2.2 != 0) || (law22_sane_c10.2 != 0)) || (law22_sane_c6.2.2 != 0)) || (law22_sane_c7.2.2 != 0)) || (law22_sane_c5.2.2 != 220)) || (law22_sane_c9.2 != 1)) || (law22_sane_c0.2.2.2 != 0)) || (law22_sane_c1.2 != 0)) || (law22_sane_c3.2.2.2 != 0)) = false → (routing_Check_p law22_sane_c8 law22_sane_c14)) ∧ (((((((((((law22_sane_c11.2.2 != 0) || (law22_sane_c10.2 != 0)) || (law22_sane_c6.2.2 != 0)) || (law22_sane_c7.2.2 != 0)) || (law22_sane_c5.2.2 != 220)) || (law22_sane_c9.2 != 1)) || (law22_sane_c0.2.2.2 != 0)) || (law22_sane_c1.2 != 0)) || (law22_sane_c3.2.2.2 != 0)) || (law22_sane_c2 != 0)) = false → ((((((((((((law22_sane_c11.2.1 && (law22_sane_c11.1 == 9)) && (law22_sane_c10.1 == 5)) && law22_sane_c6.2.1) && (!law22_sane_c7.2.1)) && law22_sane_c0.1) && (law22_sane_c0.2.1 == 0)) && (law22_sane_c0.2.2.1 == 0)) && (law22_sane_c1.1 == 12)) && (!law22_sane_c3.1)) && (law22_sane_c3.2.1 == 1)) && (law22_sane_c3.2.2.1 == 0)) = true → (ref22_Same_p law22_sane_c4 law22_sane_c13))))))))))))))
@[go_sem] def C_law22_sane : List SV → Option Con := (pE (.det (law22_sane_p) (.v (.bool (law22_sane)))))
theorem ok_law22_sane : FnOk Tryz.prog 4 C_law22_sane := by
  have hG : ConsOk Tryz.prog (mkG [(6, fun l => C_routing_Plan (nrmA [.st .district, .sl .order] l)), (8, fun l => C_routing_Check (nrmA [.st .district, .sl .order] l)), (10, fun l => C_ref22_Same (nrmA [.sl .order, .sl .order] l)), (11, C_law22_example), (12, fun l => C_routing_Need (nrmA [.st .district, .o, .o] l)), (13, fun l => C_routing_Worst (nrmA [.st .district, .o, .o] l)), (14, fun l => C_routing_Fits (nrmA [.st .district, .sl .order] l)), (15, C_law22_reach), (16, fun l => C_routing_Load (nrmA [.st .district, .sl .order, .o, .o] l))] []) := mkG_ok (cgc (ok_routing_Plan.norm [.st .district, .sl .order]) (cgc (ok_routing_Check.norm [.st .district, .sl .order]) (cgc (ok_ref22_Same.norm [.sl .order, .sl .order]) (cgc ok_law22_example (cgc (ok_routing_Need.norm [.st .district, .o, .o]) (cgc (ok_routing_Worst.norm [.st .district, .o, .o]) (cgc (ok_routing_Fits.norm [.st .district, .sl .order]) (cgc ok_law22_reach (cgc (ok_routing_Load.norm [.st .district, .sl .order, .o, .o]) cg0))))))))) cg0
  refine fn_okN [.o] mixed ts_ok hG (fn := Tryz.f4) (c := bodyOf Tryz.f4) (by kernel_rfl) (by kernel_rfl) (by kernel_rfl) (by kernel_rfl) (pE_all (fun hp => ?_))
  dsimp only [conPre] at hp
  unfold law22_sane_p at hp
  try simp only [law22_sane_c14, law22_sane_c13, law22_sane_c12, law22_sane_c11, law22_sane_c10, law22_sane_c9, law22_sane_c8, law22_sane_c7, law22_sane_c6, law22_sane_c5, law22_sane_c4, law22_sane_c3, law22_sane_c2, law22_sane_c1, law22_sane_c0] at hp
  refine ⟨Nat.le_of_ble_eq_true rfl, L0, loopsOk0 _, ?_⟩
  · unfold bodyOf Tryz.f4
    try unfold law22_sane
    simp (maxSteps := 1000000) only [go_sem, Nat.reduceBEq, Nat.reduceLeDiff, Nat.reduceLT, decide_true, Nat.reduceAdd, Nat.reduceSub, Nat.reduceMul, Int.reduceLE, Int.reduceLT, Int.reduceToNat, Int.reduceNeg, reduceCtorEq, law22_sane_c14, law22_sane_c13, law22_sane_c12, law22_sane_c11, law22_sane_c10, law22_sane_c9, law22_sane_c8, law22_sane_c7, law22_sane_c6, law22_sane_c5, law22_sane_c4, law22_sane_c3, law22_sane_c2, law22_sane_c1, law22_sane_c0]
    all_goals exact cl
end Go.Sx
end
section
namespace Go.Sx
open Go.Proofs
theorem runL_unit_iff {ρ τ : Type} {step : τ → Unit → ρ ⊕ Unit} : ∀ {L : List τ}, runL step L () = .inr () ↔ ∀ x ∈ L, step x () = .inr ()
  | [] => by simp [runL]
  | x :: r => by
    simp only [runL, List.mem_cons, forall_eq_or_imp]
    cases h : step x () with
    | inl y => simp
    | inr y => simp only [true_and]; exact runL_unit_iff
def gP (r h : Int) (x : Order) : Bool := !x.outlet && x.index == r && x.hour == h
def glit (l : List Order) (r h : Int) : Int := osum (gP r h) l
theorem gP_key {r h : Int} {x y : Order} (hx : gP r h x = true) (hy : gP r h y = true) : K x y := by
  unfold gP at hx hy
  simp only [Bool.and_eq_true, Bool.not_eq_true', beq_iff_eq] at hx hy
  exact ⟨by rw [hx.2, hy.2], by rw [hx.1.2, hy.1.2], by rw [hx.1.1, hy.1.1]⟩
theorem getDset0 {α : Type} (l : List α) (d r : α) (i k : Nat) (hi : i < l.length) : (l.set i r).getD k d = if k = i then r else l.getD k d := by
  rw [List.getD_eq_getElem?_getD, List.getElem?_set, List.getD_eq_getElem?_getD]
  by_cases h : k = i
  · subst h; simp [hi]
  · rw [if_neg (fun e => h e.symm), if_neg h]
theorem rev_run (l : List Int) (hl : l.length ≤ maxL) : okI (slices_Reverse_int_int_l0 l) (slices_Reverse_int_int_l0_p l) (l.length + 1) 0 (l, 0, (IntKind.i64.wrap ((l.length : Int) - 1))) ∧ runI (slices_Reverse_int_int_l0 l) (l.length + 1) 0 (l, 0, (IntKind.i64.wrap ((l.length : Int) - 1))) = .inl l.reverse := by
  unfold maxL at hl
  rw [wrapI (by omega) (by omega)]
  have key : ∀ (n k : Nat) (s : List Int), n + k = l.length + 1 → s.length = l.length → 2 * k ≤ l.length + 1 → (∀ p, p < l.length → s.getD p 0 = if p < k ∨ l.length ≤ p + k then l.getD (l.length - 1 - p) 0 else l.getD p 0) →
      okI (slices_Reverse_int_int_l0 l) (slices_Reverse_int_int_l0_p l) n k (s, (k : Int), (l.length : Int) - 1 - k) ∧ (1 ≤ n → runI (slices_Reverse_int_int_l0 l) n k (s, (k : Int), (l.length : Int) - 1 - k) = .inl l.reverse) := by
    intro n
    induction n with
    | zero => intro k s _ _ _ _; exact ⟨trivial, fun h => by omega⟩
    | succ n ih =>
      intro k s hn hs hk hp
      have hstep : slices_Reverse_int_int_l0 l k (s, (k : Int), (l.length : Int) - 1 - k) = if (k : Int) < (l.length : Int) - 1 - k then .inr ((s.set k (s.getD (l.length - 1 - k) 0)).set (l.length - 1 - k) (s.getD k 0), ((k + 1 : Nat) : Int), (l.length : Int) - 1 - ((k + 1 : Nat) : Int)) else .inl s := by
        unfold slices_Reverse_int_int_l0
        simp only
        by_cases hlt : (k : Int) < (l.length : Int) - 1 - k
        · rw [decide_eq_true hlt, if_pos hlt, wrapI (by omega) (by omega), wrapI (by omega) (by omega)]
          simp only [cond_true, Int.toNat_natCast]
          have e : ((l.length : Int) - 1 - k).toNat = l.length - 1 - k := by omega
          rw [e]
          congr 2
          congr 1
          omega
        · rw [decide_eq_false hlt, if_neg hlt]; rfl
      by_cases hlt : (k : Int) < (l.length : Int) - 1 - k
      · have hnew : ∀ p, p < l.length → ((s.set k (s.getD (l.length - 1 - k) 0)).set (l.length - 1 - k) (s.getD k 0)).getD p 0 = if p < k + 1 ∨ l.length ≤ p + (k + 1) then l.getD (l.length - 1 - p) 0 else l.getD p 0 := fun p hpl => by
          rw [getDset0 _ _ _ _ _ (by rw [List.length_set, hs]; omega), getDset0 _ _ _ _ _ (by rw [hs]; omega)]
          have h1 := hp k (by omega)
          have h2 := hp (l.length - 1 - k) (by omega)
          rw [if_neg (by omega)] at h1 h2
          by_cases q1 : p = l.length - 1 - k
          · rw [if_pos q1, if_pos (by omega), h1]
            congr 1; omega
          · rw [if_neg q1]
            by_cases q2 : p = k
            · rw [if_pos q2, if_pos (by omega), h2]
              congr 1; omega
            · rw [if_neg q2, hp p hpl]
              by_cases q3 : p < k ∨ l.length ≤ p + k
              · rw [if_pos q3, if_pos (by omega)]
              · rw [if_neg q3, if_neg (by omega)]
        have := ih (k + 1) _ (by omega) (by rw [List.length_set, List.length_set, hs]) (by omega) hnew
        refine ⟨⟨?_, fun s' hs' => ?_⟩, fun _ => ?_⟩
        · unfold slices_Reverse_int_int_l0_p
          simp only
          intro _
          have e1 : (s.set (Int.toNat (k : Int)) (s.getD (Int.toNat ((l.length : Int) - 1 - k)) 0)).length = l.length := by rw [List.length_set, hs]
          rw [hs, e1]
          omega
        · rw [hstep, if_pos hlt] at hs'
          cases hs'
          exact this.1
        · simp only [runI, hstep, if_pos hlt]
          exact this.2 (by omega)
      · refine ⟨⟨?_, fun s' hs' => ?_⟩, fun _ => ?_⟩
        · unfold slices_Reverse_int_int_l0_p
          simp only
          intro h
          rw [decide_eq_true_eq] at h
          exact absurd h hlt
        · rw [hstep, if_neg hlt] at hs'; cases hs'
        · simp only [runI, hstep, if_neg hlt]
          congr 1
          apply List.ext_getElem
          · rw [hs, List.length_reverse]
          · intro p h1 h2
            rw [List.getElem_reverse]
            have := hp p (by omega)
            rw [getD_el s 0 h1, getD_el l 0 (by omega)] at this
            rw [this]
            by_cases q : p < k ∨ l.length ≤ p + k
            · rw [if_pos q]
            · rw [if_neg q, getD_el l 0 (by omega)]
              congr 1; omega
  have h0 := key (l.length + 1) 0 l (by omega) rfl (by omega) (fun p hp => by rw [if_neg (by omega)])
  have e : (l.length : Int) - 1 - (0 : Nat) = (l.length : Int) - 1 := by omega
  rw [e] at h0
  exact ⟨h0.1, h0.2 (by omega)⟩
theorem rev_eq (l : List Int) (hl : l.length ≤ maxL) : slices_Reverse_int_int l = l.reverse := by
  unfold slices_Reverse_int_int
  rw [(rev_run l hl).2]
theorem rev_p (l : List Int) : slices_Reverse_int_int_p l := fun hl => ⟨(rev_run l hl).1, fun z hz => by rw [(rev_run l hl).2] at hz; cases hz⟩
theorem up_facts {d : District} (hr : Right1 d) : ∀ (f : Nat) (n : Int), n < (d.reaches.length : Int) → n < f → upOk d f n ∧ (upL d f n).length ≤ f ∧ ∀ x ∈ upL d f n, 0 ≤ x ∧ x < (d.reaches.length : Int)
  | 0, n, h1, h2 => ⟨by unfold upOk; omega, Nat.le_refl _, fun x hx => by cases hx⟩
  | f + 1, n, h1, h2 => by
    by_cases h0 : 0 ≤ n
    · have hup := up_lt hr (r := n.toNat) (by omega)
      rw [show ((n.toNat : Nat) : Int) = n from Int.toNat_of_nonneg h0] at hup
      have e : (d.reaches.getD n.toNat (dflt .reach)) = rch d n := rfl
      obtain ⟨i1, i2, i3⟩ := up_facts hr f (rch d n).up (by omega) (by omega)
      refine ⟨fun _ => ⟨h1, by rw [e]; exact i1⟩, ?_, fun x hx => ?_⟩
      · rw [upL, if_pos h0, e, List.length_cons]; omega
      · rw [upL, if_pos h0, e] at hx
        rcases List.mem_cons.1 hx with rfl | hx
        · exact ⟨h0, h1⟩
        · exact i3 x hx
    · refine ⟨fun h => absurd h h0, by rw [upL_end h0]; simp, fun x hx => by rw [upL_end h0] at hx; cases hx⟩
theorem canals_check_iff (d : District) (l : List Int) : canals_check d l = 0 ↔ expand_Check d = 0 ∧ ∀ x ∈ l, 0 ≤ x ∧ x < (d.reaches.length : Int) := by
  unfold canals_check
  cases h1 : (expand_Check d != 0) with
  | true => simp at h1; simp [h1]
  | false =>
    simp at h1
    simp only [cond_false, h1, true_and]
    let f : Int → Unit → Unit ⊕ Unit := fun x _ => (bif ((decide (x < 0)) || (decide (x ≥ (d.reaches.length : Int)))) then .inl () else .inr ())
    have e : runI (canals_check_l0 d l) l.length 0 () = runL f l () := runI_eq_runL f 0 l ()
    have key : runL f l () = .inr () ↔ ∀ x ∈ l, 0 ≤ x ∧ x < (d.reaches.length : Int) := by
      rw [runL_unit_iff]
      refine forall_congr' fun x => forall_congr' fun hx => ?_
      simp only [f]
      by_cases q : x < 0
      · rw [decide_eq_true q]; simp; omega
      · by_cases q2 : x ≥ (d.reaches.length : Int)
        · rw [decide_eq_true q2]; simp; omega
        · rw [decide_eq_false q, decide_eq_false q2]; simp; omega
    rw [e, ← key]
    cases h : runL f l () with
    | inl y => simp
    | inr y => simp
structure PathOk (d : District) (reach : Int) : Prop where
  chk : expand_Check d = 0
  r0 : 0 ≤ reach
  r1 : reach < (d.reaches.length : Int)
theorem PathOk.right {d : District} {reach : Int} (h : PathOk d reach) : Right1 d := check_right (by rw [h.chk]; rfl)
theorem path_iff (d : District) (reach : Int) : canals_check d [reach] = 0 ↔ PathOk d reach := by
  rw [canals_check_iff]
  exact ⟨fun ⟨h1, h2⟩ => ⟨h1, (h2 reach (by simp)).1, (h2 reach (by simp)).2⟩, fun h => ⟨h.chk, fun x hx => by rw [List.mem_singleton] at hx; subst hx; exact ⟨h.r0, h.r1⟩⟩⟩
theorem PathOk.up {d : District} {reach : Int} (h : PathOk d reach) : canals_up_p d reach ∧ (canals_up d reach).length ≤ 64 ∧ ∀ x ∈ canals_up d reach, 0 ≤ x ∧ x < (d.reaches.length : Int) := by
  have := up_facts h.right (reach.toNat + 1) reach h.r1 (by have := h.r0; omega)
  have h1 := h.right.reaches
  have h2 := h.r1
  exact ⟨this.1, by have := this.2.1; unfold canals_up; omega, this.2.2⟩
theorem canals_path_p (d : District) (reach : Int) : canals_Path_p d reach := fun h => by
  have hp := (path_iff d reach).1 (by simpa using h)
  have hu := hp.up
  exact ⟨⟨hp.r0, hu.1, by unfold maxB; omega⟩, rev_p _⟩
theorem canals_path_eq {d : District} {reach : Int} (h : PathOk d reach) : canals_Path d reach = ((canals_up d reach).reverse, 0) := by
  unfold canals_Path
  rw [(path_iff d reach).2 h, rev_eq _ (by have := h.up.2.1; unfold maxL; omega)]
  rfl
theorem path_p (d : District) (reach n : Int) : routing_path_p d reach n := canals_path_p d reach
theorem path_cases (d : District) (reach n : Int) : (PathOk d reach ∧ 0 ≤ n ∧ n ≤ 1073741824 ∧ routing_path d reach n = ((canals_up d reach).reverse, 0)) ∨ (PathOk d reach ∧ ¬ (0 ≤ n ∧ n ≤ 1073741824) ∧ routing_path d reach n = ([], 1)) ∨ (¬ PathOk d reach ∧ canals_check d [reach] ≠ 0 ∧ routing_path d reach n = ([], canals_check d [reach])) := by
  unfold routing_path
  by_cases h : PathOk d reach
  · rw [canals_path_eq h]
    simp only [bne_self_eq_false, cond_false]
    by_cases hn : 0 ≤ n ∧ n ≤ 1073741824
    · rw [decide_eq_false (by omega), decide_eq_false (by omega)]
      exact .inl ⟨h, hn.1, hn.2, rfl⟩
    · have : (decide (n < 0) || decide (n > 1073741824)) = true := by rw [Bool.or_eq_true, decide_eq_true_eq, decide_eq_true_eq]; omega
      rw [this]
      exact .inr (.inl ⟨h, hn, rfl⟩)
  · have hc : canals_check d [reach] ≠ 0 := fun e => h ((path_iff d reach).1 e)
    have e : canals_Path d reach = ([], canals_check d [reach]) := by
      unfold canals_Path
      have : (canals_check d [reach] != 0) = true := by simpa using hc
      rw [this]; rfl
    rw [e]
    have : (canals_check d [reach] != 0) = true := by simpa using hc
    simp only [this, cond_true]
    exact .inr (.inr ⟨h, hc, trivial⟩)
theorem worstR_p (d : District) (reach v : Int) : routing_Worst_p d reach v := by
  refine ⟨path_p _ _ _, fun h hl => ?_⟩
  rcases path_cases d reach v with ⟨h1, _, _, e⟩ | ⟨_, _, e⟩ | ⟨_, h2, e⟩
  · refine okI_all _ _ _ fun j s _ hj => ?_
    unfold routing_Worst_l0_p
    rw [e] at hj ⊢
    simp only at hj ⊢
    have := h1.up.2.2 _ (List.mem_reverse.1 (getD_mem' (canals_up d reach).reverse 0 (k := j) (by omega)))
    exact this
  · rw [e] at h; cases h
  · rw [e] at h
    simp only [bne_eq_false_iff_eq] at h
    exact absurd h h2
theorem back_mem (l : List Int) : ∀ (k : Nat), k ≤ l.length → ∀ x ∈ backL l k, x.2 ∈ l
  | 0, _, x, h => by cases h
  | k + 1, hk, x, h => by
    rcases List.mem_cons.1 h with rfl | h
    · exact getD_mem' l 0 (by omega)
    · exact back_mem l k (by omega) x h
theorem needR_p (d : District) (reach w : Int) : routing_Need_p d reach w := by
  refine ⟨path_p _ _ _, fun h => ?_⟩
  rcases path_cases d reach w with ⟨h1, _, _, e⟩ | ⟨_, _, e⟩ | ⟨_, h2, e⟩
  · refine okL_all _ _ fun x hx s => ?_
    rw [e] at hx
    have := h1.up.2.2 _ (List.mem_reverse.1 (back_mem _ _ (Nat.le_refl _) x hx))
    exact ⟨this, intake_p _ _⟩
  · rw [e] at h; cases h
  · rw [e] at h
    simp only [bne_eq_false_iff_eq] at h
    exact absurd h h2
theorem loads_p {d : District} {l : List Order} (h : Good d l) : routing_loads_p d l := fun _ => okI_all _ _ _ fun j s _ hj => fun ho => by
  have h1 := h.one _ (getD_mem' l default (k := j) (by omega))
  have h2 := h1.reach ho
  have h0 := h1.index0
  refine ⟨⟨h0, h2⟩, ?_⟩
  have := delay_pos h.right (r := (l.getD j default).index.toNat) (by omega)
  rw [show (((l.getD j default).index.toNat : Nat) : Int) = (l.getD j default).index from Int.toNat_of_nonneg h0] at this
  have e : (d.reaches.getD (Int.toNat (l.getD j default).index) (default : Reach)).delay = (rch d (l.getD j default).index).delay := rfl
  rw [e]; omega
theorem fits_p (d : District) (l : List Order) : routing_Fits_p d l := ⟨narrow_p _ _, fun h => by
  have hN := (narrow_iff d l).1 (by simpa using h)
  exact ⟨loads_p hN.good, by have := hN.good.right.hours; omega⟩⟩
theorem load_p (d : District) (l : List Order) (r h : Int) : routing_Load_p d l r h := ⟨narrow_p _ _, fun hn _ => loads_p ((narrow_iff d l).1 (by simpa using hn)).good⟩
theorem same_p (a b : List Order) : ref22_Same_p a b := fun _ _ h => okI_all _ _ _ fun j s _ hj => fun _ => by
  simp only [bne_eq_false_iff_eq] at h
  omega
theorem srt_eq {l m : List Order} (hp : m.Perm l) (hs : m.Pairwise olt) : srt routing_by_1 l = m := by
  have hk : l.Pairwise fun x y => ¬ K x y := pairwise_perm hp.symm (hs.imp fun {_ _} q => olt_ne q)
  exact List.Perm.eq_of_pairwise (fun a b _ _ h1 h2 => absurd h2 (fun h2 => by unfold olt at h1 h2; omega)) (srt_lt hk) hs ((srt_perm l).trans hp.symm)
theorem s_c11 : law22_sane_c11 = (9, true, 0) := by kernel_rfl
theorem s_c10 : law22_sane_c10 = (5, 0) := by kernel_rfl
theorem s_c9 : law22_sane_c9 = (0, 1) := by kernel_rfl
theorem s_c7 : law22_sane_c7 = ([], false, 0) := by kernel_rfl
theorem s_c5 : law22_sane_c5 = ([], false, 220) := by kernel_rfl
theorem s_c6' : law22_sane_c6 = (srt routing_by_1 [({ hour := 3, index := 0, litres := 5, outlet := true } : Order), ({ hour := 2, index := 1, litres := 7, outlet := false } : Order), ({ hour := 1, index := 0, litres := 9, outlet := false } : Order)], true, 0) := by kernel_rfl
theorem s_c6 : law22_sane_c6 = (law22_sane_c13, true, 0) := by
  rw [s_c6', srt_eq (m := law22_sane_c13) (by unfold law22_sane_c13; exact (List.reverse_perm [({ hour := 3, index := 0, litres := 5, outlet := true } : Order), ({ hour := 2, index := 1, litres := 7, outlet := false } : Order), ({ hour := 1, index := 0, litres := 9, outlet := false } : Order)])) (by
    unfold law22_sane_c13
    simp [olt])]
theorem s_c4 : law22_sane_c4 = law22_sane_c13 := by unfold law22_sane_c4; rw [s_c6]
theorem s_c0 : law22_sane_c0 = (true, 0, 0, 0) := by unfold law22_sane_c0; rw [s_c4]; kernel_rfl
theorem s_c1 : law22_sane_c1 = (12, 0) := by kernel_rfl
theorem s_c3 : law22_sane_c3 = (false, 1, 0, 0) := by kernel_rfl
theorem s_c2 : law22_sane_c2 = 0 := by kernel_rfl
theorem sane_t : law22_sane = true := by
  unfold law22_sane
  rw [s_c11, s_c10, s_c9, s_c7, s_c5, s_c6, s_c0, s_c1, s_c3, s_c2, s_c4]
  kernel_rfl
theorem sane_p : law22_sane_p := ⟨needR_p _ _ _, worstR_p _ _ _, plan_p _ _, plan_p _ _, plan_p _ _, worstR_p _ _ _, fits_p _ _, ⟨Nat.le_refl _, by unfold law22_example; simp⟩, load_p _ _ _ _, fits_p _ _, fun _ => routing_pt _ _, fun _ _ => same_p _ _⟩
theorem runL_append {ρ σ τ : Type} (step : τ → σ → ρ ⊕ σ) : ∀ (a b : List τ) (s : σ), runL step (a ++ b) s = match runL step a s with | .inl y => .inl y | .inr s' => runL step b s'
  | [], b, s => rfl
  | x :: a, b, s => by
    simp only [List.cons_append, runL]
    cases step x s with
    | inl y => rfl
    | inr s' => exact runL_append step a b s'
def arr (x : Reach) (v : Int) : Int := if x.siphon ≤ v then wst x v else 0
end Go.Sx
end
section
namespace Go.Sx
open Go.Proofs
set_option maxRecDepth 100000
set_option linter.unusedSimpArgs false
def ref19_Few (d : District) : Bool := ((((((decide ((d.reaches.length : Int) ≤ 100)) && (decide ((d.farms.length : Int) ≤ 700))) && (decide ((d.crops.length : Int) ≤ 100))) && (decide ((d.rights.length : Int) ≤ 300))) && (decide ((d.duties.length : Int) ≤ 300))) && (decide ((d.wells.length : Int) ≤ 100)))
@[go_sem] def C_ref19_Few : List SV → Option Con := (pD .district fun d => (pE (.det True (.v (.bool (ref19_Few d))))))
theorem ok_ref19_Few : FnOk Tryz.prog 17 C_ref19_Few := by
  have hG : ConsOk Tryz.prog (mkG [] []) := mkG_ok cg0 cg0
  refine fn_okN [.o] mixed ts_ok hG (fn := Tryz.f17) (c := bodyOf Tryz.f17) (by kernel_rfl) (by kernel_rfl) (by kernel_rfl) (by kernel_rfl) (pD_all fun d => (pE_all (fun hp => ?_)))
  dsimp only [conPre] at hp
  refine ⟨Nat.le_of_ble_eq_true rfl, L0, loopsOk0 _, ?_⟩
  · unfold bodyOf Tryz.f17
    try unfold ref19_Few
    simp only [go_sem, Nat.reduceBEq, Nat.reduceLeDiff, Nat.reduceLT, decide_true, Nat.reduceAdd, Nat.reduceSub, Nat.reduceMul, Int.reduceLE, Int.reduceLT, Int.reduceToNat, Int.reduceNeg, reduceCtorEq]
    all_goals exact cl
def ref22_Few (d : District) (l_ : List Order) : Bool := (bif ((!(ref19_Few d)) || ((decide ((l_.length : Int) > 150)) && ((decide ((l_.length : Int) ≤ 4096)) || (decide ((l_.length : Int) > 5000))))) then false else (bif (((decide (d.hours < 1)) || (decide (d.hours > 4096))) || (decide ((d.reaches.length : Int) > 64))) then true else ((decide ((IntKind.i64.wrap ((d.reaches.length : Int) * d.hours)) ≤ 200)) || (decide ((IntKind.i64.wrap ((d.reaches.length : Int) * d.hours)) > 1024)))))
@[go_sem] def C_ref22_Few : List SV → Option Con := (pD .district fun d => (pR .order fun l_ => (pE (.det True (.v (.bool (ref22_Few d l_)))))))
theorem ok_ref22_Few : FnOk Tryz.prog 5 C_ref22_Few := by
  have hG : ConsOk Tryz.prog (mkG [(17, fun l => C_ref19_Few (nrmA [.st .district] l))] []) := mkG_ok (cgc (ok_ref19_Few.norm [.st .district]) cg0) cg0
  refine fn_okN [.o] mixed ts_ok hG (fn := Tryz.f5) (c := bodyOf Tryz.f5) (by kernel_rfl) (by kernel_rfl) (by kernel_rfl) (by kernel_rfl) (pD_all fun d => (pR_all fun l_ => (pE_all (fun hp => ?_))))
  dsimp only [conPre] at hp
  refine ⟨Nat.le_of_ble_eq_true rfl, L0, loopsOk0 _, ?_⟩
  · unfold bodyOf Tryz.f5
    try unfold ref22_Few
    simp only [go_sem, Nat.reduceBEq, Nat.reduceLeDiff, Nat.reduceLT, decide_true, Nat.reduceAdd, Nat.reduceSub, Nat.reduceMul, Int.reduceLE, Int.reduceLT, Int.reduceToNat, Int.reduceNeg, reduceCtorEq]
    all_goals exact cl
def ref19_within (n : Int) (lo : Int) (hi : Int) : Bool := ((decide (n ≥ lo)) && (decide (n ≤ hi)))
@[go_sem] def C_ref19_within : List SV → Option Con := (pI fun n => (pI fun lo => (pI fun hi => (pE (.det True (.v (.bool (ref19_within n lo hi))))))))
theorem ok_ref19_within : FnOk Tryz.prog 73 C_ref19_within := by
  have hG : ConsOk Tryz.prog (mkG [] []) := mkG_ok cg0 cg0
  refine fn_okN [.o] mixed ts_ok hG (fn := Tryz.f73) (c := bodyOf Tryz.f73) (by kernel_rfl) (by kernel_rfl) (by kernel_rfl) (by kernel_rfl) (pI_all fun n => (pI_all fun lo => (pI_all fun hi => (pE_all (fun hp => ?_)))))
  dsimp only [conPre] at hp
  refine ⟨Nat.le_of_ble_eq_true rfl, L0, loopsOk0 _, ?_⟩
  · unfold bodyOf Tryz.f73
    try unfold ref19_within
    simp only [go_sem, Nat.reduceBEq, Nat.reduceLeDiff, Nat.reduceLT, decide_true, Nat.reduceAdd, Nat.reduceSub, Nat.reduceMul, Int.reduceLE, Int.reduceLT, Int.reduceToNat, Int.reduceNeg, reduceCtorEq]
    all_goals exact cl
@[go_sem] def ref12_divisor_l0 (b : Int) (k_0 : Nat) (s_0 : Int × Int) : Int ⊕ (Int × Int) := (bif (decide (s_0.2 > 0)) then .inr (s_0.2, (Int.tmod s_0.1 s_0.2)) else .inl s_0.1)
def ref12_divisor_l0_p (b : Int) (k_0 : Nat) (s_0 : Int × Int) : Prop := ((decide (s_0.2 > 0)) = true → s_0.2 ≠ 0)
def ref12_divisor (a : Int) (b : Int) : Int := (match runI (ref12_divisor_l0 b) (Int.toNat b + 1) 0 (a, b) with | .inl x_0_0 => x_0_0 | .inr s_0 => default)
def ref12_divisor_p (a : Int) (b : Int) : Prop := (okI (ref12_divisor_l0 b) (ref12_divisor_l0_p b) (Int.toNat b + 1) 0 (a, b) ∧ (∀ z_, runI (ref12_divisor_l0 b) (Int.toNat b + 1) 0 (a, b) ≠ .inr z_))
@[go_sem] def C_ref12_divisor : List SV → Option Con := (pI fun a => (pI fun b => (pE (.det (ref12_divisor_p a b) (.v (.int .i64 (ref12_divisor a b)))))))
theorem ok_ref12_divisor : FnOk Tryz.prog 121 C_ref12_divisor := by
  have hG : ConsOk Tryz.prog (mkG [] []) := mkG_ok cg0 cg0
  refine fn_okN [.o] mixed ts_ok hG (fn := Tryz.f121) (c := bodyOf Tryz.f121) (by kernel_rfl) (by kernel_rfl) (by kernel_rfl) (by kernel_rfl) (pI_all fun a => (pI_all fun b => (pE_all (fun hp => ?_))))
  dsimp only [conPre] at hp
  unfold ref12_divisor_p at hp
  refine ⟨Nat.le_of_ble_eq_true rfl, (fun id st => bif Nat.beq id 0 then some (LCV (ρ := Int) (σ := (Int × Int)) 0 [] [] (fun k_0 s_0 => ⟨[(0, .v (.int .i64 s_0.1)), (1, .v (.int .i64 s_0.2))], []⟩) (ref12_divisor_l0 b) (ref12_divisor_l0_p b) (Int.toNat b + 1) (a, b) (fun _ => .normal) (fun x_0_0 => ⟨[(0, .v (.int .i64 x_0_0))], []⟩) st) else none), ?_, ?_⟩
  · unfold bodyOf Tryz.f121
    simp only [loopsOk, true_and, and_true]
    · refine loopV_ok mixed ts_ok hG (by kernel_rfl) (fun _ => rfl) fun k_0 s_0 hq0 => ⟨L0, loopsOk0 _, ?_⟩
      · unfold ref12_divisor_l0_p at hq0
        exact evSxR2_0
  · unfold bodyOf Tryz.f121
    try unfold ref12_divisor
    simp only [go_sem, Nat.reduceBEq, Nat.reduceLeDiff, Nat.reduceLT, decide_true, Nat.reduceAdd, Nat.reduceSub, Nat.reduceMul, Int.reduceLE, Int.reduceLT, Int.reduceToNat, Int.reduceNeg, reduceCtorEq]
    all_goals exact cl
def ref12_size (n : Int) : Int := (bif (decide (n < 0)) then (IntKind.i64.wrap (0 - n)) else n)
@[go_sem] def C_ref12_size : List SV → Option Con := (pI fun n => (pE (.det True (.v (.int .i64 (ref12_size n))))))
theorem ok_ref12_size : FnOk Tryz.prog 122 C_ref12_size := by
  have hG : ConsOk Tryz.prog (mkG [] []) := mkG_ok cg0 cg0
  refine fn_okN [.o] mixed ts_ok hG (fn := Tryz.f122) (c := bodyOf Tryz.f122) (by kernel_rfl) (by kernel_rfl) (by kernel_rfl) (by kernel_rfl) (pI_all fun n => (pE_all (fun hp => ?_)))
  dsimp only [conPre] at hp
  refine ⟨Nat.le_of_ble_eq_true rfl, L0, loopsOk0 _, ?_⟩
  · unfold bodyOf Tryz.f122
    try unfold ref12_size
    simp only [go_sem, Nat.reduceBEq, Nat.reduceLeDiff, Nat.reduceLT, decide_true, Nat.reduceAdd, Nat.reduceSub, Nat.reduceMul, Int.reduceLE, Int.reduceLT, Int.reduceToNat, Int.reduceNeg, reduceCtorEq]
    all_goals exact cl
def ref12_Valid (a : Ratio) : Bool := (((((decide (a.d ≥ 1)) && (decide (a.d ≤ 1073741824))) && (decide (a.n ≥ (-1073741824)))) && (decide (a.n ≤ 1073741824))) && ((ref12_divisor (ref12_size a.n) a.d) == 1))
def ref12_Valid_p (a : Ratio) : Prop := (((((decide (a.d ≥ 1)) && (decide (a.d ≤ 1073741824))) && (decide (a.n ≥ (-1073741824)))) && (decide (a.n ≤ 1073741824))) = true → (ref12_divisor_p (ref12_size a.n) a.d))
@[go_sem] def C_ref12_Valid : List SV → Option Con := (pD .ratio fun a => (pE (.det (ref12_Valid_p a) (.v (.bool (ref12_Valid a))))))
theorem ok_ref12_Valid : FnOk Tryz.prog 117 C_ref12_Valid := by
  have hG : ConsOk Tryz.prog (mkG [(121, C_ref12_divisor), (122, C_ref12_size)] []) := mkG_ok (cgc ok_ref12_divisor (cgc ok_ref12_size cg0)) cg0
  refine fn_okN [.o] mixed ts_ok hG (fn := Tryz.f117) (c := bodyOf Tryz.f117) (by kernel_rfl) (by kernel_rfl) (by kernel_rfl) (by kernel_rfl) (pD_all fun a => (pE_all (fun hp => ?_)))
  dsimp only [conPre] at hp
  unfold ref12_Valid_p at hp
  refine ⟨Nat.le_of_ble_eq_true rfl, L0, loopsOk0 _, ?_⟩
  · unfold bodyOf Tryz.f117
    try unfold ref12_Valid
    simp only [go_sem, Nat.reduceBEq, Nat.reduceLeDiff, Nat.reduceLT, decide_true, Nat.reduceAdd, Nat.reduceSub, Nat.reduceMul, Int.reduceLE, Int.reduceLT, Int.reduceToNat, Int.reduceNeg, reduceCtorEq]
    all_goals exact cl
def ref12_Check (a : Ratio) : Int := (bif (!(ref12_Valid a)) then 120 else 0)
def ref12_Check_p (a : Ratio) : Prop := (ref12_Valid_p a)
@[go_sem] def C_ref12_Check : List SV → Option Con := (pD .ratio fun a => (pE (.det (ref12_Check_p a) (.v (.int .i64 (ref12_Check a))))))
theorem ok_ref12_Check : FnOk Tryz.prog 111 C_ref12_Check := by
  have hG : ConsOk Tryz.prog (mkG [(117, C_ref12_Valid)] []) := mkG_ok (cgc ok_ref12_Valid cg0) cg0
  refine fn_okN [.o] mixed ts_ok hG (fn := Tryz.f111) (c := bodyOf Tryz.f111) (by kernel_rfl) (by kernel_rfl) (by kernel_rfl) (by kernel_rfl) (pD_all fun a => (pE_all (fun hp => ?_)))
  dsimp only [conPre] at hp
  unfold ref12_Check_p at hp
  refine ⟨Nat.le_of_ble_eq_true rfl, L0, loopsOk0 _, ?_⟩
  · unfold bodyOf Tryz.f111
    try unfold ref12_Check
    simp only [go_sem, Nat.reduceBEq, Nat.reduceLeDiff, Nat.reduceLT, decide_true, Nat.reduceAdd, Nat.reduceSub, Nat.reduceMul, Int.reduceLE, Int.reduceLT, Int.reduceToNat, Int.reduceNeg, reduceCtorEq]
    all_goals exact cl
def ref12_Less (a : Ratio) (b : Ratio) : Bool := (decide ((IntKind.i64.wrap (a.n * b.d)) < (IntKind.i64.wrap (b.n * a.d))))
@[go_sem] def C_ref12_Less : List SV → Option Con := (pD .ratio fun a => (pD .ratio fun b => (pE (.det True (.v (.bool (ref12_Less a b)))))))
theorem ok_ref12_Less : FnOk Tryz.prog 115 C_ref12_Less := by
  have hG : ConsOk Tryz.prog (mkG [] []) := mkG_ok cg0 cg0
  refine fn_okN [.o] mixed ts_ok hG (fn := Tryz.f115) (c := bodyOf Tryz.f115) (by kernel_rfl) (by kernel_rfl) (by kernel_rfl) (by kernel_rfl) (pD_all fun a => (pD_all fun b => (pE_all (fun hp => ?_))))
  dsimp only [conPre] at hp
  refine ⟨Nat.le_of_ble_eq_true rfl, L0, loopsOk0 _, ?_⟩
  · unfold bodyOf Tryz.f115
    try unfold ref12_Less
    simp only [go_sem, Nat.reduceBEq, Nat.reduceLeDiff, Nat.reduceLT, decide_true, Nat.reduceAdd, Nat.reduceSub, Nat.reduceMul, Int.reduceLE, Int.reduceLT, Int.reduceToNat, Int.reduceNeg, reduceCtorEq]
    all_goals exact cl
def ref12_Both (a : Ratio) (b : Ratio) : Bool := ((ref12_Valid a) && (ref12_Valid b))
def ref12_Both_p (a : Ratio) (b : Ratio) : Prop := ((ref12_Valid_p a) ∧ ((ref12_Valid a) = true → (ref12_Valid_p b)))
@[go_sem] def C_ref12_Both : List SV → Option Con := (pD .ratio fun a => (pD .ratio fun b => (pE (.det (ref12_Both_p a b) (.v (.bool (ref12_Both a b)))))))
theorem ok_ref12_Both : FnOk Tryz.prog 118 C_ref12_Both := by
  have hG : ConsOk Tryz.prog (mkG [(117, C_ref12_Valid)] []) := mkG_ok (cgc ok_ref12_Valid cg0) cg0
  refine fn_okN [.o] mixed ts_ok hG (fn := Tryz.f118) (c := bodyOf Tryz.f118) (by kernel_rfl) (by kernel_rfl) (by kernel_rfl) (by kernel_rfl) (pD_all fun a => (pD_all fun b => (pE_all (fun hp => ?_))))
  dsimp only [conPre] at hp
  unfold ref12_Both_p at hp
  refine ⟨Nat.le_of_ble_eq_true rfl, L0, loopsOk0 _, ?_⟩
  · unfold bodyOf Tryz.f118
    try unfold ref12_Both
    simp only [go_sem, Nat.reduceBEq, Nat.reduceLeDiff, Nat.reduceLT, decide_true, Nat.reduceAdd, Nat.reduceSub, Nat.reduceMul, Int.reduceLE, Int.reduceLT, Int.reduceToNat, Int.reduceNeg, reduceCtorEq]
    all_goals exact cl
def ref12_Cmp (a : Ratio) (b : Ratio) : Int × Int := (bif (!(ref12_Both a b)) then (0, 120) else (bif (ref12_Less a b) then ((-1), 0) else (bif (ref12_Less b a) then (1, 0) else (0, 0))))
def ref12_Cmp_p (a : Ratio) (b : Ratio) : Prop := (ref12_Both_p a b)
@[go_sem] def C_ref12_Cmp : List SV → Option Con := (pD .ratio fun a => (pD .ratio fun b => (pE (.det (ref12_Cmp_p a b) (.tup [.v (.int .i64 ((ref12_Cmp a b).1)), .v (.int .i64 ((ref12_Cmp a b).2))])))))
theorem ok_ref12_Cmp : FnOk Tryz.prog 112 C_ref12_Cmp := by
  have hG : ConsOk Tryz.prog (mkG [(115, C_ref12_Less), (118, C_ref12_Both)] []) := mkG_ok (cgc ok_ref12_Less (cgc ok_ref12_Both cg0)) cg0
  refine fn_okN [.o, .o] mixed ts_ok hG (fn := Tryz.f112) (c := bodyOf Tryz.f112) (by kernel_rfl) (by kernel_rfl) (by kernel_rfl) (by kernel_rfl) (pD_all fun a => (pD_all fun b => (pE_all (fun hp => ?_))))
  dsimp only [conPre] at hp
  unfold ref12_Cmp_p at hp
  refine ⟨Nat.le_of_ble_eq_true rfl, L0, loopsOk0 _, ?_⟩
  · unfold bodyOf Tryz.f112
    try unfold ref12_Cmp
    simp only [go_sem, Nat.reduceBEq, Nat.reduceLeDiff, Nat.reduceLT, decide_true, Nat.reduceAdd, Nat.reduceSub, Nat.reduceMul, Int.reduceLE, Int.reduceLT, Int.reduceToNat, Int.reduceNeg, reduceCtorEq]
    all_goals exact cl
def ref19_shares (x : Ratio × Ratio) : Bool := (bif (((ref12_Check x.1) != 0) || ((ref12_Check x.2) != 0)) then false else (((decide (x.1.n ≥ 0)) && (decide ((ref12_Cmp x.1 x.2).1 ≤ 0))) && (decide (x.2.n ≤ x.2.d))))
def ref19_shares_p (x : Ratio × Ratio) : Prop := ((ref12_Check_p x.1) ∧ ((((ref12_Check x.1) != 0) = false → (ref12_Check_p x.2)) ∧ ((((ref12_Check x.1) != 0) || ((ref12_Check x.2) != 0)) = false → (ref12_Cmp_p x.1 x.2))))
@[go_sem] def C_ref19_shares : List SV → Option Con := (pD .ratio2 fun x => (pE (.det (ref19_shares_p x) (.v (.bool (ref19_shares x))))))
theorem ok_ref19_shares : FnOk Tryz.prog 105 C_ref19_shares := by
  have hG : ConsOk Tryz.prog (mkG [(111, C_ref12_Check), (112, C_ref12_Cmp)] []) := mkG_ok (cgc ok_ref12_Check (cgc ok_ref12_Cmp cg0)) cg0
  refine fn_okN [.o] mixed ts_ok hG (fn := Tryz.f105) (c := bodyOf Tryz.f105) (by kernel_rfl) (by kernel_rfl) (by kernel_rfl) (by kernel_rfl) (pD_all fun x => (pE_all (fun hp => ?_)))
  dsimp only [conPre] at hp
  unfold ref19_shares_p at hp
  refine ⟨Nat.le_of_ble_eq_true rfl, L0, loopsOk0 _, ?_⟩
  · unfold bodyOf Tryz.f105
    try unfold ref19_shares
    simp only [go_sem, Nat.reduceBEq, Nat.reduceLeDiff, Nat.reduceLT, decide_true, Nat.reduceAdd, Nat.reduceSub, Nat.reduceMul, Int.reduceLE, Int.reduceLT, Int.reduceToNat, Int.reduceNeg, reduceCtorEq]
    all_goals exact cl
def ref19_Reach (x : Reach) : Bool := (bif (((!(ref19_within x.delay 1 16)) || (!(ref19_within x.cap 0 1073741824))) || (!(ref19_within x.bank 0 1099511627776))) then false else (bif (((!(ref19_within x.siphon 0 (if x.bank < x.cap then x.bank else x.cap))) || (!(ref19_within x.evap.lo 0 x.evap.hi))) || (decide (x.evap.hi > 1073741824))) then false else (ref19_shares x.seep)))
def ref19_Reach_p (x : Reach) : Prop := ((((!(ref19_within x.delay 1 16)) || (!(ref19_within x.cap 0 1073741824))) || (!(ref19_within x.bank 0 1099511627776))) = false → ((((!(ref19_within x.siphon 0 (if x.bank < x.cap then x.bank else x.cap))) || (!(ref19_within x.evap.lo 0 x.evap.hi))) || (decide (x.evap.hi > 1073741824))) = false → (ref19_shares_p x.seep)))
@[go_sem] def C_ref19_Reach : List SV → Option Con := (pD .reach fun x => (pE (.det (ref19_Reach_p x) (.v (.bool (ref19_Reach x))))))
theorem ok_ref19_Reach : FnOk Tryz.prog 95 C_ref19_Reach := by
  have hG : ConsOk Tryz.prog (mkG [(73, C_ref19_within), (105, C_ref19_shares)] []) := mkG_ok (cgc ok_ref19_within (cgc ok_ref19_shares cg0)) cg0
  refine fn_okN [.o] mixed ts_ok hG (fn := Tryz.f95) (c := bodyOf Tryz.f95) (by kernel_rfl) (by kernel_rfl) (by kernel_rfl) (by kernel_rfl) (pD_all fun x => (pE_all (fun hp => ?_)))
  dsimp only [conPre] at hp
  unfold ref19_Reach_p at hp
  refine ⟨Nat.le_of_ble_eq_true rfl, L0, loopsOk0 _, ?_⟩
  · unfold bodyOf Tryz.f95
    try unfold ref19_Reach
    simp only [go_sem, Nat.reduceBEq, Nat.reduceLeDiff, Nat.reduceLT, decide_true, Nat.reduceAdd, Nat.reduceSub, Nat.reduceMul, Int.reduceLE, Int.reduceLT, Int.reduceToNat, Int.reduceNeg, reduceCtorEq]
    all_goals exact cl
@[go_sem] def ref19_reaches_l0 (l_ : List Reach) (k_0 : Nat) (s_0 : Unit) : Unit ⊕ Unit := (bif ((((k_0 : Int) == 0) && ((l_.getD k_0 (default : Reach)).up != (-1))) || ((decide ((k_0 : Int) > 0)) && (!(ref19_within ((l_.getD k_0 (default : Reach)).up) 0 (IntKind.i64.wrap ((k_0 : Int) - 1)))))) then .inl () else (bif (!(ref19_Reach (l_.getD k_0 (default : Reach)))) then .inl () else .inr ()))
def ref19_reaches_l0_p (l_ : List Reach) (k_0 : Nat) (s_0 : Unit) : Prop := (l_.length ≤ maxL → (((((k_0 : Int) == 0) && ((l_.getD k_0 (default : Reach)).up != (-1))) || ((decide ((k_0 : Int) > 0)) && (!(ref19_within ((l_.getD k_0 (default : Reach)).up) 0 (IntKind.i64.wrap ((k_0 : Int) - 1)))))) = false → (ref19_Reach_p (l_.getD k_0 (default : Reach)))))
def ref19_reaches (l_ : List Reach) : Bool := (match runI (ref19_reaches_l0 l_) l_.length 0 () with | .inl x_0_0 => false | .inr s_0 => (decide ((l_.length : Int) > 0)))
def ref19_reaches_p (l_ : List Reach) : Prop := okI (ref19_reaches_l0 l_) (ref19_reaches_l0_p l_) l_.length 0 ()
@[go_sem] def C_ref19_reaches : List SV → Option Con := (pR .reach fun l_ => (pE (.det (ref19_reaches_p l_) (.v (.bool (ref19_reaches l_))))))
theorem ok_ref19_reaches : FnOk Tryz.prog 74 C_ref19_reaches := by
  have hG : ConsOk Tryz.prog (mkG [(73, C_ref19_within), (95, C_ref19_Reach)] []) := mkG_ok (cgc ok_ref19_within (cgc ok_ref19_Reach cg0)) cg0
  refine fn_okN [.o] mixed ts_ok hG (fn := Tryz.f74) (c := bodyOf Tryz.f74) (by kernel_rfl) (by kernel_rfl) (by kernel_rfl) (by kernel_rfl) (pR_all fun l_ => (pE_all (fun hp => ?_)))
  dsimp only [conPre] at hp
  unfold ref19_reaches_p at hp
  refine ⟨Nat.le_of_ble_eq_true rfl, (fun id st => bif Nat.beq id 0 then some (LCR (ρ := Unit) (σ := Unit) 0 [] [] (fun k_0 s_0 => ⟨[(0, .rs .reach l_), (3, .v (.int .i64 (k_0 : Int)))], []⟩) (ref19_reaches_l0 l_) (ref19_reaches_l0_p l_) l_.length () (True) (fun _ => .ret) (fun x_0_0 => ⟨[(2, .v (.bool false))], []⟩) st) else none), ?_, ?_⟩
  · unfold bodyOf Tryz.f74
    simp only [loopsOk, true_and, and_true]
    · refine loopI_ok (l_.length ≤ maxL) mixed ts_ok hG (by kernel_rfl) (fun _ => rfl) (l_.length : Int) rfl lenB (fun hb0 k_0 s_0 hlt0 hq0 hw hc => ⟨L0, loopsOk0 _, ?_⟩) (fun hb0 s_0 hc => ?_) fun hb0 k_0 s_0 => ?_
      · unfold ref19_reaches_l0_p at hq0
        try simp only [hw, Int.toNat_natCast] at hq0
        exact exSxR4_3
      · exact ezSxR4_3
      · simp only [go_sem, Nat.reduceBEq, Nat.reduceLeDiff, Nat.reduceLT, decide_true, Nat.reduceAdd, Nat.reduceSub, Nat.reduceMul, Int.reduceLE, Int.reduceLT, Int.reduceToNat, Int.reduceNeg, reduceCtorEq, hb0]
  · unfold bodyOf Tryz.f74
    try unfold ref19_reaches
    simp only [go_sem, Nat.reduceBEq, Nat.reduceLeDiff, Nat.reduceLT, decide_true, Nat.reduceAdd, Nat.reduceSub, Nat.reduceMul, Int.reduceLE, Int.reduceLT, Int.reduceToNat, Int.reduceNeg, reduceCtorEq]
    all_goals exact cl
@[go_sem] def ref19_farms_l0 (a0 : District) (k_0 : Nat) (s_0 : Unit) : Unit ⊕ Unit := (bif (!(ref19_within ((a0.crops.getD k_0 (default : Crop)).need) 0 1048576)) then .inl () else .inr ())
@[go_sem] def ref19_farms_l1 (a0 : District) (k_1 : Nat) (s_1 : Unit) : Unit ⊕ Unit := (bif ((!(ref19_within ((a0.farms.getD k_1 (default : Farm)).reach) 0 (IntKind.i64.wrap ((a0.reaches.length : Int) - 1)))) || (!(ref19_within ((a0.farms.getD k_1 (default : Farm)).area) 0 1048576))) then .inl () else (bif ((((a0.farms.getD k_1 (default : Farm)).area == 0) && ((a0.farms.getD k_1 (default : Farm)).crop != (-1))) || ((decide ((a0.farms.getD k_1 (default : Farm)).area > 0)) && (!(ref19_within ((a0.farms.getD k_1 (default : Farm)).crop) 0 (IntKind.i64.wrap ((a0.crops.length : Int) - 1)))))) then .inl () else .inr ()))
def ref19_farms (a0 : District) : Bool := (match runI (ref19_farms_l0 a0) a0.crops.length 0 () with | .inl x_0_0 => false | .inr s_0 => (match runI (ref19_farms_l1 a0) a0.farms.length 0 () with | .inl x_1_0 => false | .inr s_1 => true))
@[go_sem] def C_ref19_farms : List SV → Option Con := (pD .district fun a0 => (pE (.det True (.v (.bool (ref19_farms a0))))))
theorem ok_ref19_farms : FnOk Tryz.prog 75 C_ref19_farms := by
  have hG : ConsOk Tryz.prog (mkG [(73, C_ref19_within)] []) := mkG_ok (cgc ok_ref19_within cg0) cg0
  refine fn_okN [.o] mixed ts_ok hG (fn := Tryz.f75) (c := bodyOf Tryz.f75) (by kernel_rfl) (by kernel_rfl) (by kernel_rfl) (by kernel_rfl) (pD_all fun a0 => (pE_all (fun hp => ?_)))
  dsimp only [conPre] at hp
  refine ⟨Nat.le_of_ble_eq_true rfl, (fun id st => bif Nat.beq id 0 then some (LCR (ρ := Unit) (σ := Unit) 1 [] [0] (fun k_0 s_0 => ⟨[(1, .ptr 0 0), (3, .v (.int .i64 (k_0 : Int)))], [.cells (cellsOf .district a0)]⟩) (ref19_farms_l0 a0) pT a0.crops.length () (True) (fun _ => .ret) (fun x_0_0 => ⟨[(2, .v (.bool false))], [.dead]⟩) st) else bif Nat.beq id 2 then some (LCR (ρ := Unit) (σ := Unit) 1 [] [0] (fun k_1 s_1 => ⟨[(1, .ptr 0 0), (4, .v (.int .i64 (k_1 : Int)))], [.cells (cellsOf .district a0)]⟩) (ref19_farms_l1 a0) pT a0.farms.length () (True) (fun _ => .ret) (fun x_1_0 => ⟨[(2, .v (.bool false))], [.dead]⟩) st) else none), ?_, ?_⟩
  · unfold bodyOf Tryz.f75
    simp only [loopsOk, true_and, and_true]
    refine ⟨?_, ?_⟩
    · refine loopI_ok (a0.crops.length ≤ maxL) mixed ts_ok hG (by kernel_rfl) (fun _ => rfl) (a0.crops.length : Int) rfl lenB (fun hb0 k_0 s_0 hlt0 _ hw hc => ⟨L0, loopsOk0 _, ?_⟩) (fun hb0 s_0 hc => ?_) fun hb0 k_0 s_0 => ?_
      · exact exSxR1_0
      · exact ezSxR1_0
      · simp only [go_sem, Nat.reduceBEq, Nat.reduceLeDiff, Nat.reduceLT, decide_true, Nat.reduceAdd, Nat.reduceSub, Nat.reduceMul, Int.reduceLE, Int.reduceLT, Int.reduceToNat, Int.reduceNeg, reduceCtorEq, hb0]
    · refine loopI_ok (a0.farms.length ≤ maxL) mixed ts_ok hG (by kernel_rfl) (fun _ => rfl) (a0.farms.length : Int) rfl lenB (fun hb1 k_1 s_1 hlt1 _ hw hc => ⟨L0, loopsOk0 _, ?_⟩) (fun hb1 s_1 hc => ?_) fun hb1 k_1 s_1 => ?_
      · exact exSxR1_0
      · exact ezSxR1_0
      · simp only [go_sem, Nat.reduceBEq, Nat.reduceLeDiff, Nat.reduceLT, decide_true, Nat.reduceAdd, Nat.reduceSub, Nat.reduceMul, Int.reduceLE, Int.reduceLT, Int.reduceToNat, Int.reduceNeg, reduceCtorEq, hb1]
  · unfold bodyOf Tryz.f75
    try unfold ref19_farms
    simp only [go_sem, Nat.reduceBEq, Nat.reduceLeDiff, Nat.reduceLT, decide_true, Nat.reduceAdd, Nat.reduceSub, Nat.reduceMul, Int.reduceLE, Int.reduceLT, Int.reduceToNat, Int.reduceNeg, reduceCtorEq]
    all_goals exact cl
def ref19_right (a0 : District) (a1 : Right) : Bool := (bif ((((!(ref19_within a1.farm 0 (IntKind.i64.wrap ((a0.farms.length : Int) - 1)))) || (!(ref19_within a1.reach 0 (IntKind.i64.wrap ((a0.reaches.length : Int) - 1))))) || (!(ref19_within a1.since 0 a1.to))) || (decide (a1.to ≥ a0.hours))) then false else (bif (a1.kind == 1) then (((((a1.reach == 0) && (ref19_within a1.rank 0 1048576)) && (ref19_within a1.litres 1 1073741824)) && (ref19_within a1.length 1 a1.every)) && (decide (a1.every ≤ a0.hours))) else (bif (a1.kind == 2) then ((((((a1.rank == 0) && (a1.litres == 0)) && (a1.every == 0)) && (a1.length == 0)) && (a1.since == 0)) && (a1.to == (IntKind.i64.wrap (a0.hours - 1)))) else (bif (a1.kind == 3) then ((((a1.rank == 0) && (a1.litres == 0)) && (a1.every == 0)) && (a1.length == 0)) else false))))
@[go_sem] def C_ref19_right : List SV → Option Con := (pD .district fun a0 => (pD .right fun a1 => (pE (.det True (.v (.bool (ref19_right a0 a1)))))))
theorem ok_ref19_right : FnOk Tryz.prog 76 C_ref19_right := by
  have hG : ConsOk Tryz.prog (mkG [(73, C_ref19_within)] []) := mkG_ok (cgc ok_ref19_within cg0) cg0
  refine fn_okN [.o] mixed ts_ok hG (fn := Tryz.f76) (c := bodyOf Tryz.f76) (by kernel_rfl) (by kernel_rfl) (by kernel_rfl) (by kernel_rfl) (pD_all fun a0 => (pD_all fun a1 => (pE_all (fun hp => ?_))))
  dsimp only [conPre] at hp
  refine ⟨Nat.le_of_ble_eq_true rfl, L0, loopsOk0 _, ?_⟩
  · unfold bodyOf Tryz.f76
    try unfold ref19_right
    simp only [go_sem, Nat.reduceBEq, Nat.reduceLeDiff, Nat.reduceLT, decide_true, Nat.reduceAdd, Nat.reduceSub, Nat.reduceMul, Int.reduceLE, Int.reduceLT, Int.reduceToNat, Int.reduceNeg, reduceCtorEq]
    all_goals exact cl
@[go_sem] def ref19_valid_l0 (a0 : District) (k_0 : Nat) (s_0 : Unit) : Unit ⊕ Unit := (bif (!(ref19_right a0 (a0.rights.getD k_0 (default : Right)))) then .inl () else .inr ())
@[go_sem] def ref19_valid_l1 (a0 : District) (k_1 : Nat) (s_1 : Unit) : Unit ⊕ Unit := (bif (((!(ref19_within ((a0.duties.getD k_1 (default : Duty)).farm) 0 (IntKind.i64.wrap ((a0.farms.length : Int) - 1)))) || (!(ref19_within ((a0.duties.getD k_1 (default : Duty)).reach) 0 (IntKind.i64.wrap ((a0.reaches.length : Int) - 1))))) || (!(ref19_within ((a0.duties.getD k_1 (default : Duty)).due) 0 a0.hours))) then .inl () else .inr ())
def ref19_valid (a0 : District) : Bool := (bif (((!(ref19_within a0.hours 1 4096)) || (!(ref19_within a0.tank.start 0 a0.tank.cap))) || (decide (a0.tank.cap > 1099511627776))) then false else (bif ((!(ref19_reaches a0.reaches)) || (!(ref19_farms a0))) then false else (match runI (ref19_valid_l0 a0) a0.rights.length 0 () with | .inl x_0_0 => false | .inr s_0 => (match runI (ref19_valid_l1 a0) a0.duties.length 0 () with | .inl x_1_0 => false | .inr s_1 => true))))
def ref19_valid_p (a0 : District) : Prop := ((((!(ref19_within a0.hours 1 4096)) || (!(ref19_within a0.tank.start 0 a0.tank.cap))) || (decide (a0.tank.cap > 1099511627776))) = false → (ref19_reaches_p a0.reaches))
@[go_sem] def C_ref19_valid : List SV → Option Con := (pD .district fun a0 => (pE (.det (ref19_valid_p a0) (.v (.bool (ref19_valid a0))))))
theorem ok_ref19_valid : FnOk Tryz.prog 49 C_ref19_valid := by
  have hG : ConsOk Tryz.prog (mkG [(73, C_ref19_within), (74, fun l => C_ref19_reaches (nrmA [.sl .reach] l)), (75, fun l => C_ref19_farms (nrmA [.st .district] l)), (76, fun l => C_ref19_right (nrmA [.st .district, .st .right] l))] []) := mkG_ok (cgc ok_ref19_within (cgc (ok_ref19_reaches.norm [.sl .reach]) (cgc (ok_ref19_farms.norm [.st .district]) (cgc (ok_ref19_right.norm [.st .district, .st .right]) cg0)))) cg0
  refine fn_okN [.o] mixed ts_ok hG (fn := Tryz.f49) (c := bodyOf Tryz.f49) (by kernel_rfl) (by kernel_rfl) (by kernel_rfl) (by kernel_rfl) (pD_all fun a0 => (pE_all (fun hp => ?_)))
  dsimp only [conPre] at hp
  unfold ref19_valid_p at hp
  refine ⟨Nat.le_of_ble_eq_true rfl, (fun id st => bif Nat.beq id 0 then some (LCR (ρ := Unit) (σ := Unit) 1 [] [0] (fun k_0 s_0 => ⟨[(1, .ptr 0 0), (3, .v (.int .i64 (k_0 : Int)))], [.cells (cellsOf .district a0)]⟩) (ref19_valid_l0 a0) pT a0.rights.length () (True) (fun _ => .ret) (fun x_0_0 => ⟨[(2, .v (.bool false))], [.dead]⟩) st) else bif Nat.beq id 2 then some (LCR (ρ := Unit) (σ := Unit) 1 [] [0] (fun k_1 s_1 => ⟨[(1, .ptr 0 0), (4, .v (.int .i64 (k_1 : Int)))], [.cells (cellsOf .district a0)]⟩) (ref19_valid_l1 a0) pT a0.duties.length () (True) (fun _ => .ret) (fun x_1_0 => ⟨[(2, .v (.bool false))], [.dead]⟩) st) else none), ?_, ?_⟩
  · unfold bodyOf Tryz.f49
    simp only [loopsOk, true_and, and_true]
    refine ⟨?_, ?_⟩
    · refine loopI_ok (a0.rights.length ≤ maxL) mixed ts_ok hG (by kernel_rfl) (fun _ => rfl) (a0.rights.length : Int) rfl lenB (fun hb0 k_0 s_0 hlt0 _ hw hc => ⟨L0, loopsOk0 _, ?_⟩) (fun hb0 s_0 hc => ?_) fun hb0 k_0 s_0 => ?_
      · exact exSxR1_0
      · exact ezSxR1_0
      · simp only [go_sem, Nat.reduceBEq, Nat.reduceLeDiff, Nat.reduceLT, decide_true, Nat.reduceAdd, Nat.reduceSub, Nat.reduceMul, Int.reduceLE, Int.reduceLT, Int.reduceToNat, Int.reduceNeg, reduceCtorEq, hb0]
    · refine loopI_ok (a0.duties.length ≤ maxL) mixed ts_ok hG (by kernel_rfl) (fun _ => rfl) (a0.duties.length : Int) rfl lenB (fun hb1 k_1 s_1 hlt1 _ hw hc => ⟨L0, loopsOk0 _, ?_⟩) (fun hb1 s_1 hc => ?_) fun hb1 k_1 s_1 => ?_
      · exact exSxR1_0
      · exact ezSxR1_0
      · simp only [go_sem, Nat.reduceBEq, Nat.reduceLeDiff, Nat.reduceLT, decide_true, Nat.reduceAdd, Nat.reduceSub, Nat.reduceMul, Int.reduceLE, Int.reduceLT, Int.reduceToNat, Int.reduceNeg, reduceCtorEq, hb1]
  · unfold bodyOf Tryz.f49
    try unfold ref19_valid
    simp only [go_sem, Nat.reduceBEq, Nat.reduceLeDiff, Nat.reduceLT, decide_true, Nat.reduceAdd, Nat.reduceSub, Nat.reduceMul, Int.reduceLE, Int.reduceLT, Int.reduceToNat, Int.reduceNeg, reduceCtorEq]
    all_goals exact cl
def ref19_Check (d : District) : Int := (bif (((((decide ((d.reaches.length : Int) > 64)) || (decide ((d.farms.length : Int) > 600))) || (decide ((d.crops.length : Int) > 32))) || (decide ((d.rights.length : Int) > 256))) || (decide ((d.duties.length : Int) > 256))) then 2 else (bif (!(ref19_valid d)) then 191 else 0))
def ref19_Check_p (d : District) : Prop := (d.reaches.length ≤ maxL → ((((((decide ((d.reaches.length : Int) > 64)) || (decide ((d.farms.length : Int) > 600))) || (decide ((d.crops.length : Int) > 32))) || (decide ((d.rights.length : Int) > 256))) || (decide ((d.duties.length : Int) > 256))) = false → (ref19_valid_p d)))
@[go_sem] def C_ref19_Check : List SV → Option Con := (pD .district fun d => (pE (.det (ref19_Check_p d) (.v (.int .i64 (ref19_Check d))))))
theorem ok_ref19_Check : FnOk Tryz.prog 28 C_ref19_Check := by
  have hG : ConsOk Tryz.prog (mkG [(49, fun l => C_ref19_valid (nrmA [.st .district] l))] []) := mkG_ok (cgc (ok_ref19_valid.norm [.st .district]) cg0) cg0
  refine fn_okN [.o] mixed ts_ok hG (fn := Tryz.f28) (c := bodyOf Tryz.f28) (by kernel_rfl) (by kernel_rfl) (by kernel_rfl) (by kernel_rfl) (pD_all fun d => (pE_all (fun hp => ?_)))
  dsimp only [conPre] at hp
  unfold ref19_Check_p at hp
  refine ⟨Nat.le_of_ble_eq_true rfl, L0, loopsOk0 _, ?_⟩
  · unfold bodyOf Tryz.f28
    try unfold ref19_Check
    simp only [go_sem, Nat.reduceBEq, Nat.reduceLeDiff, Nat.reduceLT, decide_true, Nat.reduceAdd, Nat.reduceSub, Nat.reduceMul, Int.reduceLE, Int.reduceLT, Int.reduceToNat, Int.reduceNeg, reduceCtorEq]
    all_goals exact cl
end Go.Sx
end
section
namespace Go.Sx
open Go.Proofs
set_option maxRecDepth 100000
set_option linter.unusedSimpArgs false
def ref21_within (x : Range) (most : Int) : Bool := (((decide (x.lo ≥ 0)) && (decide (x.lo ≤ x.hi))) && (decide (x.hi ≤ most)))
@[go_sem] def C_ref21_within : List SV → Option Con := (pD .range fun x => (pI fun most => (pE (.det True (.v (.bool (ref21_within x most)))))))
theorem ok_ref21_within : FnOk Tryz.prog 108 C_ref21_within := by
  have hG : ConsOk Tryz.prog (mkG [] []) := mkG_ok cg0 cg0
  refine fn_okN [.o] mixed ts_ok hG (fn := Tryz.f108) (c := bodyOf Tryz.f108) (by kernel_rfl) (by kernel_rfl) (by kernel_rfl) (by kernel_rfl) (pD_all fun x => (pI_all fun most => (pE_all (fun hp => ?_))))
  dsimp only [conPre] at hp
  refine ⟨Nat.le_of_ble_eq_true rfl, L0, loopsOk0 _, ?_⟩
  · unfold bodyOf Tryz.f108
    try unfold ref21_within
    simp only [go_sem, Nat.reduceBEq, Nat.reduceLeDiff, Nat.reduceLT, decide_true, Nat.reduceAdd, Nat.reduceSub, Nat.reduceMul, Int.reduceLE, Int.reduceLT, Int.reduceToNat, Int.reduceNeg, reduceCtorEq]
    all_goals exact cl
def ref21_share (a : Ratio) : Bool := (((ref12_Valid a) && (decide (a.n ≥ 0))) && (decide (a.n ≤ a.d)))
def ref21_share_p (a : Ratio) : Prop := (ref12_Valid_p a)
@[go_sem] def C_ref21_share : List SV → Option Con := (pD .ratio fun a => (pE (.det (ref21_share_p a) (.v (.bool (ref21_share a))))))
theorem ok_ref21_share : FnOk Tryz.prog 114 C_ref21_share := by
  have hG : ConsOk Tryz.prog (mkG [(117, C_ref12_Valid)] []) := mkG_ok (cgc ok_ref12_Valid cg0) cg0
  refine fn_okN [.o] mixed ts_ok hG (fn := Tryz.f114) (c := bodyOf Tryz.f114) (by kernel_rfl) (by kernel_rfl) (by kernel_rfl) (by kernel_rfl) (pD_all fun a => (pE_all (fun hp => ?_)))
  dsimp only [conPre] at hp
  unfold ref21_share_p at hp
  refine ⟨Nat.le_of_ble_eq_true rfl, L0, loopsOk0 _, ?_⟩
  · unfold bodyOf Tryz.f114
    try unfold ref21_share
    simp only [go_sem, Nat.reduceBEq, Nat.reduceLeDiff, Nat.reduceLT, decide_true, Nat.reduceAdd, Nat.reduceSub, Nat.reduceMul, Int.reduceLE, Int.reduceLT, Int.reduceToNat, Int.reduceNeg, reduceCtorEq]
    all_goals exact cl
def ref21_shares (a : Ratio × Ratio) : Bool := (((ref21_share a.1) && (ref21_share a.2)) && (!(ref12_Less a.2 a.1)))
def ref21_shares_p (a : Ratio × Ratio) : Prop := ((ref21_share_p a.1) ∧ ((ref21_share a.1) = true → (ref21_share_p a.2)))
@[go_sem] def C_ref21_shares : List SV → Option Con := (pD .ratio2 fun a => (pE (.det (ref21_shares_p a) (.v (.bool (ref21_shares a))))))
theorem ok_ref21_shares : FnOk Tryz.prog 109 C_ref21_shares := by
  have hG : ConsOk Tryz.prog (mkG [(114, C_ref21_share), (115, C_ref12_Less)] []) := mkG_ok (cgc ok_ref21_share (cgc ok_ref12_Less cg0)) cg0
  refine fn_okN [.o] mixed ts_ok hG (fn := Tryz.f109) (c := bodyOf Tryz.f109) (by kernel_rfl) (by kernel_rfl) (by kernel_rfl) (by kernel_rfl) (pD_all fun a => (pE_all (fun hp => ?_)))
  dsimp only [conPre] at hp
  unfold ref21_shares_p at hp
  refine ⟨Nat.le_of_ble_eq_true rfl, L0, loopsOk0 _, ?_⟩
  · unfold bodyOf Tryz.f109
    try unfold ref21_shares
    simp only [go_sem, Nat.reduceBEq, Nat.reduceLeDiff, Nat.reduceLT, decide_true, Nat.reduceAdd, Nat.reduceSub, Nat.reduceMul, Int.reduceLE, Int.reduceLT, Int.reduceToNat, Int.reduceNeg, reduceCtorEq]
    all_goals exact cl
def ref21_Right (r : Reach) : Bool := ((ref21_within r.evap 1073741824) && (ref21_shares r.seep))
def ref21_Right_p (r : Reach) : Prop := ((ref21_within r.evap 1073741824) = true → (ref21_shares_p r.seep))
@[go_sem] def C_ref21_Right : List SV → Option Con := (pD .reach fun r => (pE (.det (ref21_Right_p r) (.v (.bool (ref21_Right r))))))
theorem ok_ref21_Right : FnOk Tryz.prog 103 C_ref21_Right := by
  have hG : ConsOk Tryz.prog (mkG [(108, C_ref21_within), (109, C_ref21_shares)] []) := mkG_ok (cgc ok_ref21_within (cgc ok_ref21_shares cg0)) cg0
  refine fn_okN [.o] mixed ts_ok hG (fn := Tryz.f103) (c := bodyOf Tryz.f103) (by kernel_rfl) (by kernel_rfl) (by kernel_rfl) (by kernel_rfl) (pD_all fun r => (pE_all (fun hp => ?_)))
  dsimp only [conPre] at hp
  unfold ref21_Right_p at hp
  refine ⟨Nat.le_of_ble_eq_true rfl, L0, loopsOk0 _, ?_⟩
  · unfold bodyOf Tryz.f103
    try unfold ref21_Right
    simp only [go_sem, Nat.reduceBEq, Nat.reduceLeDiff, Nat.reduceLT, decide_true, Nat.reduceAdd, Nat.reduceSub, Nat.reduceMul, Int.reduceLE, Int.reduceLT, Int.reduceToNat, Int.reduceNeg, reduceCtorEq]
    all_goals exact cl
def ref21_up (a : Int) (b : Int) : Int := (IntKind.i64.wrap (Int.tdiv (IntKind.i64.wrap ((IntKind.i64.wrap (a + b)) - 1)) b))
def ref21_up_p (a : Int) (b : Int) : Prop := b ≠ 0
@[go_sem] def C_ref21_up : List SV → Option Con := (pI fun a => (pI fun b => (pE (.det (ref21_up_p a b) (.v (.int .i64 (ref21_up a b)))))))
theorem ok_ref21_up : FnOk Tryz.prog 120 C_ref21_up := by
  have hG : ConsOk Tryz.prog (mkG [] []) := mkG_ok cg0 cg0
  refine fn_okN [.o] mixed ts_ok hG (fn := Tryz.f120) (c := bodyOf Tryz.f120) (by kernel_rfl) (by kernel_rfl) (by kernel_rfl) (by kernel_rfl) (pI_all fun a => (pI_all fun b => (pE_all (fun hp => ?_))))
  dsimp only [conPre] at hp
  unfold ref21_up_p at hp
  refine ⟨Nat.le_of_ble_eq_true rfl, L0, loopsOk0 _, ?_⟩
  · unfold bodyOf Tryz.f120
    try unfold ref21_up
    simp only [go_sem, Nat.reduceBEq, Nat.reduceLeDiff, Nat.reduceLT, decide_true, Nat.reduceAdd, Nat.reduceSub, Nat.reduceMul, Int.reduceLE, Int.reduceLT, Int.reduceToNat, Int.reduceNeg, reduceCtorEq]
    all_goals exact cl
def ref21_lost (r : Reach) (v : Int) : Range := (bif (v == 0) then ({ lo := 0, hi := 0 } : Range) else ({ lo := (if (IntKind.i64.wrap (r.evap.lo + (IntKind.i64.wrap (Int.tdiv (IntKind.i64.wrap (v * r.seep.1.n)) r.seep.1.d)))) < v then (IntKind.i64.wrap (r.evap.lo + (IntKind.i64.wrap (Int.tdiv (IntKind.i64.wrap (v * r.seep.1.n)) r.seep.1.d)))) else v), hi := (if (IntKind.i64.wrap (r.evap.hi + (ref21_up (IntKind.i64.wrap (v * r.seep.2.n)) r.seep.2.d))) < v then (IntKind.i64.wrap (r.evap.hi + (ref21_up (IntKind.i64.wrap (v * r.seep.2.n)) r.seep.2.d))) else v) } : Range))
def ref21_lost_p (r : Reach) (v : Int) : Prop := ((v == 0) = false → (r.seep.1.d ≠ 0 ∧ (ref21_up_p (IntKind.i64.wrap (v * r.seep.2.n)) r.seep.2.d)))
@[go_sem] def C_ref21_lost : List SV → Option Con := (pD .reach fun r => (pI fun v => (pE (.det (ref21_lost_p r v) (.agg (cellsOf .range (ref21_lost r v)))))))
theorem ok_ref21_lost : FnOk Tryz.prog 116 C_ref21_lost := by
  have hG : ConsOk Tryz.prog (mkG [(120, C_ref21_up)] []) := mkG_ok (cgc ok_ref21_up cg0) cg0
  refine fn_okN [.st .range] mixed ts_ok hG (fn := Tryz.f116) (c := bodyOf Tryz.f116) (by kernel_rfl) (by kernel_rfl) (by kernel_rfl) (by kernel_rfl) (pD_all fun r => (pI_all fun v => (pE_all (fun hp => ?_))))
  dsimp only [conPre] at hp
  unfold ref21_lost_p at hp
  refine ⟨Nat.le_of_ble_eq_true rfl, L0, loopsOk0 _, ?_⟩
  · unfold bodyOf Tryz.f116
    try unfold ref21_lost
    simp only [go_sem, Nat.reduceBEq, Nat.reduceLeDiff, Nat.reduceLT, decide_true, Nat.reduceAdd, Nat.reduceSub, Nat.reduceMul, Int.reduceLE, Int.reduceLT, Int.reduceToNat, Int.reduceNeg, reduceCtorEq]
    all_goals exact cl
def ref21_arrives (r : Reach) (v : Int) (best : Bool) : Int := (bif best then (IntKind.i64.wrap (v - (ref21_lost r v).lo)) else (IntKind.i64.wrap (v - (ref21_lost r v).hi)))
def ref21_arrives_p (r : Reach) (v : Int) (best : Bool) : Prop := (ref21_lost_p r v)
@[go_sem] def C_ref21_arrives : List SV → Option Con := (pD .reach fun r => (pI fun v => (pB fun best => (pE (.det (ref21_arrives_p r v best) (.v (.int .i64 (ref21_arrives r v best))))))))
theorem ok_ref21_arrives : FnOk Tryz.prog 110 C_ref21_arrives := by
  have hG : ConsOk Tryz.prog (mkG [(116, C_ref21_lost)] []) := mkG_ok (cgc ok_ref21_lost cg0) cg0
  refine fn_okN [.o] mixed ts_ok hG (fn := Tryz.f110) (c := bodyOf Tryz.f110) (by kernel_rfl) (by kernel_rfl) (by kernel_rfl) (by kernel_rfl) (pD_all fun r => (pI_all fun v => (pB_all fun best => (pE_all (fun hp => ?_)))))
  dsimp only [conPre] at hp
  unfold ref21_arrives_p at hp
  refine ⟨Nat.le_of_ble_eq_true rfl, L0, loopsOk0 _, ?_⟩
  · unfold bodyOf Tryz.f110
    try unfold ref21_arrives
    simp only [go_sem, Nat.reduceBEq, Nat.reduceLeDiff, Nat.reduceLT, decide_true, Nat.reduceAdd, Nat.reduceSub, Nat.reduceMul, Int.reduceLE, Int.reduceLT, Int.reduceToNat, Int.reduceNeg, reduceCtorEq]
    all_goals exact cl
@[go_sem] def ref21_Least_l0 (r : Reach) (w : Int) (best : Bool) (k_0 : Nat) (s_0 : Int × Int) : Int ⊕ (Int × Int) := (bif (decide (s_0.2 < s_0.1)) then (bif (decide ((ref21_arrives r (IntKind.i64.wrap (Int.tdiv (IntKind.i64.wrap (s_0.2 + s_0.1)) 2)) best) ≥ w)) then .inr ((IntKind.i64.wrap (Int.tdiv (IntKind.i64.wrap (s_0.2 + s_0.1)) 2)), s_0.2) else .inr (s_0.1, (IntKind.i64.wrap ((IntKind.i64.wrap (Int.tdiv (IntKind.i64.wrap (s_0.2 + s_0.1)) 2)) + 1)))) else .inl s_0.2)
def ref21_Least_l0_p (r : Reach) (w : Int) (best : Bool) (k_0 : Nat) (s_0 : Int × Int) : Prop := ((decide (s_0.2 < s_0.1)) = true → (ref21_arrives_p r (IntKind.i64.wrap (Int.tdiv (IntKind.i64.wrap (s_0.2 + s_0.1)) 2)) best))
def ref21_Least (r : Reach) (w : Int) (best : Bool) : Int := (bif (decide ((ref21_arrives r 1073741824 best) < w)) then (-1) else (match runI (ref21_Least_l0 r w best) 64 0 (1073741824, 0) with | .inl x_0_0 => x_0_0 | .inr s_0 => default))
def ref21_Least_p (r : Reach) (w : Int) (best : Bool) : Prop := ((ref21_arrives_p r 1073741824 best) ∧ ((decide ((ref21_arrives r 1073741824 best) < w)) = false → (okI (ref21_Least_l0 r w best) (ref21_Least_l0_p r w best) 64 0 (1073741824, 0) ∧ (∀ z_, runI (ref21_Least_l0 r w best) 64 0 (1073741824, 0) ≠ .inr z_))))
@[go_sem] def C_ref21_Least : List SV → Option Con := (pD .reach fun r => (pI fun w => (pB fun best => (pE (.det (ref21_Least_p r w best) (.v (.int .i64 (ref21_Least r w best))))))))
theorem ok_ref21_Least : FnOk Tryz.prog 104 C_ref21_Least := by
  have hG : ConsOk Tryz.prog (mkG [(110, C_ref21_arrives)] []) := mkG_ok (cgc ok_ref21_arrives cg0) cg0
  refine fn_okN [.o] mixed ts_ok hG (fn := Tryz.f104) (c := bodyOf Tryz.f104) (by kernel_rfl) (by kernel_rfl) (by kernel_rfl) (by kernel_rfl) (pD_all fun r => (pI_all fun w => (pB_all fun best => (pE_all (fun hp => ?_)))))
  dsimp only [conPre] at hp
  unfold ref21_Least_p at hp
  refine ⟨Nat.le_of_ble_eq_true rfl, (fun id st => bif Nat.beq id 0 then some (LCV (ρ := Int) (σ := (Int × Int)) 1 [] [0] (fun k_0 s_0 => ⟨[(1, .v (.int .i64 w)), (2, .v (.bool best)), (3, .ptr 0 0), (7, .v (.int .i64 s_0.2)), (8, .v (.int .i64 s_0.1))], [.cells (cellsOf .reach r)]⟩) (ref21_Least_l0 r w best) (ref21_Least_l0_p r w best) 64 (1073741824, 0) (fun _ => .normal) (fun x_0_0 => ⟨[(7, .v (.int .i64 x_0_0))], [.dead]⟩) st) else none), ?_, ?_⟩
  · unfold bodyOf Tryz.f104
    simp only [loopsOk, true_and, and_true]
    · refine loopV_ok mixed ts_ok hG (by kernel_rfl) (fun _ => rfl) fun k_0 s_0 hq0 => ⟨L0, loopsOk0 _, ?_⟩
      · unfold ref21_Least_l0_p at hq0
        exact evSxR3_0
  · unfold bodyOf Tryz.f104
    try unfold ref21_Least
    simp only [go_sem, Nat.reduceBEq, Nat.reduceLeDiff, Nat.reduceLT, decide_true, Nat.reduceAdd, Nat.reduceSub, Nat.reduceMul, Int.reduceLE, Int.reduceLT, Int.reduceToNat, Int.reduceNeg, reduceCtorEq]
    all_goals exact cl
def ref21_find (r : Reach) (w : Int) (best : Bool) : Int × Bool × Int := (bif (!(ref21_Right r)) then (0, false, 210) else (bif ((decide (w < 0)) || (decide (w > 1073741824))) then (0, false, 1) else (bif (decide ((ref21_Least r w best) < 0)) then (0, false, 0) else ((ref21_Least r w best), true, 0))))
def ref21_find_p (r : Reach) (w : Int) (best : Bool) : Prop := ((ref21_Right_p r) ∧ ((!(ref21_Right r)) = false → (((decide (w < 0)) || (decide (w > 1073741824))) = false → (ref21_Least_p r w best))))
@[go_sem] def C_ref21_find : List SV → Option Con := (pD .reach fun r => (pI fun w => (pB fun best => (pE (.det (ref21_find_p r w best) (.tup [.v (.int .i64 ((ref21_find r w best).1)), .v (.bool ((ref21_find r w best).2.1)), .v (.int .i64 ((ref21_find r w best).2.2))]))))))
theorem ok_ref21_find : FnOk Tryz.prog 93 C_ref21_find := by
  have hG : ConsOk Tryz.prog (mkG [(103, C_ref21_Right), (104, C_ref21_Least)] []) := mkG_ok (cgc ok_ref21_Right (cgc ok_ref21_Least cg0)) cg0
  refine fn_okN [.o, .o, .o] mixed ts_ok hG (fn := Tryz.f93) (c := bodyOf Tryz.f93) (by kernel_rfl) (by kernel_rfl) (by kernel_rfl) (by kernel_rfl) (pD_all fun r => (pI_all fun w => (pB_all fun best => (pE_all (fun hp => ?_)))))
  dsimp only [conPre] at hp
  unfold ref21_find_p at hp
  refine ⟨Nat.le_of_ble_eq_true rfl, L0, loopsOk0 _, ?_⟩
  · unfold bodyOf Tryz.f93
    try unfold ref21_find
    simp only [go_sem, Nat.reduceBEq, Nat.reduceLeDiff, Nat.reduceLT, decide_true, Nat.reduceAdd, Nat.reduceSub, Nat.reduceMul, Int.reduceLE, Int.reduceLT, Int.reduceToNat, Int.reduceNeg, reduceCtorEq]
    all_goals exact cl
def ref21_Need (r : Reach) (w : Int) : Int × Bool × Int := ((ref21_find r w false).1, (ref21_find r w false).2.1, (ref21_find r w false).2.2)
def ref21_Need_p (r : Reach) (w : Int) : Prop := (ref21_find_p r w false)
@[go_sem] def C_ref21_Need : List SV → Option Con := (pD .reach fun r => (pI fun w => (pE (.det (ref21_Need_p r w) (.tup [.v (.int .i64 ((ref21_Need r w).1)), .v (.bool ((ref21_Need r w).2.1)), .v (.int .i64 ((ref21_Need r w).2.2))])))))
theorem ok_ref21_Need : FnOk Tryz.prog 68 C_ref21_Need := by
  have hG : ConsOk Tryz.prog (mkG [(93, C_ref21_find)] []) := mkG_ok (cgc ok_ref21_find cg0) cg0
  refine fn_okN [.o, .o, .o] mixed ts_ok hG (fn := Tryz.f68) (c := bodyOf Tryz.f68) (by kernel_rfl) (by kernel_rfl) (by kernel_rfl) (by kernel_rfl) (pD_all fun r => (pI_all fun w => (pE_all (fun hp => ?_))))
  dsimp only [conPre] at hp
  unfold ref21_Need_p at hp
  refine ⟨Nat.le_of_ble_eq_true rfl, L0, loopsOk0 _, ?_⟩
  · unfold bodyOf Tryz.f68
    try unfold ref21_Need
    simp only [go_sem, Nat.reduceBEq, Nat.reduceLeDiff, Nat.reduceLT, decide_true, Nat.reduceAdd, Nat.reduceSub, Nat.reduceMul, Int.reduceLE, Int.reduceLT, Int.reduceToNat, Int.reduceNeg, reduceCtorEq]
    all_goals exact cl
def ref22_Intake (x : Reach) (w : Int) : Int × Bool := (bif (w == 0) then (0, true) else (bif (decide (w > 1073741824)) then (0, false) else (bif (!(ref21_Need x w).2.1) then (0, false) else ((if (ref21_Need x w).1 < x.siphon then x.siphon else (ref21_Need x w).1), true))))
def ref22_Intake_p (x : Reach) (w : Int) : Prop := ((w == 0) = false → ((decide (w > 1073741824)) = false → (ref21_Need_p x w)))
@[go_sem] def C_ref22_Intake : List SV → Option Con := (pD .reach fun x => (pI fun w => (pE (.det (ref22_Intake_p x w) (.tup [.v (.int .i64 ((ref22_Intake x w).1)), .v (.bool ((ref22_Intake x w).2))])))))
theorem ok_ref22_Intake : FnOk Tryz.prog 44 C_ref22_Intake := by
  have hG : ConsOk Tryz.prog (mkG [(68, C_ref21_Need)] []) := mkG_ok (cgc ok_ref21_Need cg0) cg0
  refine fn_okN [.o, .o] mixed ts_ok hG (fn := Tryz.f44) (c := bodyOf Tryz.f44) (by kernel_rfl) (by kernel_rfl) (by kernel_rfl) (by kernel_rfl) (pD_all fun x => (pI_all fun w => (pE_all (fun hp => ?_))))
  dsimp only [conPre] at hp
  unfold ref22_Intake_p at hp
  refine ⟨Nat.le_of_ble_eq_true rfl, L0, loopsOk0 _, ?_⟩
  · unfold bodyOf Tryz.f44
    try unfold ref22_Intake
    simp only [go_sem, Nat.reduceBEq, Nat.reduceLeDiff, Nat.reduceLT, decide_true, Nat.reduceAdd, Nat.reduceSub, Nat.reduceMul, Int.reduceLE, Int.reduceLT, Int.reduceToNat, Int.reduceNeg, reduceCtorEq]
    all_goals exact cl
end Go.Sx
end
section
namespace Go.Sx
@[go_sem ↓] theorem mkE_reach (x : Reach) : mkE .reach [.v (.string x.name), .v (.int .i64 x.up), .v (.int .i64 x.delay), .v (.int .i64 x.cap), .v (.int .i64 x.bank), .v (.int .i64 x.siphon), .v (.int .i64 x.evap.lo), .v (.int .i64 x.evap.hi), .v (.int .i64 x.seep.1.n), .v (.int .i64 x.seep.1.d), .v (.int .i64 x.seep.2.n), .v (.int .i64 x.seep.2.d)] = x := (rfl)
@[go_sem ↓] theorem mkE_order (x : Order) : mkE .order [.v (.int .i64 x.hour), .v (.int .i64 x.index), .v (.int .i64 x.litres), .v (.bool x.outlet)] = x := (rfl)
@[go_sem ↓] theorem mkE_tank (x : Tank) : mkE .tank [.v (.int .i64 x.cap), .v (.int .i64 x.start)] = x := (rfl)
end Go.Sx
end
