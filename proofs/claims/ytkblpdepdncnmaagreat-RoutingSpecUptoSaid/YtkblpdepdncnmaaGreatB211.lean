/- Part of the proof that the law RoutingSpec returns true and leaves its arguments as they were, for all arguments of bulk at most 1048576 (the Upto form). -/
import Derived.Test.YtkblpdepdncnmaaGreatB210
import Derived.Test.YtkblpdepdncnmaaGreatB208
import Derived.Test.YtkblpdepdncnmaaGreatB209
set_option linter.all false
section
namespace Go.Sx
open Go.Proofs
set_option maxRecDepth 100000
set_option linter.unusedSimpArgs false
theorem crSxR12_0 {p : Prop} (h : p := by (first | done | (repeat' (first | with_reducible refine And.intro ?_ ?_ | ((with_reducible show _ ≠ _); first | assumption | omega | (simp_all [outR, outL]; done) | grind) | with_reducible intro _)) <;> (first | done | exact Empty.elim ‹Empty› | assumption | rfl | omega | decide | exact fk [] | (simp only [*, cond_true, cond_false, Bool.not_true, Bool.not_false, go_sem, Nat.reduceBEq, Nat.reduceLeDiff, Nat.reduceLT, decide_true, Nat.reduceAdd, Nat.reduceSub, Nat.reduceMul, Int.reduceLE, Int.reduceLT, Int.reduceToNat, Int.reduceNeg, reduceCtorEq]; done) | (simp only [*, cond_true, cond_false, Bool.not_true, Bool.not_false, go_sem, Nat.reduceBEq, Nat.reduceLeDiff, Nat.reduceLT, decide_true, Nat.reduceAdd, Nat.reduceSub, Nat.reduceMul, Int.reduceLE, Int.reduceLT, Int.reduceToNat, Int.reduceNeg, reduceCtorEq]; (repeat' (first | with_reducible refine And.intro ?_ ?_ | ((with_reducible show _ ≠ _); first | assumption | omega | (simp_all [outR, outL]; done) | grind) | with_reducible intro _)) <;> (first | done | assumption | rfl | omega | decide | exact fk [] | (simp_all [outR, outL]; done))) | (simp_all [okI, outR, outL]; done) | (simp_all [outR, outL]; (first | done | exact fk2 [])) | exact fk2 []))) : p := h
theorem crSxR12_1 {p : Prop} (h : p := by (first | done | (repeat' (first | with_reducible refine And.intro ?_ ?_ | ((with_reducible show _ ≠ _); first | assumption | omega | (simp_all [outR, outL]; done) | grind) | with_reducible intro _)) <;> (first | done | exact Empty.elim ‹Empty› | assumption | rfl | omega | decide | exact fk [0] | (simp only [*, cond_true, cond_false, Bool.not_true, Bool.not_false, go_sem, Nat.reduceBEq, Nat.reduceLeDiff, Nat.reduceLT, decide_true, Nat.reduceAdd, Nat.reduceSub, Nat.reduceMul, Int.reduceLE, Int.reduceLT, Int.reduceToNat, Int.reduceNeg, reduceCtorEq]; done) | (simp only [*, cond_true, cond_false, Bool.not_true, Bool.not_false, go_sem, Nat.reduceBEq, Nat.reduceLeDiff, Nat.reduceLT, decide_true, Nat.reduceAdd, Nat.reduceSub, Nat.reduceMul, Int.reduceLE, Int.reduceLT, Int.reduceToNat, Int.reduceNeg, reduceCtorEq]; (repeat' (first | with_reducible refine And.intro ?_ ?_ | ((with_reducible show _ ≠ _); first | assumption | omega | (simp_all [outR, outL]; done) | grind) | with_reducible intro _)) <;> (first | done | assumption | rfl | omega | decide | exact fk [0] | (simp_all [outR, outL]; done))) | (simp_all [okI, outR, outL]; done) | (simp_all [outR, outL]; (first | done | exact fk2 [0])) | exact fk2 [0]))) : p := h
theorem exSxR12_0 {p : Prop} (h : p := by simp only [go_sem, Nat.reduceBEq, Nat.reduceLeDiff, Nat.reduceLT, decide_true, Nat.reduceAdd, Nat.reduceSub, Nat.reduceMul, Int.reduceLE, Int.reduceLT, Int.reduceToNat, Int.reduceNeg, reduceCtorEq, hc, hw]; all_goals exact crSxR12_0) : p := h
theorem ezSxR12_0 {p : Prop} (h : p := by simp only [go_sem, Nat.reduceBEq, Nat.reduceLeDiff, Nat.reduceLT, decide_true, Nat.reduceAdd, Nat.reduceSub, Nat.reduceMul, Int.reduceLE, Int.reduceLT, Int.reduceToNat, Int.reduceNeg, reduceCtorEq, hc]; all_goals exact crSxR12_0) : p := h
theorem evSxR12_0 {p : Prop} (h : p := by simp only [go_sem, Nat.reduceBEq, Nat.reduceLeDiff, Nat.reduceLT, decide_true, Nat.reduceAdd, Nat.reduceSub, Nat.reduceMul, Int.reduceLE, Int.reduceLT, Int.reduceToNat, Int.reduceNeg, reduceCtorEq]; all_goals exact crSxR12_0) : p := h
theorem exSxR12_1 {p : Prop} (h : p := by simp only [go_sem, Nat.reduceBEq, Nat.reduceLeDiff, Nat.reduceLT, decide_true, Nat.reduceAdd, Nat.reduceSub, Nat.reduceMul, Int.reduceLE, Int.reduceLT, Int.reduceToNat, Int.reduceNeg, reduceCtorEq, hc, hw]; all_goals exact crSxR12_1) : p := h
theorem ezSxR12_1 {p : Prop} (h : p := by simp only [go_sem, Nat.reduceBEq, Nat.reduceLeDiff, Nat.reduceLT, decide_true, Nat.reduceAdd, Nat.reduceSub, Nat.reduceMul, Int.reduceLE, Int.reduceLT, Int.reduceToNat, Int.reduceNeg, reduceCtorEq, hc]; all_goals exact crSxR12_1) : p := h
def ref19_Few (d : District) : Bool := ((((((decide ((d.reaches.length : Int) ≤ 100)) && (decide ((d.farms.length : Int) ≤ 700))) && (decide ((d.crops.length : Int) ≤ 100))) && (decide ((d.rights.length : Int) ≤ 300))) && (decide ((d.duties.length : Int) ≤ 300))) && (decide ((d.wells.length : Int) ≤ 100)))
@[go_sem] def C_ref19_Few : List SV → Option Con := (pD .district fun d => (pE (.det True (.v (.bool (ref19_Few d))))))
theorem ok_ref19_Few : FnOk Tryz.prog 23 C_ref19_Few := by
  have hG : ConsOk Tryz.prog (mkG [] []) := mkG_ok cg0 cg0
  refine fn_okN [.o] mixed ts_ok hG (fn := Tryz.f23) (c := bodyOf Tryz.f23) (by kernel_rfl) (by kernel_rfl) (by kernel_rfl) (by kernel_rfl) (pD_all fun d => (pE_all (fun hp => ?_)))
  dsimp only [conPre] at hp
  refine ⟨Nat.le_of_ble_eq_true rfl, L0, loopsOk0 _, ?_⟩
  · unfold bodyOf Tryz.f23
    try unfold ref19_Few
    simp only [go_sem, Nat.reduceBEq, Nat.reduceLeDiff, Nat.reduceLT, decide_true, Nat.reduceAdd, Nat.reduceSub, Nat.reduceMul, Int.reduceLE, Int.reduceLT, Int.reduceToNat, Int.reduceNeg, reduceCtorEq]
    all_goals exact cl
def ref22_Few (d : District) (l_ : List Order) : Bool := (bif ((!(ref19_Few d)) || ((decide ((l_.length : Int) > 150)) && ((decide ((l_.length : Int) ≤ 4096)) || (decide ((l_.length : Int) > 5000))))) then false else (bif (((decide (d.hours < 1)) || (decide (d.hours > 4096))) || (decide ((d.reaches.length : Int) > 64))) then true else ((decide ((IntKind.i64.wrap ((d.reaches.length : Int) * d.hours)) ≤ 200)) || (decide ((IntKind.i64.wrap ((d.reaches.length : Int) * d.hours)) > 1024)))))
@[go_sem] def C_ref22_Few : List SV → Option Con := (pD .district fun d => (pR .order fun l_ => (pE (.det True (.v (.bool (ref22_Few d l_)))))))
theorem ok_ref22_Few : FnOk Tryz.prog 7 C_ref22_Few := by
  have hG : ConsOk Tryz.prog (mkG [(23, fun l => C_ref19_Few (nrmA [.st .district] l))] []) := mkG_ok (cgc (ok_ref19_Few.norm [.st .district]) cg0) cg0
  refine fn_okN [.o] mixed ts_ok hG (fn := Tryz.f7) (c := bodyOf Tryz.f7) (by kernel_rfl) (by kernel_rfl) (by kernel_rfl) (by kernel_rfl) (pD_all fun d => (pR_all fun l_ => (pE_all (fun hp => ?_))))
  dsimp only [conPre] at hp
  refine ⟨Nat.le_of_ble_eq_true rfl, L0, loopsOk0 _, ?_⟩
  · unfold bodyOf Tryz.f7
    try unfold ref22_Few
    simp only [go_sem, Nat.reduceBEq, Nat.reduceLeDiff, Nat.reduceLT, decide_true, Nat.reduceAdd, Nat.reduceSub, Nat.reduceMul, Int.reduceLE, Int.reduceLT, Int.reduceToNat, Int.reduceNeg, reduceCtorEq]
    all_goals exact cl
def ref19_within (n : Int) (lo : Int) (hi : Int) : Bool := ((decide (n ≥ lo)) && (decide (n ≤ hi)))
@[go_sem] def C_ref19_within : List SV → Option Con := (pI fun n => (pI fun lo => (pI fun hi => (pE (.det True (.v (.bool (ref19_within n lo hi))))))))
theorem ok_ref19_within : FnOk Tryz.prog 98 C_ref19_within := by
  have hG : ConsOk Tryz.prog (mkG [] []) := mkG_ok cg0 cg0
  refine fn_okN [.o] mixed ts_ok hG (fn := Tryz.f98) (c := bodyOf Tryz.f98) (by kernel_rfl) (by kernel_rfl) (by kernel_rfl) (by kernel_rfl) (pI_all fun n => (pI_all fun lo => (pI_all fun hi => (pE_all (fun hp => ?_)))))
  dsimp only [conPre] at hp
  refine ⟨Nat.le_of_ble_eq_true rfl, L0, loopsOk0 _, ?_⟩
  · unfold bodyOf Tryz.f98
    try unfold ref19_within
    simp only [go_sem, Nat.reduceBEq, Nat.reduceLeDiff, Nat.reduceLT, decide_true, Nat.reduceAdd, Nat.reduceSub, Nat.reduceMul, Int.reduceLE, Int.reduceLT, Int.reduceToNat, Int.reduceNeg, reduceCtorEq]
    all_goals exact cl
@[go_sem] def ref12_divisor_l0 (b : Int) (k_0 : Nat) (s_0 : Int × Int) : Int ⊕ (Int × Int) := (bif (decide (s_0.2 > 0)) then .inr (s_0.2, (Int.tmod s_0.1 s_0.2)) else .inl s_0.1)
def ref12_divisor_l0_p (b : Int) (k_0 : Nat) (s_0 : Int × Int) : Prop := ((decide (s_0.2 > 0)) = true → s_0.2 ≠ 0)
def ref12_divisor (a : Int) (b : Int) : Int := (match runI (ref12_divisor_l0 b) (Int.toNat b + 1) 0 (a, b) with | .inl x_0_0 => x_0_0 | .inr s_0 => default)
def ref12_divisor_p (a : Int) (b : Int) : Prop := (okI (ref12_divisor_l0 b) (ref12_divisor_l0_p b) (Int.toNat b + 1) 0 (a, b) ∧ (∀ z_, runI (ref12_divisor_l0 b) (Int.toNat b + 1) 0 (a, b) ≠ .inr z_))
@[go_sem] def C_ref12_divisor : List SV → Option Con := (pI fun a => (pI fun b => (pE (.det (ref12_divisor_p a b) (.v (.int .i64 (ref12_divisor a b)))))))
set_option maxHeartbeats 4000000 in
theorem ok_ref12_divisor : FnOk Tryz.prog 134 C_ref12_divisor := by
  have hG : ConsOk Tryz.prog (mkG [] []) := mkG_ok cg0 cg0
  refine fn_okN [.o] mixed ts_ok hG (fn := Tryz.f134) (c := bodyOf Tryz.f134) (by kernel_rfl) (by kernel_rfl) (by kernel_rfl) (by kernel_rfl) (pI_all fun a => (pI_all fun b => (pE_all (fun hp => ?_))))
  dsimp only [conPre] at hp
  unfold ref12_divisor_p at hp
  refine ⟨Nat.le_of_ble_eq_true rfl, (fun id st => bif Nat.beq id 0 then some (LCV (ρ := Int) (σ := (Int × Int)) 0 [] [] (fun k_0 s_0 => ⟨[(0, .v (.int .i64 s_0.1)), (1, .v (.int .i64 s_0.2))], []⟩) (ref12_divisor_l0 b) (ref12_divisor_l0_p b) (Int.toNat b + 1) (a, b) (fun _ => .normal) (fun x_0_0 => ⟨[(0, .v (.int .i64 x_0_0))], []⟩) st) else none), ?_, ?_⟩
  · unfold bodyOf Tryz.f134
    simp only [loopsOk, true_and, and_true]
    · refine loopV_ok mixed ts_ok hG (by kernel_rfl) (fun _ => rfl) fun k_0 s_0 hq0 => ⟨L0, loopsOk0 _, ?_⟩
      · unfold ref12_divisor_l0_p at hq0
        exact evSxR12_0
  · unfold bodyOf Tryz.f134
    try unfold ref12_divisor
    simp only [go_sem, Nat.reduceBEq, Nat.reduceLeDiff, Nat.reduceLT, decide_true, Nat.reduceAdd, Nat.reduceSub, Nat.reduceMul, Int.reduceLE, Int.reduceLT, Int.reduceToNat, Int.reduceNeg, reduceCtorEq]
    all_goals exact cl
def ref12_size (n : Int) : Int := (bif (decide (n < 0)) then (IntKind.i64.wrap (0 - n)) else n)
@[go_sem] def C_ref12_size : List SV → Option Con := (pI fun n => (pE (.det True (.v (.int .i64 (ref12_size n))))))
theorem ok_ref12_size : FnOk Tryz.prog 135 C_ref12_size := by
  have hG : ConsOk Tryz.prog (mkG [] []) := mkG_ok cg0 cg0
  refine fn_okN [.o] mixed ts_ok hG (fn := Tryz.f135) (c := bodyOf Tryz.f135) (by kernel_rfl) (by kernel_rfl) (by kernel_rfl) (by kernel_rfl) (pI_all fun n => (pE_all (fun hp => ?_)))
  dsimp only [conPre] at hp
  refine ⟨Nat.le_of_ble_eq_true rfl, L0, loopsOk0 _, ?_⟩
  · unfold bodyOf Tryz.f135
    try unfold ref12_size
    simp only [go_sem, Nat.reduceBEq, Nat.reduceLeDiff, Nat.reduceLT, decide_true, Nat.reduceAdd, Nat.reduceSub, Nat.reduceMul, Int.reduceLE, Int.reduceLT, Int.reduceToNat, Int.reduceNeg, reduceCtorEq]
    all_goals exact cl
def ref12_Valid (a : Ratio) : Bool := (((((decide (a.d ≥ 1)) && (decide (a.d ≤ 1073741824))) && (decide (a.n ≥ (-1073741824)))) && (decide (a.n ≤ 1073741824))) && ((ref12_divisor (ref12_size a.n) a.d) == 1))
def ref12_Valid_p (a : Ratio) : Prop := (((((decide (a.d ≥ 1)) && (decide (a.d ≤ 1073741824))) && (decide (a.n ≥ (-1073741824)))) && (decide (a.n ≤ 1073741824))) = true → (ref12_divisor_p (ref12_size a.n) a.d))
@[go_sem] def C_ref12_Valid : List SV → Option Con := (pD .ratio fun a => (pE (.det (ref12_Valid_p a) (.v (.bool (ref12_Valid a))))))
theorem ok_ref12_Valid : FnOk Tryz.prog 130 C_ref12_Valid := by
  have hG : ConsOk Tryz.prog (mkG [(134, C_ref12_divisor), (135, C_ref12_size)] []) := mkG_ok (cgc ok_ref12_divisor (cgc ok_ref12_size cg0)) cg0
  refine fn_okN [.o] mixed ts_ok hG (fn := Tryz.f130) (c := bodyOf Tryz.f130) (by kernel_rfl) (by kernel_rfl) (by kernel_rfl) (by kernel_rfl) (pD_all fun a => (pE_all (fun hp => ?_)))
  dsimp only [conPre] at hp
  unfold ref12_Valid_p at hp
  refine ⟨Nat.le_of_ble_eq_true rfl, L0, loopsOk0 _, ?_⟩
  · unfold bodyOf Tryz.f130
    try unfold ref12_Valid
    simp only [go_sem, Nat.reduceBEq, Nat.reduceLeDiff, Nat.reduceLT, decide_true, Nat.reduceAdd, Nat.reduceSub, Nat.reduceMul, Int.reduceLE, Int.reduceLT, Int.reduceToNat, Int.reduceNeg, reduceCtorEq]
    all_goals exact cl
def ref12_Check (a : Ratio) : Int := (bif (!(ref12_Valid a)) then 120 else 0)
def ref12_Check_p (a : Ratio) : Prop := (ref12_Valid_p a)
@[go_sem] def C_ref12_Check : List SV → Option Con := (pD .ratio fun a => (pE (.det (ref12_Check_p a) (.v (.int .i64 (ref12_Check a))))))
theorem ok_ref12_Check : FnOk Tryz.prog 131 C_ref12_Check := by
  have hG : ConsOk Tryz.prog (mkG [(130, C_ref12_Valid)] []) := mkG_ok (cgc ok_ref12_Valid cg0) cg0
  refine fn_okN [.o] mixed ts_ok hG (fn := Tryz.f131) (c := bodyOf Tryz.f131) (by kernel_rfl) (by kernel_rfl) (by kernel_rfl) (by kernel_rfl) (pD_all fun a => (pE_all (fun hp => ?_)))
  dsimp only [conPre] at hp
  unfold ref12_Check_p at hp
  refine ⟨Nat.le_of_ble_eq_true rfl, L0, loopsOk0 _, ?_⟩
  · unfold bodyOf Tryz.f131
    try unfold ref12_Check
    simp only [go_sem, Nat.reduceBEq, Nat.reduceLeDiff, Nat.reduceLT, decide_true, Nat.reduceAdd, Nat.reduceSub, Nat.reduceMul, Int.reduceLE, Int.reduceLT, Int.reduceToNat, Int.reduceNeg, reduceCtorEq]
    all_goals exact cl
def ref12_Less (a : Ratio) (b : Ratio) : Bool := (decide ((IntKind.i64.wrap (a.n * b.d)) < (IntKind.i64.wrap (b.n * a.d))))
@[go_sem] def C_ref12_Less : List SV → Option Con := (pD .ratio fun a => (pD .ratio fun b => (pE (.det True (.v (.bool (ref12_Less a b)))))))
theorem ok_ref12_Less : FnOk Tryz.prog 125 C_ref12_Less := by
  have hG : ConsOk Tryz.prog (mkG [] []) := mkG_ok cg0 cg0
  refine fn_okN [.o] mixed ts_ok hG (fn := Tryz.f125) (c := bodyOf Tryz.f125) (by kernel_rfl) (by kernel_rfl) (by kernel_rfl) (by kernel_rfl) (pD_all fun a => (pD_all fun b => (pE_all (fun hp => ?_))))
  dsimp only [conPre] at hp
  refine ⟨Nat.le_of_ble_eq_true rfl, L0, loopsOk0 _, ?_⟩
  · unfold bodyOf Tryz.f125
    try unfold ref12_Less
    simp only [go_sem, Nat.reduceBEq, Nat.reduceLeDiff, Nat.reduceLT, decide_true, Nat.reduceAdd, Nat.reduceSub, Nat.reduceMul, Int.reduceLE, Int.reduceLT, Int.reduceToNat, Int.reduceNeg, reduceCtorEq]
    all_goals exact cl
def ref12_Both (a : Ratio) (b : Ratio) : Bool := ((ref12_Valid a) && (ref12_Valid b))
def ref12_Both_p (a : Ratio) (b : Ratio) : Prop := ((ref12_Valid_p a) ∧ ((ref12_Valid a) = true → (ref12_Valid_p b)))
@[go_sem] def C_ref12_Both : List SV → Option Con := (pD .ratio fun a => (pD .ratio fun b => (pE (.det (ref12_Both_p a b) (.v (.bool (ref12_Both a b)))))))
theorem ok_ref12_Both : FnOk Tryz.prog 136 C_ref12_Both := by
  have hG : ConsOk Tryz.prog (mkG [(130, C_ref12_Valid)] []) := mkG_ok (cgc ok_ref12_Valid cg0) cg0
  refine fn_okN [.o] mixed ts_ok hG (fn := Tryz.f136) (c := bodyOf Tryz.f136) (by kernel_rfl) (by kernel_rfl) (by kernel_rfl) (by kernel_rfl) (pD_all fun a => (pD_all fun b => (pE_all (fun hp => ?_))))
  dsimp only [conPre] at hp
  unfold ref12_Both_p at hp
  refine ⟨Nat.le_of_ble_eq_true rfl, L0, loopsOk0 _, ?_⟩
  · unfold bodyOf Tryz.f136
    try unfold ref12_Both
    simp only [go_sem, Nat.reduceBEq, Nat.reduceLeDiff, Nat.reduceLT, decide_true, Nat.reduceAdd, Nat.reduceSub, Nat.reduceMul, Int.reduceLE, Int.reduceLT, Int.reduceToNat, Int.reduceNeg, reduceCtorEq]
    all_goals exact cl
def ref12_Cmp (a : Ratio) (b : Ratio) : Int × Int := (bif (!(ref12_Both a b)) then (0, 120) else (bif (ref12_Less a b) then ((-1), 0) else (bif (ref12_Less b a) then (1, 0) else (0, 0))))
def ref12_Cmp_p (a : Ratio) (b : Ratio) : Prop := (ref12_Both_p a b)
@[go_sem] def C_ref12_Cmp : List SV → Option Con := (pD .ratio fun a => (pD .ratio fun b => (pE (.det (ref12_Cmp_p a b) (.tup [.v (.int .i64 ((ref12_Cmp a b).1)), .v (.int .i64 ((ref12_Cmp a b).2))])))))
theorem ok_ref12_Cmp : FnOk Tryz.prog 132 C_ref12_Cmp := by
  have hG : ConsOk Tryz.prog (mkG [(125, C_ref12_Less), (136, C_ref12_Both)] []) := mkG_ok (cgc ok_ref12_Less (cgc ok_ref12_Both cg0)) cg0
  refine fn_okN [.o, .o] mixed ts_ok hG (fn := Tryz.f132) (c := bodyOf Tryz.f132) (by kernel_rfl) (by kernel_rfl) (by kernel_rfl) (by kernel_rfl) (pD_all fun a => (pD_all fun b => (pE_all (fun hp => ?_))))
  dsimp only [conPre] at hp
  unfold ref12_Cmp_p at hp
  refine ⟨Nat.le_of_ble_eq_true rfl, L0, loopsOk0 _, ?_⟩
  · unfold bodyOf Tryz.f132
    try unfold ref12_Cmp
    simp only [go_sem, Nat.reduceBEq, Nat.reduceLeDiff, Nat.reduceLT, decide_true, Nat.reduceAdd, Nat.reduceSub, Nat.reduceMul, Int.reduceLE, Int.reduceLT, Int.reduceToNat, Int.reduceNeg, reduceCtorEq]
    all_goals exact cl
def ref19_shares (x : Ratio × Ratio) : Bool := (bif (((ref12_Check x.1) != 0) || ((ref12_Check x.2) != 0)) then false else (((decide (x.1.n ≥ 0)) && (decide ((ref12_Cmp x.1 x.2).1 ≤ 0))) && (decide (x.2.n ≤ x.2.d))))
def ref19_shares_p (x : Ratio × Ratio) : Prop := ((ref12_Check_p x.1) ∧ ((((ref12_Check x.1) != 0) = false → (ref12_Check_p x.2)) ∧ ((((ref12_Check x.1) != 0) || ((ref12_Check x.2) != 0)) = false → (ref12_Cmp_p x.1 x.2))))
@[go_sem] def C_ref19_shares : List SV → Option Con := (pD .ratio2 fun x => (pE (.det (ref19_shares_p x) (.v (.bool (ref19_shares x))))))
theorem ok_ref19_shares : FnOk Tryz.prog 128 C_ref19_shares := by
  have hG : ConsOk Tryz.prog (mkG [(131, C_ref12_Check), (132, C_ref12_Cmp)] []) := mkG_ok (cgc ok_ref12_Check (cgc ok_ref12_Cmp cg0)) cg0
  refine fn_okN [.o] mixed ts_ok hG (fn := Tryz.f128) (c := bodyOf Tryz.f128) (by kernel_rfl) (by kernel_rfl) (by kernel_rfl) (by kernel_rfl) (pD_all fun x => (pE_all (fun hp => ?_)))
  dsimp only [conPre] at hp
  unfold ref19_shares_p at hp
  refine ⟨Nat.le_of_ble_eq_true rfl, L0, loopsOk0 _, ?_⟩
  · unfold bodyOf Tryz.f128
    try unfold ref19_shares
    simp only [go_sem, Nat.reduceBEq, Nat.reduceLeDiff, Nat.reduceLT, decide_true, Nat.reduceAdd, Nat.reduceSub, Nat.reduceMul, Int.reduceLE, Int.reduceLT, Int.reduceToNat, Int.reduceNeg, reduceCtorEq]
    all_goals exact cl
def ref19_Reach (x : Reach) : Bool := (bif (((!(ref19_within x.delay 1 16)) || (!(ref19_within x.cap 0 1073741824))) || (!(ref19_within x.bank 0 1099511627776))) then false else (bif (((!(ref19_within x.siphon 0 (if x.bank < x.cap then x.bank else x.cap))) || (!(ref19_within x.evap.lo 0 x.evap.hi))) || (decide (x.evap.hi > 1073741824))) then false else (ref19_shares x.seep)))
def ref19_Reach_p (x : Reach) : Prop := ((((!(ref19_within x.delay 1 16)) || (!(ref19_within x.cap 0 1073741824))) || (!(ref19_within x.bank 0 1099511627776))) = false → ((((!(ref19_within x.siphon 0 (if x.bank < x.cap then x.bank else x.cap))) || (!(ref19_within x.evap.lo 0 x.evap.hi))) || (decide (x.evap.hi > 1073741824))) = false → (ref19_shares_p x.seep)))
@[go_sem] def C_ref19_Reach : List SV → Option Con := (pD .reach fun x => (pE (.det (ref19_Reach_p x) (.v (.bool (ref19_Reach x))))))
theorem ok_ref19_Reach : FnOk Tryz.prog 121 C_ref19_Reach := by
  have hG : ConsOk Tryz.prog (mkG [(98, C_ref19_within), (128, C_ref19_shares)] []) := mkG_ok (cgc ok_ref19_within (cgc ok_ref19_shares cg0)) cg0
  refine fn_okN [.o] mixed ts_ok hG (fn := Tryz.f121) (c := bodyOf Tryz.f121) (by kernel_rfl) (by kernel_rfl) (by kernel_rfl) (by kernel_rfl) (pD_all fun x => (pE_all (fun hp => ?_)))
  dsimp only [conPre] at hp
  unfold ref19_Reach_p at hp
  refine ⟨Nat.le_of_ble_eq_true rfl, L0, loopsOk0 _, ?_⟩
  · unfold bodyOf Tryz.f121
    try unfold ref19_Reach
    simp only [go_sem, Nat.reduceBEq, Nat.reduceLeDiff, Nat.reduceLT, decide_true, Nat.reduceAdd, Nat.reduceSub, Nat.reduceMul, Int.reduceLE, Int.reduceLT, Int.reduceToNat, Int.reduceNeg, reduceCtorEq]
    all_goals exact cl
@[go_sem] def ref19_reaches_l0 (l_ : List Reach) (k_0 : Nat) (s_0 : Unit) : Unit ⊕ Unit := (bif ((((k_0 : Int) == 0) && ((l_.getD k_0 (default : Reach)).up != (-1))) || ((decide ((k_0 : Int) > 0)) && (!(ref19_within ((l_.getD k_0 (default : Reach)).up) 0 (IntKind.i64.wrap ((k_0 : Int) - 1)))))) then .inl () else (bif (!(ref19_Reach (l_.getD k_0 (default : Reach)))) then .inl () else .inr ()))
def ref19_reaches_l0_p (l_ : List Reach) (k_0 : Nat) (s_0 : Unit) : Prop := (l_.length ≤ maxL → (((((k_0 : Int) == 0) && ((l_.getD k_0 (default : Reach)).up != (-1))) || ((decide ((k_0 : Int) > 0)) && (!(ref19_within ((l_.getD k_0 (default : Reach)).up) 0 (IntKind.i64.wrap ((k_0 : Int) - 1)))))) = false → (ref19_Reach_p (l_.getD k_0 (default : Reach)))))
def ref19_reaches (l_ : List Reach) : Bool := (match runI (ref19_reaches_l0 l_) l_.length 0 () with | .inl x_0_0 => false | .inr s_0 => (decide ((l_.length : Int) > 0)))
def ref19_reaches_p (l_ : List Reach) : Prop := okI (ref19_reaches_l0 l_) (ref19_reaches_l0_p l_) l_.length 0 ()
@[go_sem] def C_ref19_reaches : List SV → Option Con := (pR .reach fun l_ => (pE (.det (ref19_reaches_p l_) (.v (.bool (ref19_reaches l_))))))
set_option maxHeartbeats 4000000 in
theorem ok_ref19_reaches : FnOk Tryz.prog 99 C_ref19_reaches := by
  have hG : ConsOk Tryz.prog (mkG [(98, C_ref19_within), (121, C_ref19_Reach)] []) := mkG_ok (cgc ok_ref19_within (cgc ok_ref19_Reach cg0)) cg0
  refine fn_okN [.o] mixed ts_ok hG (fn := Tryz.f99) (c := bodyOf Tryz.f99) (by kernel_rfl) (by kernel_rfl) (by kernel_rfl) (by kernel_rfl) (pR_all fun l_ => (pE_all (fun hp => ?_)))
  dsimp only [conPre] at hp
  unfold ref19_reaches_p at hp
  refine ⟨Nat.le_of_ble_eq_true rfl, (fun id st => bif Nat.beq id 0 then some (LCR (ρ := Unit) (σ := Unit) 0 [] [] (fun k_0 s_0 => ⟨[(0, .rs .reach l_), (3, .v (.int .i64 (k_0 : Int)))], []⟩) (ref19_reaches_l0 l_) (ref19_reaches_l0_p l_) l_.length () (True) (fun _ => .ret) (fun x_0_0 => ⟨[(2, .v (.bool false))], []⟩) st) else none), ?_, ?_⟩
  · unfold bodyOf Tryz.f99
    simp only [loopsOk, true_and, and_true]
    · refine loopI_ok (l_.length ≤ maxL) mixed ts_ok hG (by kernel_rfl) (fun _ => rfl) (l_.length : Int) rfl lenB (fun hb0 k_0 s_0 hlt0 hq0 hw hc => ⟨L0, loopsOk0 _, ?_⟩) (fun hb0 s_0 hc => ?_) fun hb0 k_0 s_0 => ?_
      · unfold ref19_reaches_l0_p at hq0
        try simp only [hw, Int.toNat_natCast] at hq0
        exact exSxR12_0
      · exact ezSxR12_0
      · simp only [go_sem, Nat.reduceBEq, Nat.reduceLeDiff, Nat.reduceLT, decide_true, Nat.reduceAdd, Nat.reduceSub, Nat.reduceMul, Int.reduceLE, Int.reduceLT, Int.reduceToNat, Int.reduceNeg, reduceCtorEq, hb0]
  · unfold bodyOf Tryz.f99
    try unfold ref19_reaches
    simp only [go_sem, Nat.reduceBEq, Nat.reduceLeDiff, Nat.reduceLT, decide_true, Nat.reduceAdd, Nat.reduceSub, Nat.reduceMul, Int.reduceLE, Int.reduceLT, Int.reduceToNat, Int.reduceNeg, reduceCtorEq]
    all_goals exact cl
@[go_sem] def ref19_farms_l0 (a0 : District) (k_0 : Nat) (s_0 : Unit) : Unit ⊕ Unit := (bif (!(ref19_within ((a0.crops.getD k_0 (default : Crop)).need) 0 1048576)) then .inl () else .inr ())
@[go_sem] def ref19_farms_l1 (a0 : District) (k_1 : Nat) (s_1 : Unit) : Unit ⊕ Unit := (bif ((!(ref19_within ((a0.farms.getD k_1 (default : Farm)).reach) 0 (IntKind.i64.wrap ((a0.reaches.length : Int) - 1)))) || (!(ref19_within ((a0.farms.getD k_1 (default : Farm)).area) 0 1048576))) then .inl () else (bif ((((a0.farms.getD k_1 (default : Farm)).area == 0) && ((a0.farms.getD k_1 (default : Farm)).crop != (-1))) || ((decide ((a0.farms.getD k_1 (default : Farm)).area > 0)) && (!(ref19_within ((a0.farms.getD k_1 (default : Farm)).crop) 0 (IntKind.i64.wrap ((a0.crops.length : Int) - 1)))))) then .inl () else .inr ()))
def ref19_farms (a0 : District) : Bool := (match runI (ref19_farms_l0 a0) a0.crops.length 0 () with | .inl x_0_0 => false | .inr s_0 => (match runI (ref19_farms_l1 a0) a0.farms.length 0 () with | .inl x_1_0 => false | .inr s_1 => true))
@[go_sem] def C_ref19_farms : List SV → Option Con := (pD .district fun a0 => (pE (.det True (.v (.bool (ref19_farms a0))))))
set_option maxHeartbeats 4000000 in
theorem ok_ref19_farms : FnOk Tryz.prog 100 C_ref19_farms := by
  have hG : ConsOk Tryz.prog (mkG [(98, C_ref19_within)] []) := mkG_ok (cgc ok_ref19_within cg0) cg0
  refine fn_okN [.o] mixed ts_ok hG (fn := Tryz.f100) (c := bodyOf Tryz.f100) (by kernel_rfl) (by kernel_rfl) (by kernel_rfl) (by kernel_rfl) (pD_all fun a0 => (pE_all (fun hp => ?_)))
  dsimp only [conPre] at hp
  refine ⟨Nat.le_of_ble_eq_true rfl, (fun id st => bif Nat.beq id 0 then some (LCR (ρ := Unit) (σ := Unit) 1 [] [0] (fun k_0 s_0 => ⟨[(1, .ptr 0 0), (3, .v (.int .i64 (k_0 : Int)))], [.cells (cellsOf .district a0)]⟩) (ref19_farms_l0 a0) pT a0.crops.length () (True) (fun _ => .ret) (fun x_0_0 => ⟨[(2, .v (.bool false))], [.dead]⟩) st) else bif Nat.beq id 2 then some (LCR (ρ := Unit) (σ := Unit) 1 [] [0] (fun k_1 s_1 => ⟨[(1, .ptr 0 0), (4, .v (.int .i64 (k_1 : Int)))], [.cells (cellsOf .district a0)]⟩) (ref19_farms_l1 a0) pT a0.farms.length () (True) (fun _ => .ret) (fun x_1_0 => ⟨[(2, .v (.bool false))], [.dead]⟩) st) else none), ?_, ?_⟩
  · unfold bodyOf Tryz.f100
    simp only [loopsOk, true_and, and_true]
    refine ⟨?_, ?_⟩
    · refine loopI_ok (a0.crops.length ≤ maxL) mixed ts_ok hG (by kernel_rfl) (fun _ => rfl) (a0.crops.length : Int) rfl lenB (fun hb0 k_0 s_0 hlt0 _ hw hc => ⟨L0, loopsOk0 _, ?_⟩) (fun hb0 s_0 hc => ?_) fun hb0 k_0 s_0 => ?_
      · exact exSxR12_1
      · exact ezSxR12_1
      · simp only [go_sem, Nat.reduceBEq, Nat.reduceLeDiff, Nat.reduceLT, decide_true, Nat.reduceAdd, Nat.reduceSub, Nat.reduceMul, Int.reduceLE, Int.reduceLT, Int.reduceToNat, Int.reduceNeg, reduceCtorEq, hb0]
    · refine loopI_ok (a0.farms.length ≤ maxL) mixed ts_ok hG (by kernel_rfl) (fun _ => rfl) (a0.farms.length : Int) rfl lenB (fun hb1 k_1 s_1 hlt1 _ hw hc => ⟨L0, loopsOk0 _, ?_⟩) (fun hb1 s_1 hc => ?_) fun hb1 k_1 s_1 => ?_
      · exact exSxR12_1
      · exact ezSxR12_1
      · simp only [go_sem, Nat.reduceBEq, Nat.reduceLeDiff, Nat.reduceLT, decide_true, Nat.reduceAdd, Nat.reduceSub, Nat.reduceMul, Int.reduceLE, Int.reduceLT, Int.reduceToNat, Int.reduceNeg, reduceCtorEq, hb1]
  · unfold bodyOf Tryz.f100
    try unfold ref19_farms
    simp only [go_sem, Nat.reduceBEq, Nat.reduceLeDiff, Nat.reduceLT, decide_true, Nat.reduceAdd, Nat.reduceSub, Nat.reduceMul, Int.reduceLE, Int.reduceLT, Int.reduceToNat, Int.reduceNeg, reduceCtorEq]
    all_goals exact cl
def ref19_right (a0 : District) (a1 : Right) : Bool := (bif ((((!(ref19_within a1.farm 0 (IntKind.i64.wrap ((a0.farms.length : Int) - 1)))) || (!(ref19_within a1.reach 0 (IntKind.i64.wrap ((a0.reaches.length : Int) - 1))))) || (!(ref19_within a1.since 0 a1.to))) || (decide (a1.to ≥ a0.hours))) then false else (bif (a1.kind == 1) then (((((a1.reach == 0) && (ref19_within a1.rank 0 1048576)) && (ref19_within a1.litres 1 1073741824)) && (ref19_within a1.length 1 a1.every)) && (decide (a1.every ≤ a0.hours))) else (bif (a1.kind == 2) then ((((((a1.rank == 0) && (a1.litres == 0)) && (a1.every == 0)) && (a1.length == 0)) && (a1.since == 0)) && (a1.to == (IntKind.i64.wrap (a0.hours - 1)))) else (bif (a1.kind == 3) then ((((a1.rank == 0) && (a1.litres == 0)) && (a1.every == 0)) && (a1.length == 0)) else false))))
@[go_sem] def C_ref19_right : List SV → Option Con := (pD .district fun a0 => (pD .right fun a1 => (pE (.det True (.v (.bool (ref19_right a0 a1)))))))
set_option maxHeartbeats 4000000 in
theorem ok_ref19_right : FnOk Tryz.prog 101 C_ref19_right := by
  have hG : ConsOk Tryz.prog (mkG [(98, C_ref19_within)] []) := mkG_ok (cgc ok_ref19_within cg0) cg0
  refine fn_okN [.o] mixed ts_ok hG (fn := Tryz.f101) (c := bodyOf Tryz.f101) (by kernel_rfl) (by kernel_rfl) (by kernel_rfl) (by kernel_rfl) (pD_all fun a0 => (pD_all fun a1 => (pE_all (fun hp => ?_))))
  dsimp only [conPre] at hp
  refine ⟨Nat.le_of_ble_eq_true rfl, L0, loopsOk0 _, ?_⟩
  · unfold bodyOf Tryz.f101
    try unfold ref19_right
    simp only [go_sem, Nat.reduceBEq, Nat.reduceLeDiff, Nat.reduceLT, decide_true, Nat.reduceAdd, Nat.reduceSub, Nat.reduceMul, Int.reduceLE, Int.reduceLT, Int.reduceToNat, Int.reduceNeg, reduceCtorEq]
    all_goals exact cl
@[go_sem] def ref19_valid_l0 (a0 : District) (k_0 : Nat) (s_0 : Unit) : Unit ⊕ Unit := (bif (!(ref19_right a0 (a0.rights.getD k_0 (default : Right)))) then .inl () else .inr ())
@[go_sem] def ref19_valid_l1 (a0 : District) (k_1 : Nat) (s_1 : Unit) : Unit ⊕ Unit := (bif (((!(ref19_within ((a0.duties.getD k_1 (default : Duty)).farm) 0 (IntKind.i64.wrap ((a0.farms.length : Int) - 1)))) || (!(ref19_within ((a0.duties.getD k_1 (default : Duty)).reach) 0 (IntKind.i64.wrap ((a0.reaches.length : Int) - 1))))) || (!(ref19_within ((a0.duties.getD k_1 (default : Duty)).due) 0 a0.hours))) then .inl () else .inr ())
def ref19_valid (a0 : District) : Bool := (bif (((!(ref19_within a0.hours 1 4096)) || (!(ref19_within a0.tank.start 0 a0.tank.cap))) || (decide (a0.tank.cap > 1099511627776))) then false else (bif ((!(ref19_reaches a0.reaches)) || (!(ref19_farms a0))) then false else (match runI (ref19_valid_l0 a0) a0.rights.length 0 () with | .inl x_0_0 => false | .inr s_0 => (match runI (ref19_valid_l1 a0) a0.duties.length 0 () with | .inl x_1_0 => false | .inr s_1 => true))))
def ref19_valid_p (a0 : District) : Prop := ((((!(ref19_within a0.hours 1 4096)) || (!(ref19_within a0.tank.start 0 a0.tank.cap))) || (decide (a0.tank.cap > 1099511627776))) = false → (ref19_reaches_p a0.reaches))
@[go_sem] def C_ref19_valid : List SV → Option Con := (pD .district fun a0 => (pE (.det (ref19_valid_p a0) (.v (.bool (ref19_valid a0))))))
set_option maxHeartbeats 4000000 in
theorem ok_ref19_valid : FnOk Tryz.prog 68 C_ref19_valid := by
  have hG : ConsOk Tryz.prog (mkG [(98, C_ref19_within), (99, fun l => C_ref19_reaches (nrmA [.sl .reach] l)), (100, fun l => C_ref19_farms (nrmA [.st .district] l)), (101, fun l => C_ref19_right (nrmA [.st .district, .st .right] l))] []) := mkG_ok (cgc ok_ref19_within (cgc (ok_ref19_reaches.norm [.sl .reach]) (cgc (ok_ref19_farms.norm [.st .district]) (cgc (ok_ref19_right.norm [.st .district, .st .right]) cg0)))) cg0
  refine fn_okN [.o] mixed ts_ok hG (fn := Tryz.f68) (c := bodyOf Tryz.f68) (by kernel_rfl) (by kernel_rfl) (by kernel_rfl) (by kernel_rfl) (pD_all fun a0 => (pE_all (fun hp => ?_)))
  dsimp only [conPre] at hp
  unfold ref19_valid_p at hp
  refine ⟨Nat.le_of_ble_eq_true rfl, (fun id st => bif Nat.beq id 0 then some (LCR (ρ := Unit) (σ := Unit) 1 [] [0] (fun k_0 s_0 => ⟨[(1, .ptr 0 0), (3, .v (.int .i64 (k_0 : Int)))], [.cells (cellsOf .district a0)]⟩) (ref19_valid_l0 a0) pT a0.rights.length () (True) (fun _ => .ret) (fun x_0_0 => ⟨[(2, .v (.bool false))], [.dead]⟩) st) else bif Nat.beq id 2 then some (LCR (ρ := Unit) (σ := Unit) 1 [] [0] (fun k_1 s_1 => ⟨[(1, .ptr 0 0), (4, .v (.int .i64 (k_1 : Int)))], [.cells (cellsOf .district a0)]⟩) (ref19_valid_l1 a0) pT a0.duties.length () (True) (fun _ => .ret) (fun x_1_0 => ⟨[(2, .v (.bool false))], [.dead]⟩) st) else none), ?_, ?_⟩
  · unfold bodyOf Tryz.f68
    simp only [loopsOk, true_and, and_true]
    refine ⟨?_, ?_⟩
    · refine loopI_ok (a0.rights.length ≤ maxL) mixed ts_ok hG (by kernel_rfl) (fun _ => rfl) (a0.rights.length : Int) rfl lenB (fun hb0 k_0 s_0 hlt0 _ hw hc => ⟨L0, loopsOk0 _, ?_⟩) (fun hb0 s_0 hc => ?_) fun hb0 k_0 s_0 => ?_
      · exact exSxR12_1
      · exact ezSxR12_1
      · simp only [go_sem, Nat.reduceBEq, Nat.reduceLeDiff, Nat.reduceLT, decide_true, Nat.reduceAdd, Nat.reduceSub, Nat.reduceMul, Int.reduceLE, Int.reduceLT, Int.reduceToNat, Int.reduceNeg, reduceCtorEq, hb0]
    · refine loopI_ok (a0.duties.length ≤ maxL) mixed ts_ok hG (by kernel_rfl) (fun _ => rfl) (a0.duties.length : Int) rfl lenB (fun hb1 k_1 s_1 hlt1 _ hw hc => ⟨L0, loopsOk0 _, ?_⟩) (fun hb1 s_1 hc => ?_) fun hb1 k_1 s_1 => ?_
      · exact exSxR12_1
      · exact ezSxR12_1
      · simp only [go_sem, Nat.reduceBEq, Nat.reduceLeDiff, Nat.reduceLT, decide_true, Nat.reduceAdd, Nat.reduceSub, Nat.reduceMul, Int.reduceLE, Int.reduceLT, Int.reduceToNat, Int.reduceNeg, reduceCtorEq, hb1]
  · unfold bodyOf Tryz.f68
    try unfold ref19_valid
    simp only [go_sem, Nat.reduceBEq, Nat.reduceLeDiff, Nat.reduceLT, decide_true, Nat.reduceAdd, Nat.reduceSub, Nat.reduceMul, Int.reduceLE, Int.reduceLT, Int.reduceToNat, Int.reduceNeg, reduceCtorEq]
    all_goals exact cl
def ref19_Check (d : District) : Int := (bif (((((decide ((d.reaches.length : Int) > 64)) || (decide ((d.farms.length : Int) > 600))) || (decide ((d.crops.length : Int) > 32))) || (decide ((d.rights.length : Int) > 256))) || (decide ((d.duties.length : Int) > 256))) then 2 else (bif (!(ref19_valid d)) then 191 else 0))
def ref19_Check_p (d : District) : Prop := (d.reaches.length ≤ maxL → ((((((decide ((d.reaches.length : Int) > 64)) || (decide ((d.farms.length : Int) > 600))) || (decide ((d.crops.length : Int) > 32))) || (decide ((d.rights.length : Int) > 256))) || (decide ((d.duties.length : Int) > 256))) = false → (ref19_valid_p d)))
@[go_sem] def C_ref19_Check : List SV → Option Con := (pD .district fun d => (pE (.det (ref19_Check_p d) (.v (.int .i64 (ref19_Check d))))))
theorem ok_ref19_Check : FnOk Tryz.prog 42 C_ref19_Check := by
  have hG : ConsOk Tryz.prog (mkG [(68, fun l => C_ref19_valid (nrmA [.st .district] l))] []) := mkG_ok (cgc (ok_ref19_valid.norm [.st .district]) cg0) cg0
  refine fn_okN [.o] mixed ts_ok hG (fn := Tryz.f42) (c := bodyOf Tryz.f42) (by kernel_rfl) (by kernel_rfl) (by kernel_rfl) (by kernel_rfl) (pD_all fun d => (pE_all (fun hp => ?_)))
  dsimp only [conPre] at hp
  unfold ref19_Check_p at hp
  refine ⟨Nat.le_of_ble_eq_true rfl, L0, loopsOk0 _, ?_⟩
  · unfold bodyOf Tryz.f42
    try unfold ref19_Check
    simp only [go_sem, Nat.reduceBEq, Nat.reduceLeDiff, Nat.reduceLT, decide_true, Nat.reduceAdd, Nat.reduceSub, Nat.reduceMul, Int.reduceLE, Int.reduceLT, Int.reduceToNat, Int.reduceNeg, reduceCtorEq]
    all_goals exact cl
end Go.Sx
end
section
namespace Go.Sx
open Go.Proofs
set_option maxRecDepth 100000
set_option linter.unusedSimpArgs false
theorem crSxR13_0 {p : Prop} (h : p := by (first | done | (repeat' (first | with_reducible refine And.intro ?_ ?_ | ((with_reducible show _ ≠ _); first | assumption | omega | (simp_all [outR, outL]; done) | grind) | with_reducible intro _)) <;> (first | done | exact Empty.elim ‹Empty› | assumption | rfl | omega | decide | exact fk [0] | (simp only [*, cond_true, cond_false, Bool.not_true, Bool.not_false, go_sem, Nat.reduceBEq, Nat.reduceLeDiff, Nat.reduceLT, decide_true, Nat.reduceAdd, Nat.reduceSub, Nat.reduceMul, Int.reduceLE, Int.reduceLT, Int.reduceToNat, Int.reduceNeg, reduceCtorEq]; done) | (simp only [*, cond_true, cond_false, Bool.not_true, Bool.not_false, go_sem, Nat.reduceBEq, Nat.reduceLeDiff, Nat.reduceLT, decide_true, Nat.reduceAdd, Nat.reduceSub, Nat.reduceMul, Int.reduceLE, Int.reduceLT, Int.reduceToNat, Int.reduceNeg, reduceCtorEq]; (repeat' (first | with_reducible refine And.intro ?_ ?_ | ((with_reducible show _ ≠ _); first | assumption | omega | (simp_all [outR, outL]; done) | grind) | with_reducible intro _)) <;> (first | done | assumption | rfl | omega | decide | exact fk [0] | (simp_all [outR, outL]; done))) | (simp_all [okI, outR, outL]; done) | (simp_all [outR, outL]; (first | done | exact fk2 [0])) | exact fk2 [0]))) : p := h
theorem crSxR13_1 {p : Prop} (h : p := by (first | done | (repeat' (first | with_reducible refine And.intro ?_ ?_ | ((with_reducible show _ ≠ _); first | assumption | omega | (simp_all [outR, outL]; done) | grind) | with_reducible intro _)) <;> (first | done | exact Empty.elim ‹Empty› | assumption | rfl | omega | decide | exact fk [0, 1, 4] | exact fk [0, 1, 2] | (simp only [*, cond_true, cond_false, Bool.not_true, Bool.not_false, go_sem, Nat.reduceBEq, Nat.reduceLeDiff, Nat.reduceLT, decide_true, Nat.reduceAdd, Nat.reduceSub, Nat.reduceMul, Int.reduceLE, Int.reduceLT, Int.reduceToNat, Int.reduceNeg, reduceCtorEq]; done) | (simp only [*, cond_true, cond_false, Bool.not_true, Bool.not_false, go_sem, Nat.reduceBEq, Nat.reduceLeDiff, Nat.reduceLT, decide_true, Nat.reduceAdd, Nat.reduceSub, Nat.reduceMul, Int.reduceLE, Int.reduceLT, Int.reduceToNat, Int.reduceNeg, reduceCtorEq]; (repeat' (first | with_reducible refine And.intro ?_ ?_ | ((with_reducible show _ ≠ _); first | assumption | omega | (simp_all [outR, outL]; done) | grind) | with_reducible intro _)) <;> (first | done | assumption | rfl | omega | decide | exact fk [0, 1, 4] | exact fk [0, 1, 2] | (simp_all [outR, outL]; done))) | (simp_all [okI, outR, outL]; done) | (simp_all [outR, outL]; (first | done | exact fk2 [0, 1, 4] | exact fk2 [0, 1, 2])) | exact fk2 [0, 1, 4] | exact fk2 [0, 1, 2]))) : p := h
theorem crSxR13_2 {p : Prop} (h : p := by (first | done | (repeat' (first | with_reducible refine And.intro ?_ ?_ | ((with_reducible show _ ≠ _); first | assumption | omega | (simp_all [outR, outL]; done) | grind) | with_reducible intro _)) <;> (first | done | exact Empty.elim ‹Empty› | assumption | rfl | omega | decide | exact fk [0, 1] | (simp only [*, cond_true, cond_false, Bool.not_true, Bool.not_false, go_sem, Nat.reduceBEq, Nat.reduceLeDiff, Nat.reduceLT, decide_true, Nat.reduceAdd, Nat.reduceSub, Nat.reduceMul, Int.reduceLE, Int.reduceLT, Int.reduceToNat, Int.reduceNeg, reduceCtorEq]; done) | (simp only [*, cond_true, cond_false, Bool.not_true, Bool.not_false, go_sem, Nat.reduceBEq, Nat.reduceLeDiff, Nat.reduceLT, decide_true, Nat.reduceAdd, Nat.reduceSub, Nat.reduceMul, Int.reduceLE, Int.reduceLT, Int.reduceToNat, Int.reduceNeg, reduceCtorEq]; (repeat' (first | with_reducible refine And.intro ?_ ?_ | ((with_reducible show _ ≠ _); first | assumption | omega | (simp_all [outR, outL]; done) | grind) | with_reducible intro _)) <;> (first | done | assumption | rfl | omega | decide | exact fk [0, 1] | (simp_all [outR, outL]; done))) | (simp_all [okI, outR, outL]; done) | (simp_all [outR, outL]; (first | done | exact fk2 [0, 1])) | exact fk2 [0, 1]))) : p := h
theorem evSxR13_0 {p : Prop} (h : p := by simp only [go_sem, Nat.reduceBEq, Nat.reduceLeDiff, Nat.reduceLT, decide_true, Nat.reduceAdd, Nat.reduceSub, Nat.reduceMul, Int.reduceLE, Int.reduceLT, Int.reduceToNat, Int.reduceNeg, reduceCtorEq]; all_goals exact crSxR13_0) : p := h
theorem evSxR13_1 {p : Prop} (h : p := by simp only [go_sem, Nat.reduceBEq, Nat.reduceLeDiff, Nat.reduceLT, decide_true, Nat.reduceAdd, Nat.reduceSub, Nat.reduceMul, Int.reduceLE, Int.reduceLT, Int.reduceToNat, Int.reduceNeg, reduceCtorEq]; all_goals exact crSxR13_1) : p := h
theorem exSxR13_2 {p : Prop} (h : p := by simp only [go_sem, Nat.reduceBEq, Nat.reduceLeDiff, Nat.reduceLT, decide_true, Nat.reduceAdd, Nat.reduceSub, Nat.reduceMul, Int.reduceLE, Int.reduceLT, Int.reduceToNat, Int.reduceNeg, reduceCtorEq, hc, hw]; all_goals exact crSxR13_2) : p := h
theorem ezSxR13_2 {p : Prop} (h : p := by simp only [go_sem, Nat.reduceBEq, Nat.reduceLeDiff, Nat.reduceLT, decide_true, Nat.reduceAdd, Nat.reduceSub, Nat.reduceMul, Int.reduceLE, Int.reduceLT, Int.reduceToNat, Int.reduceNeg, reduceCtorEq, hc]; all_goals exact crSxR13_2) : p := h
theorem evSxR13_2 {p : Prop} (h : p := by simp only [go_sem, Nat.reduceBEq, Nat.reduceLeDiff, Nat.reduceLT, decide_true, Nat.reduceAdd, Nat.reduceSub, Nat.reduceMul, Int.reduceLE, Int.reduceLT, Int.reduceToNat, Int.reduceNeg, reduceCtorEq]; all_goals exact crSxR13_2) : p := h
def ref21_within (x : Range) (most : Int) : Bool := (((decide (x.lo ≥ 0)) && (decide (x.lo ≤ x.hi))) && (decide (x.hi ≤ most)))
@[go_sem] def C_ref21_within : List SV → Option Con := (pD .range fun x => (pI fun most => (pE (.det True (.v (.bool (ref21_within x most)))))))
theorem ok_ref21_within : FnOk Tryz.prog 108 C_ref21_within := by
  have hG : ConsOk Tryz.prog (mkG [] []) := mkG_ok cg0 cg0
  refine fn_okN [.o] mixed ts_ok hG (fn := Tryz.f108) (c := bodyOf Tryz.f108) (by kernel_rfl) (by kernel_rfl) (by kernel_rfl) (by kernel_rfl) (pD_all fun x => (pI_all fun most => (pE_all (fun hp => ?_))))
  dsimp only [conPre] at hp
  refine ⟨Nat.le_of_ble_eq_true rfl, L0, loopsOk0 _, ?_⟩
  · unfold bodyOf Tryz.f108
    try unfold ref21_within
    simp only [go_sem, Nat.reduceBEq, Nat.reduceLeDiff, Nat.reduceLT, decide_true, Nat.reduceAdd, Nat.reduceSub, Nat.reduceMul, Int.reduceLE, Int.reduceLT, Int.reduceToNat, Int.reduceNeg, reduceCtorEq]
    all_goals exact cl
def ref21_share (a : Ratio) : Bool := (((ref12_Valid a) && (decide (a.n ≥ 0))) && (decide (a.n ≤ a.d)))
def ref21_share_p (a : Ratio) : Prop := (ref12_Valid_p a)
@[go_sem] def C_ref21_share : List SV → Option Con := (pD .ratio fun a => (pE (.det (ref21_share_p a) (.v (.bool (ref21_share a))))))
theorem ok_ref21_share : FnOk Tryz.prog 124 C_ref21_share := by
  have hG : ConsOk Tryz.prog (mkG [(130, C_ref12_Valid)] []) := mkG_ok (cgc ok_ref12_Valid cg0) cg0
  refine fn_okN [.o] mixed ts_ok hG (fn := Tryz.f124) (c := bodyOf Tryz.f124) (by kernel_rfl) (by kernel_rfl) (by kernel_rfl) (by kernel_rfl) (pD_all fun a => (pE_all (fun hp => ?_)))
  dsimp only [conPre] at hp
  unfold ref21_share_p at hp
  refine ⟨Nat.le_of_ble_eq_true rfl, L0, loopsOk0 _, ?_⟩
  · unfold bodyOf Tryz.f124
    try unfold ref21_share
    simp only [go_sem, Nat.reduceBEq, Nat.reduceLeDiff, Nat.reduceLT, decide_true, Nat.reduceAdd, Nat.reduceSub, Nat.reduceMul, Int.reduceLE, Int.reduceLT, Int.reduceToNat, Int.reduceNeg, reduceCtorEq]
    all_goals exact cl
def ref21_shares (a : Ratio × Ratio) : Bool := (((ref21_share a.1) && (ref21_share a.2)) && (!(ref12_Less a.2 a.1)))
def ref21_shares_p (a : Ratio × Ratio) : Prop := ((ref21_share_p a.1) ∧ ((ref21_share a.1) = true → (ref21_share_p a.2)))
@[go_sem] def C_ref21_shares : List SV → Option Con := (pD .ratio2 fun a => (pE (.det (ref21_shares_p a) (.v (.bool (ref21_shares a))))))
theorem ok_ref21_shares : FnOk Tryz.prog 109 C_ref21_shares := by
  have hG : ConsOk Tryz.prog (mkG [(124, C_ref21_share), (125, C_ref12_Less)] []) := mkG_ok (cgc ok_ref21_share (cgc ok_ref12_Less cg0)) cg0
  refine fn_okN [.o] mixed ts_ok hG (fn := Tryz.f109) (c := bodyOf Tryz.f109) (by kernel_rfl) (by kernel_rfl) (by kernel_rfl) (by kernel_rfl) (pD_all fun a => (pE_all (fun hp => ?_)))
  dsimp only [conPre] at hp
  unfold ref21_shares_p at hp
  refine ⟨Nat.le_of_ble_eq_true rfl, L0, loopsOk0 _, ?_⟩
  · unfold bodyOf Tryz.f109
    try unfold ref21_shares
    simp only [go_sem, Nat.reduceBEq, Nat.reduceLeDiff, Nat.reduceLT, decide_true, Nat.reduceAdd, Nat.reduceSub, Nat.reduceMul, Int.reduceLE, Int.reduceLT, Int.reduceToNat, Int.reduceNeg, reduceCtorEq]
    all_goals exact cl
def ref21_Right (r : Reach) : Bool := ((ref21_within r.evap 1073741824) && (ref21_shares r.seep))
def ref21_Right_p (r : Reach) : Prop := ((ref21_within r.evap 1073741824) = true → (ref21_shares_p r.seep))
@[go_sem] def C_ref21_Right : List SV → Option Con := (pD .reach fun r => (pE (.det (ref21_Right_p r) (.v (.bool (ref21_Right r))))))
theorem ok_ref21_Right : FnOk Tryz.prog 77 C_ref21_Right := by
  have hG : ConsOk Tryz.prog (mkG [(108, C_ref21_within), (109, C_ref21_shares)] []) := mkG_ok (cgc ok_ref21_within (cgc ok_ref21_shares cg0)) cg0
  refine fn_okN [.o] mixed ts_ok hG (fn := Tryz.f77) (c := bodyOf Tryz.f77) (by kernel_rfl) (by kernel_rfl) (by kernel_rfl) (by kernel_rfl) (pD_all fun r => (pE_all (fun hp => ?_)))
  dsimp only [conPre] at hp
  unfold ref21_Right_p at hp
  refine ⟨Nat.le_of_ble_eq_true rfl, L0, loopsOk0 _, ?_⟩
  · unfold bodyOf Tryz.f77
    try unfold ref21_Right
    simp only [go_sem, Nat.reduceBEq, Nat.reduceLeDiff, Nat.reduceLT, decide_true, Nat.reduceAdd, Nat.reduceSub, Nat.reduceMul, Int.reduceLE, Int.reduceLT, Int.reduceToNat, Int.reduceNeg, reduceCtorEq]
    all_goals exact cl
def ref21_up (a : Int) (b : Int) : Int := (IntKind.i64.wrap (Int.tdiv (IntKind.i64.wrap ((IntKind.i64.wrap (a + b)) - 1)) b))
def ref21_up_p (a : Int) (b : Int) : Prop := b ≠ 0
@[go_sem] def C_ref21_up : List SV → Option Con := (pI fun a => (pI fun b => (pE (.det (ref21_up_p a b) (.v (.int .i64 (ref21_up a b)))))))
theorem ok_ref21_up : FnOk Tryz.prog 110 C_ref21_up := by
  have hG : ConsOk Tryz.prog (mkG [] []) := mkG_ok cg0 cg0
  refine fn_okN [.o] mixed ts_ok hG (fn := Tryz.f110) (c := bodyOf Tryz.f110) (by kernel_rfl) (by kernel_rfl) (by kernel_rfl) (by kernel_rfl) (pI_all fun a => (pI_all fun b => (pE_all (fun hp => ?_))))
  dsimp only [conPre] at hp
  unfold ref21_up_p at hp
  refine ⟨Nat.le_of_ble_eq_true rfl, L0, loopsOk0 _, ?_⟩
  · unfold bodyOf Tryz.f110
    try unfold ref21_up
    simp only [go_sem, Nat.reduceBEq, Nat.reduceLeDiff, Nat.reduceLT, decide_true, Nat.reduceAdd, Nat.reduceSub, Nat.reduceMul, Int.reduceLE, Int.reduceLT, Int.reduceToNat, Int.reduceNeg, reduceCtorEq]
    all_goals exact cl
def ref21_lost (r : Reach) (v : Int) : Range := (bif (v == 0) then ({ lo := 0, hi := 0 } : Range) else ({ lo := (if (IntKind.i64.wrap (r.evap.lo + (IntKind.i64.wrap (Int.tdiv (IntKind.i64.wrap (v * r.seep.1.n)) r.seep.1.d)))) < v then (IntKind.i64.wrap (r.evap.lo + (IntKind.i64.wrap (Int.tdiv (IntKind.i64.wrap (v * r.seep.1.n)) r.seep.1.d)))) else v), hi := (if (IntKind.i64.wrap (r.evap.hi + (ref21_up (IntKind.i64.wrap (v * r.seep.2.n)) r.seep.2.d))) < v then (IntKind.i64.wrap (r.evap.hi + (ref21_up (IntKind.i64.wrap (v * r.seep.2.n)) r.seep.2.d))) else v) } : Range))
def ref21_lost_p (r : Reach) (v : Int) : Prop := ((v == 0) = false → (r.seep.1.d ≠ 0 ∧ (ref21_up_p (IntKind.i64.wrap (v * r.seep.2.n)) r.seep.2.d)))
@[go_sem] def C_ref21_lost : List SV → Option Con := (pD .reach fun r => (pI fun v => (pE (.det (ref21_lost_p r v) (.agg (cellsOf .range (ref21_lost r v)))))))
theorem ok_ref21_lost : FnOk Tryz.prog 78 C_ref21_lost := by
  have hG : ConsOk Tryz.prog (mkG [(110, C_ref21_up)] []) := mkG_ok (cgc ok_ref21_up cg0) cg0
  refine fn_okN [.st .range] mixed ts_ok hG (fn := Tryz.f78) (c := bodyOf Tryz.f78) (by kernel_rfl) (by kernel_rfl) (by kernel_rfl) (by kernel_rfl) (pD_all fun r => (pI_all fun v => (pE_all (fun hp => ?_))))
  dsimp only [conPre] at hp
  unfold ref21_lost_p at hp
  refine ⟨Nat.le_of_ble_eq_true rfl, L0, loopsOk0 _, ?_⟩
  · unfold bodyOf Tryz.f78
    try unfold ref21_lost
    simp only [go_sem, Nat.reduceBEq, Nat.reduceLeDiff, Nat.reduceLT, decide_true, Nat.reduceAdd, Nat.reduceSub, Nat.reduceMul, Int.reduceLE, Int.reduceLT, Int.reduceToNat, Int.reduceNeg, reduceCtorEq]
    all_goals exact cl
def ref21_Lost (r : Reach) (v : Int) : Range × Int := (bif (!(ref21_Right r)) then (({ lo := 0, hi := 0 } : Range), 210) else (bif ((decide (v < 0)) || (decide (v > 1073741824))) then (({ lo := 0, hi := 0 } : Range), 1) else ((ref21_lost r v), 0)))
def ref21_Lost_p (r : Reach) (v : Int) : Prop := ((ref21_Right_p r) ∧ ((!(ref21_Right r)) = false → (((decide (v < 0)) || (decide (v > 1073741824))) = false → (ref21_lost_p r v))))
@[go_sem] def C_ref21_Lost : List SV → Option Con := (pD .reach fun r => (pI fun v => (pE (.det (ref21_Lost_p r v) (.tup [.agg (cellsOf .range ((ref21_Lost r v).1)), .v (.int .i64 ((ref21_Lost r v).2))])))))
theorem ok_ref21_Lost : FnOk Tryz.prog 52 C_ref21_Lost := by
  have hG : ConsOk Tryz.prog (mkG [(77, C_ref21_Right), (78, C_ref21_lost)] []) := mkG_ok (cgc ok_ref21_Right (cgc ok_ref21_lost cg0)) cg0
  refine fn_okN [.st .range, .o] mixed ts_ok hG (fn := Tryz.f52) (c := bodyOf Tryz.f52) (by kernel_rfl) (by kernel_rfl) (by kernel_rfl) (by kernel_rfl) (pD_all fun r => (pI_all fun v => (pE_all (fun hp => ?_))))
  dsimp only [conPre] at hp
  unfold ref21_Lost_p at hp
  refine ⟨Nat.le_of_ble_eq_true rfl, L0, loopsOk0 _, ?_⟩
  · unfold bodyOf Tryz.f52
    try unfold ref21_Lost
    simp only [go_sem, Nat.reduceBEq, Nat.reduceLeDiff, Nat.reduceLT, decide_true, Nat.reduceAdd, Nat.reduceSub, Nat.reduceMul, Int.reduceLE, Int.reduceLT, Int.reduceToNat, Int.reduceNeg, reduceCtorEq]
    all_goals exact cl
def ref21_Worst (r : Reach) (v : Int) : Int × Int := (bif ((ref21_Lost r v).2 != 0) then (0, (ref21_Lost r v).2) else ((IntKind.i64.wrap (v - ((ref21_Lost r v).1).hi)), 0))
def ref21_Worst_p (r : Reach) (v : Int) : Prop := (ref21_Lost_p r v)
@[go_sem] def C_ref21_Worst : List SV → Option Con := (pD .reach fun r => (pI fun v => (pE (.det (ref21_Worst_p r v) (.tup [.v (.int .i64 ((ref21_Worst r v).1)), .v (.int .i64 ((ref21_Worst r v).2))])))))
theorem ok_ref21_Worst : FnOk Tryz.prog 28 C_ref21_Worst := by
  have hG : ConsOk Tryz.prog (mkG [(52, C_ref21_Lost)] []) := mkG_ok (cgc ok_ref21_Lost cg0) cg0
  refine fn_okN [.o, .o] mixed ts_ok hG (fn := Tryz.f28) (c := bodyOf Tryz.f28) (by kernel_rfl) (by kernel_rfl) (by kernel_rfl) (by kernel_rfl) (pD_all fun r => (pI_all fun v => (pE_all (fun hp => ?_))))
  dsimp only [conPre] at hp
  unfold ref21_Worst_p at hp
  refine ⟨Nat.le_of_ble_eq_true rfl, L0, loopsOk0 _, ?_⟩
  · unfold bodyOf Tryz.f28
    try unfold ref21_Worst
    simp only [go_sem, Nat.reduceBEq, Nat.reduceLeDiff, Nat.reduceLT, decide_true, Nat.reduceAdd, Nat.reduceSub, Nat.reduceMul, Int.reduceLE, Int.reduceLT, Int.reduceToNat, Int.reduceNeg, reduceCtorEq]
    all_goals exact cl
def ref21_arrives (r : Reach) (v : Int) (best : Bool) : Int := (bif best then (IntKind.i64.wrap (v - (ref21_lost r v).lo)) else (IntKind.i64.wrap (v - (ref21_lost r v).hi)))
def ref21_arrives_p (r : Reach) (v : Int) (best : Bool) : Prop := (ref21_lost_p r v)
@[go_sem] def C_ref21_arrives : List SV → Option Con := (pD .reach fun r => (pI fun v => (pB fun best => (pE (.det (ref21_arrives_p r v best) (.v (.int .i64 (ref21_arrives r v best))))))))
theorem ok_ref21_arrives : FnOk Tryz.prog 126 C_ref21_arrives := by
  have hG : ConsOk Tryz.prog (mkG [(78, C_ref21_lost)] []) := mkG_ok (cgc ok_ref21_lost cg0) cg0
  refine fn_okN [.o] mixed ts_ok hG (fn := Tryz.f126) (c := bodyOf Tryz.f126) (by kernel_rfl) (by kernel_rfl) (by kernel_rfl) (by kernel_rfl) (pD_all fun r => (pI_all fun v => (pB_all fun best => (pE_all (fun hp => ?_)))))
  dsimp only [conPre] at hp
  unfold ref21_arrives_p at hp
  refine ⟨Nat.le_of_ble_eq_true rfl, L0, loopsOk0 _, ?_⟩
  · unfold bodyOf Tryz.f126
    try unfold ref21_arrives
    simp only [go_sem, Nat.reduceBEq, Nat.reduceLeDiff, Nat.reduceLT, decide_true, Nat.reduceAdd, Nat.reduceSub, Nat.reduceMul, Int.reduceLE, Int.reduceLT, Int.reduceToNat, Int.reduceNeg, reduceCtorEq]
    all_goals exact cl
@[go_sem] def ref21_Least_l0 (r : Reach) (w : Int) (best : Bool) (k_0 : Nat) (s_0 : Int × Int) : Int ⊕ (Int × Int) := (bif (decide (s_0.2 < s_0.1)) then (bif (decide ((ref21_arrives r (IntKind.i64.wrap (Int.tdiv (IntKind.i64.wrap (s_0.2 + s_0.1)) 2)) best) ≥ w)) then .inr ((IntKind.i64.wrap (Int.tdiv (IntKind.i64.wrap (s_0.2 + s_0.1)) 2)), s_0.2) else .inr (s_0.1, (IntKind.i64.wrap ((IntKind.i64.wrap (Int.tdiv (IntKind.i64.wrap (s_0.2 + s_0.1)) 2)) + 1)))) else .inl s_0.2)
def ref21_Least_l0_p (r : Reach) (w : Int) (best : Bool) (k_0 : Nat) (s_0 : Int × Int) : Prop := ((decide (s_0.2 < s_0.1)) = true → (ref21_arrives_p r (IntKind.i64.wrap (Int.tdiv (IntKind.i64.wrap (s_0.2 + s_0.1)) 2)) best))
def ref21_Least (r : Reach) (w : Int) (best : Bool) : Int := (bif (decide ((ref21_arrives r 1073741824 best) < w)) then (-1) else (match runI (ref21_Least_l0 r w best) 64 0 (1073741824, 0) with | .inl x_0_0 => x_0_0 | .inr s_0 => default))
def ref21_Least_p (r : Reach) (w : Int) (best : Bool) : Prop := ((ref21_arrives_p r 1073741824 best) ∧ ((decide ((ref21_arrives r 1073741824 best) < w)) = false → (okI (ref21_Least_l0 r w best) (ref21_Least_l0_p r w best) 64 0 (1073741824, 0) ∧ (∀ z_, runI (ref21_Least_l0 r w best) 64 0 (1073741824, 0) ≠ .inr z_))))
@[go_sem] def C_ref21_Least : List SV → Option Con := (pD .reach fun r => (pI fun w => (pB fun best => (pE (.det (ref21_Least_p r w best) (.v (.int .i64 (ref21_Least r w best))))))))
set_option maxHeartbeats 4000000 in
theorem ok_ref21_Least : FnOk Tryz.prog 113 C_ref21_Least := by
  have hG : ConsOk Tryz.prog (mkG [(126, C_ref21_arrives)] []) := mkG_ok (cgc ok_ref21_arrives cg0) cg0
  refine fn_okN [.o] mixed ts_ok hG (fn := Tryz.f113) (c := bodyOf Tryz.f113) (by kernel_rfl) (by kernel_rfl) (by kernel_rfl) (by kernel_rfl) (pD_all fun r => (pI_all fun w => (pB_all fun best => (pE_all (fun hp => ?_)))))
  dsimp only [conPre] at hp
  unfold ref21_Least_p at hp
  refine ⟨Nat.le_of_ble_eq_true rfl, (fun id st => bif Nat.beq id 0 then some (LCV (ρ := Int) (σ := (Int × Int)) 1 [] [0] (fun k_0 s_0 => ⟨[(1, .v (.int .i64 w)), (2, .v (.bool best)), (3, .ptr 0 0), (7, .v (.int .i64 s_0.2)), (8, .v (.int .i64 s_0.1))], [.cells (cellsOf .reach r)]⟩) (ref21_Least_l0 r w best) (ref21_Least_l0_p r w best) 64 (1073741824, 0) (fun _ => .normal) (fun x_0_0 => ⟨[(7, .v (.int .i64 x_0_0))], [.dead]⟩) st) else none), ?_, ?_⟩
  · unfold bodyOf Tryz.f113
    simp only [loopsOk, true_and, and_true]
    · refine loopV_ok mixed ts_ok hG (by kernel_rfl) (fun _ => rfl) fun k_0 s_0 hq0 => ⟨L0, loopsOk0 _, ?_⟩
      · unfold ref21_Least_l0_p at hq0
        exact evSxR13_0
  · unfold bodyOf Tryz.f113
    try unfold ref21_Least
    simp only [go_sem, Nat.reduceBEq, Nat.reduceLeDiff, Nat.reduceLT, decide_true, Nat.reduceAdd, Nat.reduceSub, Nat.reduceMul, Int.reduceLE, Int.reduceLT, Int.reduceToNat, Int.reduceNeg, reduceCtorEq]
    all_goals exact cl
def ref21_find (r : Reach) (w : Int) (best : Bool) : Int × Bool × Int := (bif (!(ref21_Right r)) then (0, false, 210) else (bif ((decide (w < 0)) || (decide (w > 1073741824))) then (0, false, 1) else (bif (decide ((ref21_Least r w best) < 0)) then (0, false, 0) else ((ref21_Least r w best), true, 0))))
def ref21_find_p (r : Reach) (w : Int) (best : Bool) : Prop := ((ref21_Right_p r) ∧ ((!(ref21_Right r)) = false → (((decide (w < 0)) || (decide (w > 1073741824))) = false → (ref21_Least_p r w best))))
@[go_sem] def C_ref21_find : List SV → Option Con := (pD .reach fun r => (pI fun w => (pB fun best => (pE (.det (ref21_find_p r w best) (.tup [.v (.int .i64 ((ref21_find r w best).1)), .v (.bool ((ref21_find r w best).2.1)), .v (.int .i64 ((ref21_find r w best).2.2))]))))))
theorem ok_ref21_find : FnOk Tryz.prog 81 C_ref21_find := by
  have hG : ConsOk Tryz.prog (mkG [(77, C_ref21_Right), (113, C_ref21_Least)] []) := mkG_ok (cgc ok_ref21_Right (cgc ok_ref21_Least cg0)) cg0
  refine fn_okN [.o, .o, .o] mixed ts_ok hG (fn := Tryz.f81) (c := bodyOf Tryz.f81) (by kernel_rfl) (by kernel_rfl) (by kernel_rfl) (by kernel_rfl) (pD_all fun r => (pI_all fun w => (pB_all fun best => (pE_all (fun hp => ?_)))))
  dsimp only [conPre] at hp
  unfold ref21_find_p at hp
  refine ⟨Nat.le_of_ble_eq_true rfl, L0, loopsOk0 _, ?_⟩
  · unfold bodyOf Tryz.f81
    try unfold ref21_find
    simp only [go_sem, Nat.reduceBEq, Nat.reduceLeDiff, Nat.reduceLT, decide_true, Nat.reduceAdd, Nat.reduceSub, Nat.reduceMul, Int.reduceLE, Int.reduceLT, Int.reduceToNat, Int.reduceNeg, reduceCtorEq]
    all_goals exact cl
def ref21_Need (r : Reach) (w : Int) : Int × Bool × Int := ((ref21_find r w false).1, (ref21_find r w false).2.1, (ref21_find r w false).2.2)
def ref21_Need_p (r : Reach) (w : Int) : Prop := (ref21_find_p r w false)
@[go_sem] def C_ref21_Need : List SV → Option Con := (pD .reach fun r => (pI fun w => (pE (.det (ref21_Need_p r w) (.tup [.v (.int .i64 ((ref21_Need r w).1)), .v (.bool ((ref21_Need r w).2.1)), .v (.int .i64 ((ref21_Need r w).2.2))])))))
theorem ok_ref21_Need : FnOk Tryz.prog 55 C_ref21_Need := by
  have hG : ConsOk Tryz.prog (mkG [(81, C_ref21_find)] []) := mkG_ok (cgc ok_ref21_find cg0) cg0
  refine fn_okN [.o, .o, .o] mixed ts_ok hG (fn := Tryz.f55) (c := bodyOf Tryz.f55) (by kernel_rfl) (by kernel_rfl) (by kernel_rfl) (by kernel_rfl) (pD_all fun r => (pI_all fun w => (pE_all (fun hp => ?_))))
  dsimp only [conPre] at hp
  unfold ref21_Need_p at hp
  refine ⟨Nat.le_of_ble_eq_true rfl, L0, loopsOk0 _, ?_⟩
  · unfold bodyOf Tryz.f55
    try unfold ref21_Need
    simp only [go_sem, Nat.reduceBEq, Nat.reduceLeDiff, Nat.reduceLT, decide_true, Nat.reduceAdd, Nat.reduceSub, Nat.reduceMul, Int.reduceLE, Int.reduceLT, Int.reduceToNat, Int.reduceNeg, reduceCtorEq]
    all_goals exact cl
def ref22_ask (d : District) (reach : Int) (n : Int) : Int := (bif ((ref19_Check d) != 0) then (ref19_Check d) else (bif ((((decide (reach < 0)) || (decide (reach ≥ (d.reaches.length : Int)))) || (decide (n < 0))) || (decide (n > 1073741824))) then 1 else 0))
def ref22_ask_p (d : District) (reach : Int) (n : Int) : Prop := (ref19_Check_p d)
@[go_sem] def C_ref22_ask : List SV → Option Con := (pD .district fun d => (pI fun reach => (pI fun n => (pE (.det (ref22_ask_p d reach n) (.v (.int .i64 (ref22_ask d reach n))))))))
theorem ok_ref22_ask : FnOk Tryz.prog 26 C_ref22_ask := by
  have hG : ConsOk Tryz.prog (mkG [(42, fun l => C_ref19_Check (nrmA [.st .district] l))] []) := mkG_ok (cgc (ok_ref19_Check.norm [.st .district]) cg0) cg0
  refine fn_okN [.o] mixed ts_ok hG (fn := Tryz.f26) (c := bodyOf Tryz.f26) (by kernel_rfl) (by kernel_rfl) (by kernel_rfl) (by kernel_rfl) (pD_all fun d => (pI_all fun reach => (pI_all fun n => (pE_all (fun hp => ?_)))))
  dsimp only [conPre] at hp
  unfold ref22_ask_p at hp
  refine ⟨Nat.le_of_ble_eq_true rfl, L0, loopsOk0 _, ?_⟩
  · unfold bodyOf Tryz.f26
    try unfold ref22_ask
    simp only [go_sem, Nat.reduceBEq, Nat.reduceLeDiff, Nat.reduceLT, decide_true, Nat.reduceAdd, Nat.reduceSub, Nat.reduceMul, Int.reduceLE, Int.reduceLT, Int.reduceToNat, Int.reduceNeg, reduceCtorEq]
    all_goals exact cl
@[go_sem] def ref22_Path_l0 (d : District) (k_0 : Nat) (s_0 : List Int) : (List Int) ⊕ (List Int) := (bif (decide ((s_0.getD 0 (0 : Int)) > 0)) then .inr (([(d.reaches.getD (Int.toNat (s_0.getD 0 (0 : Int))) (default : Reach)).up]) ++ s_0) else .inl s_0)
def ref22_Path_l0_p (d : District) (k_0 : Nat) (s_0 : List Int) : Prop := ((0 ≤ 0 ∧ 0 < (s_0.length : Int)) ∧ ((decide ((s_0.getD 0 (0 : Int)) > 0)) = true → ((0 ≤ 0 ∧ 0 < (s_0.length : Int)) ∧ ((0 ≤ (s_0.getD 0 (0 : Int)) ∧ (s_0.getD 0 (0 : Int)) < (d.reaches.length : Int)) ∧ ((([(d.reaches.getD (Int.toNat (s_0.getD 0 (0 : Int))) (default : Reach)).up]) ++ s_0).length * 8 ≤ maxB)))))
def ref22_Path (d : District) (reach : Int) : List Int := (match runI (ref22_Path_l0 d) 65 0 ([reach]) with | .inl x_0_0 => x_0_0 | .inr s_0 => default)
def ref22_Path_p (d : District) (reach : Int) : Prop := (okI (ref22_Path_l0 d) (ref22_Path_l0_p d) 65 0 ([reach]) ∧ (∀ z_, runI (ref22_Path_l0 d) 65 0 ([reach]) ≠ .inr z_))
@[go_sem] def C_ref22_Path : List SV → Option Con := (pD .district fun d => (pI fun reach => (pE (.det (ref22_Path_p d reach) (.nw .int (ref22_Path d reach))))))
set_option maxHeartbeats 4000000 in
theorem ok_ref22_Path : FnOk Tryz.prog 27 C_ref22_Path := by
  have hG : ConsOk Tryz.prog (mkG [] []) := mkG_ok cg0 cg0
  refine fn_okE true mixed ts_ok hG (fn := Tryz.f27) (c := bodyOf Tryz.f27) (by kernel_rfl) (by kernel_rfl) (by kernel_rfl) (by kernel_rfl) (pD_all fun d => (pI_all fun reach => (pE_all (fun hp => ?_))))
  dsimp only [conPre] at hp
  unfold ref22_Path_p at hp
  refine ⟨Nat.le_of_ble_eq_true rfl, (fun id st => bif Nat.beq id 0 then some (LCV (ρ := (List Int)) (σ := (List Int)) 2 [] [0, 1, 1] (fun k_0 s_0 => ⟨[(2, .ptr 0 0), (5, .os 2)], [.cells (cellsOf .district d), .dead, .row .int s_0]⟩) (ref22_Path_l0 d) (ref22_Path_l0_p d) 65 ([reach]) (fun _ => .normal) (fun x_0_0 => ⟨[(5, .os 2)], [.dead, .dead, .row .int x_0_0]⟩) st) else none), ?_, ?_⟩
  · unfold bodyOf Tryz.f27
    simp only [loopsOk, true_and, and_true]
    · refine loopV_ok mixed ts_ok hG (by kernel_rfl) (fun _ => rfl) fun k_0 s_0 hq0 => ⟨L0, loopsOk0 _, ?_⟩
      · unfold ref22_Path_l0_p at hq0
        exact evSxR13_1
  · unfold bodyOf Tryz.f27
    try unfold ref22_Path
    simp only [go_sem, Nat.reduceBEq, Nat.reduceLeDiff, Nat.reduceLT, decide_true, Nat.reduceAdd, Nat.reduceSub, Nat.reduceMul, Int.reduceLE, Int.reduceLT, Int.reduceToNat, Int.reduceNeg, reduceCtorEq]
    all_goals exact cl
def ref22_Enter (x : Reach) (v : Int) : Int := (bif (decide (v < x.siphon)) then 0 else v)
@[go_sem] def C_ref22_Enter : List SV → Option Con := (pD .reach fun x => (pI fun v => (pE (.det True (.v (.int .i64 (ref22_Enter x v)))))))
theorem ok_ref22_Enter : FnOk Tryz.prog 29 C_ref22_Enter := by
  have hG : ConsOk Tryz.prog (mkG [] []) := mkG_ok cg0 cg0
  refine fn_okN [.o] mixed ts_ok hG (fn := Tryz.f29) (c := bodyOf Tryz.f29) (by kernel_rfl) (by kernel_rfl) (by kernel_rfl) (by kernel_rfl) (pD_all fun x => (pI_all fun v => (pE_all (fun hp => ?_))))
  dsimp only [conPre] at hp
  refine ⟨Nat.le_of_ble_eq_true rfl, L0, loopsOk0 _, ?_⟩
  · unfold bodyOf Tryz.f29
    try unfold ref22_Enter
    simp only [go_sem, Nat.reduceBEq, Nat.reduceLeDiff, Nat.reduceLT, decide_true, Nat.reduceAdd, Nat.reduceSub, Nat.reduceMul, Int.reduceLE, Int.reduceLT, Int.reduceToNat, Int.reduceNeg, reduceCtorEq]
    all_goals exact cl
def ref22_Intake (x : Reach) (w : Int) : Int × Bool := (bif (w == 0) then (0, true) else (bif (decide (w > 1073741824)) then (0, false) else (bif (!(ref21_Need x w).2.1) then (0, false) else ((if (ref21_Need x w).1 < x.siphon then x.siphon else (ref21_Need x w).1), true))))
def ref22_Intake_p (x : Reach) (w : Int) : Prop := ((w == 0) = false → ((decide (w > 1073741824)) = false → (ref21_Need_p x w)))
@[go_sem] def C_ref22_Intake : List SV → Option Con := (pD .reach fun x => (pI fun w => (pE (.det (ref22_Intake_p x w) (.tup [.v (.int .i64 ((ref22_Intake x w).1)), .v (.bool ((ref22_Intake x w).2))])))))
theorem ok_ref22_Intake : FnOk Tryz.prog 32 C_ref22_Intake := by
  have hG : ConsOk Tryz.prog (mkG [(55, C_ref21_Need)] []) := mkG_ok (cgc ok_ref21_Need cg0) cg0
  refine fn_okN [.o, .o] mixed ts_ok hG (fn := Tryz.f32) (c := bodyOf Tryz.f32) (by kernel_rfl) (by kernel_rfl) (by kernel_rfl) (by kernel_rfl) (pD_all fun x => (pI_all fun w => (pE_all (fun hp => ?_))))
  dsimp only [conPre] at hp
  unfold ref22_Intake_p at hp
  refine ⟨Nat.le_of_ble_eq_true rfl, L0, loopsOk0 _, ?_⟩
  · unfold bodyOf Tryz.f32
    try unfold ref22_Intake
    simp only [go_sem, Nat.reduceBEq, Nat.reduceLeDiff, Nat.reduceLT, decide_true, Nat.reduceAdd, Nat.reduceSub, Nat.reduceMul, Int.reduceLE, Int.reduceLT, Int.reduceToNat, Int.reduceNeg, reduceCtorEq]
    all_goals exact cl
@[go_sem] def ref22_Worst_l0 (d : District) (reach : Int) (k_0 : Nat) (s_0 : Int) : Empty ⊕ Int := .inr ((ref21_Worst (d.reaches.getD (Int.toNat ((ref22_Path d reach).getD k_0 (0 : Int))) (default : Reach)) (ref22_Enter (d.reaches.getD (Int.toNat ((ref22_Path d reach).getD k_0 (0 : Int))) (default : Reach)) s_0)).1)
def ref22_Worst_l0_p (d : District) (reach : Int) (k_0 : Nat) (s_0 : Int) : Prop := ((ref22_Path d reach).length ≤ maxL → ((0 ≤ ((ref22_Path d reach).getD k_0 (0 : Int)) ∧ ((ref22_Path d reach).getD k_0 (0 : Int)) < (d.reaches.length : Int)) ∧ (ref21_Worst_p (d.reaches.getD (Int.toNat ((ref22_Path d reach).getD k_0 (0 : Int))) (default : Reach)) (ref22_Enter (d.reaches.getD (Int.toNat ((ref22_Path d reach).getD k_0 (0 : Int))) (default : Reach)) s_0))))
def ref22_Worst (d : District) (reach : Int) (v : Int) : Int × Int := (bif ((ref22_ask d reach v) != 0) then (0, (ref22_ask d reach v)) else (match runI (ref22_Worst_l0 d reach) ((ref22_Path d reach).length) 0 v with | .inl x => x.elim | .inr s_0 => (s_0, 0)))
def ref22_Worst_p (d : District) (reach : Int) (v : Int) : Prop := ((ref22_ask_p d reach v) ∧ (((ref22_ask d reach v) != 0) = false → ((ref22_Path_p d reach) ∧ okI (ref22_Worst_l0 d reach) (ref22_Worst_l0_p d reach) ((ref22_Path d reach).length) 0 v)))
@[go_sem] def C_ref22_Worst : List SV → Option Con := (pD .district fun d => (pI fun reach => (pI fun v => (pE (.det (ref22_Worst_p d reach v) (.tup [.v (.int .i64 ((ref22_Worst d reach v).1)), .v (.int .i64 ((ref22_Worst d reach v).2))]))))))
set_option maxHeartbeats 4000000 in
theorem ok_ref22_Worst : FnOk Tryz.prog 9 C_ref22_Worst := by
  have hG : ConsOk Tryz.prog (mkG [(26, fun l => C_ref22_ask (nrmA [.st .district, .o, .o] l)), (27, fun l => C_ref22_Path (nrmA [.st .district, .o] l)), (28, C_ref21_Worst), (29, C_ref22_Enter)] []) := mkG_ok (cgc (ok_ref22_ask.norm [.st .district, .o, .o]) (cgc (ok_ref22_Path.norm [.st .district, .o]) (cgc ok_ref21_Worst (cgc ok_ref22_Enter cg0)))) cg0
  refine fn_okN [.o, .o] mixed ts_ok hG (fn := Tryz.f9) (c := bodyOf Tryz.f9) (by kernel_rfl) (by kernel_rfl) (by kernel_rfl) (by kernel_rfl) (pD_all fun d => (pI_all fun reach => (pI_all fun v => (pE_all (fun hp => ?_)))))
  dsimp only [conPre] at hp
  unfold ref22_Worst_p at hp
  refine ⟨Nat.le_of_ble_eq_true rfl, (fun id st => bif Nat.beq id 0 then some (LCR (ρ := Empty) (σ := Int) 2 [] [0, 1] (fun k_0 s_0 => ⟨[(2, .v (.int .i64 s_0)), (3, .ptr 0 0), (9, .os 1), (10, .v (.int .i64 (k_0 : Int)))], [.cells (cellsOf .district d), .row .int (ref22_Path d reach)]⟩) (ref22_Worst_l0 d reach) (ref22_Worst_l0_p d reach) ((ref22_Path d reach).length) v (True) ((·.elim)) ((·.elim)) st) else none), ?_, ?_⟩
  · unfold bodyOf Tryz.f9
    simp only [loopsOk, true_and, and_true]
    · refine loopI_ok ((ref22_Path d reach).length ≤ maxL) mixed ts_ok hG (by kernel_rfl) (fun _ => rfl) ((ref22_Path d reach).length : Int) rfl lenB (fun hb0 k_0 s_0 hlt0 hq0 hw hc => ⟨L0, loopsOk0 _, ?_⟩) (fun hb0 s_0 hc => ?_) fun hb0 k_0 s_0 => ?_
      · unfold ref22_Worst_l0_p at hq0
        try simp only [hw, Int.toNat_natCast] at hq0
        exact exSxR13_2
      · exact ezSxR13_2
      · simp only [go_sem, Nat.reduceBEq, Nat.reduceLeDiff, Nat.reduceLT, decide_true, Nat.reduceAdd, Nat.reduceSub, Nat.reduceMul, Int.reduceLE, Int.reduceLT, Int.reduceToNat, Int.reduceNeg, reduceCtorEq, hb0]
  · unfold bodyOf Tryz.f9
    try unfold ref22_Worst
    simp only [go_sem, Nat.reduceBEq, Nat.reduceLeDiff, Nat.reduceLT, decide_true, Nat.reduceAdd, Nat.reduceSub, Nat.reduceMul, Int.reduceLE, Int.reduceLT, Int.reduceToNat, Int.reduceNeg, reduceCtorEq]
    all_goals exact cl
@[go_sem] def ref22_Need_l0 (d : District) (reach : Int) (k_0 : Nat) (s_0 : Int × Int) : (Unit ⊕ Int) ⊕ (Int × Int) := (bif (decide (s_0.2 ≥ 0)) then (bif (!(ref22_Intake (d.reaches.getD (Int.toNat ((ref22_Path d reach).getD (Int.toNat s_0.2) (0 : Int))) (default : Reach)) s_0.1).2) then .inl (.inl ()) else .inr ((ref22_Intake (d.reaches.getD (Int.toNat ((ref22_Path d reach).getD (Int.toNat s_0.2) (0 : Int))) (default : Reach)) s_0.1).1, (IntKind.i64.wrap (s_0.2 - 1)))) else .inl (.inr s_0.1))
def ref22_Need_l0_p (d : District) (reach : Int) (k_0 : Nat) (s_0 : Int × Int) : Prop := ((decide (s_0.2 ≥ 0)) = true → ((0 ≤ s_0.2 ∧ s_0.2 < ((ref22_Path d reach).length : Int)) ∧ ((0 ≤ ((ref22_Path d reach).getD (Int.toNat s_0.2) (0 : Int)) ∧ ((ref22_Path d reach).getD (Int.toNat s_0.2) (0 : Int)) < (d.reaches.length : Int)) ∧ (ref22_Intake_p (d.reaches.getD (Int.toNat ((ref22_Path d reach).getD (Int.toNat s_0.2) (0 : Int))) (default : Reach)) s_0.1))))
def ref22_Need (d : District) (reach : Int) (w : Int) : Int × Bool × Int := (bif ((ref22_ask d reach w) != 0) then (0, false, (ref22_ask d reach w)) else (match runI (ref22_Need_l0 d reach) 66 0 (w, (IntKind.i64.wrap (((ref22_Path d reach).length : Int) - 1))) with | .inl (.inl x_0_0) => (0, false, 0) | .inl (.inr x_0_1) => (x_0_1, true, 0) | .inr s_0 => default))
def ref22_Need_p (d : District) (reach : Int) (w : Int) : Prop := ((ref22_ask_p d reach w) ∧ (((ref22_ask d reach w) != 0) = false → ((ref22_Path_p d reach) ∧ ((ref22_Path d reach).length ≤ maxL → (okI (ref22_Need_l0 d reach) (ref22_Need_l0_p d reach) 66 0 (w, (IntKind.i64.wrap (((ref22_Path d reach).length : Int) - 1))) ∧ (∀ z_, runI (ref22_Need_l0 d reach) 66 0 (w, (IntKind.i64.wrap (((ref22_Path d reach).length : Int) - 1))) ≠ .inr z_))))))
@[go_sem] def C_ref22_Need : List SV → Option Con := (pD .district fun d => (pI fun reach => (pI fun w => (pE (.det (ref22_Need_p d reach w) (.tup [.v (.int .i64 ((ref22_Need d reach w).1)), .v (.bool ((ref22_Need d reach w).2.1)), .v (.int .i64 ((ref22_Need d reach w).2.2))]))))))
set_option maxHeartbeats 4000000 in
theorem ok_ref22_Need : FnOk Tryz.prog 11 C_ref22_Need := by
  have hG : ConsOk Tryz.prog (mkG [(26, fun l => C_ref22_ask (nrmA [.st .district, .o, .o] l)), (27, fun l => C_ref22_Path (nrmA [.st .district, .o] l)), (32, C_ref22_Intake)] []) := mkG_ok (cgc (ok_ref22_ask.norm [.st .district, .o, .o]) (cgc (ok_ref22_Path.norm [.st .district, .o]) (cgc ok_ref22_Intake cg0))) cg0
  refine fn_okN [.o, .o, .o] mixed ts_ok hG (fn := Tryz.f11) (c := bodyOf Tryz.f11) (by kernel_rfl) (by kernel_rfl) (by kernel_rfl) (by kernel_rfl) (pD_all fun d => (pI_all fun reach => (pI_all fun w => (pE_all (fun hp => ?_)))))
  dsimp only [conPre] at hp
  unfold ref22_Need_p at hp
  refine ⟨Nat.le_of_ble_eq_true rfl, (fun id st => bif Nat.beq id 0 then some (LCV (ρ := (Unit ⊕ Int)) (σ := (Int × Int)) 2 [] [0, 1] (fun k_0 s_0 => ⟨[(2, .v (.int .i64 s_0.1)), (3, .ptr 0 0), (10, .os 1), (11, .v (.int .i64 s_0.2))], [.cells (cellsOf .district d), .row .int (ref22_Path d reach)]⟩) (ref22_Need_l0 d reach) (ref22_Need_l0_p d reach) 66 (w, (IntKind.i64.wrap (((ref22_Path d reach).length : Int) - 1))) (fun x => match x with | (.inl _) => .ret | (.inr _) => .normal) (fun x => match x with | (.inl x_0_0) => ⟨[(6, .v (.int .i64 0)), (7, .v (.bool false)), (8, .v (.int .i64 0))], [.dead, .dead]⟩ | (.inr x_0_1) => ⟨[(2, .v (.int .i64 x_0_1))], [.dead, .dead]⟩) st) else none), ?_, ?_⟩
  · unfold bodyOf Tryz.f11
    simp only [loopsOk, true_and, and_true]
    · refine loopV_ok mixed ts_ok hG (by kernel_rfl) (fun _ => rfl) fun k_0 s_0 hq0 => ⟨L0, loopsOk0 _, ?_⟩
      · unfold ref22_Need_l0_p at hq0
        exact evSxR13_2
  · unfold bodyOf Tryz.f11
    try unfold ref22_Need
    simp only [go_sem, Nat.reduceBEq, Nat.reduceLeDiff, Nat.reduceLT, decide_true, Nat.reduceAdd, Nat.reduceSub, Nat.reduceMul, Int.reduceLE, Int.reduceLT, Int.reduceToNat, Int.reduceNeg, reduceCtorEq, Sum.forall]
    all_goals exact cl
end Go.Sx
end
section
namespace Go.Sx
open Go.Proofs
set_option maxRecDepth 100000
set_option linter.unusedSimpArgs false
def ref22_valid (d : District) (x : Order) : Bool := (bif (((((decide (x.hour < 0)) || (decide (x.hour ≥ d.hours))) || (decide (x.litres < 1))) || (decide (x.litres > 1073741824))) || (decide (x.index < 0))) then false else (bif x.outlet then (decide (x.index < (d.farms.length : Int))) else (decide (x.index < (d.reaches.length : Int)))))
@[go_sem] def C_ref22_valid : List SV → Option Con := (pD .district fun d => (pD .order fun x => (pE (.det True (.v (.bool (ref22_valid d x)))))))
def ref22_Before (a : Order) (b : Order) : Bool := (bif (a.hour != b.hour) then (decide (a.hour < b.hour)) else (bif (a.outlet != b.outlet) then b.outlet else (decide (a.index < b.index))))
@[go_sem] def C_ref22_Before : List SV → Option Con := (pD .order fun a => (pD .order fun b => (pE (.det True (.v (.bool (ref22_Before a b)))))))
@[go_sem] def ref22_Check_l0 (d : District) (l_ : List Order) (k_0 : Nat) (s_0 : Unit) : Unit ⊕ Unit := (bif ((!(ref22_valid d (l_.getD k_0 (default : Order)))) || ((decide ((k_0 : Int) > 0)) && (!(ref22_Before (l_.getD (Int.toNat (IntKind.i64.wrap ((k_0 : Int) - 1))) (default : Order)) (l_.getD k_0 (default : Order)))))) then .inl () else .inr ())
def ref22_Check_l0_p (d : District) (l_ : List Order) (k_0 : Nat) (s_0 : Unit) : Prop := (l_.length ≤ maxL → ((!(ref22_valid d (l_.getD k_0 (default : Order)))) = false → ((decide ((k_0 : Int) > 0)) = true → (0 ≤ (IntKind.i64.wrap ((k_0 : Int) - 1)) ∧ (IntKind.i64.wrap ((k_0 : Int) - 1)) < (l_.length : Int)))))
def ref22_Check (d : District) (l_ : List Order) : Int := (bif ((ref19_Check d) != 0) then (ref19_Check d) else (bif (decide ((l_.length : Int) > 4096)) then 2 else (match runI (ref22_Check_l0 d l_) l_.length 0 () with | .inl x_0_0 => 220 | .inr s_0 => 0)))
def ref22_Check_p (d : District) (l_ : List Order) : Prop := ((ref19_Check_p d) ∧ (((ref19_Check d) != 0) = false → (l_.length ≤ maxL → ((decide ((l_.length : Int) > 4096)) = false → okI (ref22_Check_l0 d l_) (ref22_Check_l0_p d l_) l_.length 0 ()))))
@[go_sem] def C_ref22_Check : List SV → Option Con := (pD .district fun d => (pR .order fun l_ => (pE (.det (ref22_Check_p d l_) (.v (.int .i64 (ref22_Check d l_)))))))
def ref22_Wide (d : District) : Bool := (decide ((IntKind.i64.wrap ((d.reaches.length : Int) * d.hours)) > 1024))
@[go_sem] def C_ref22_Wide : List SV → Option Con := (pD .district fun d => (pE (.det True (.v (.bool (ref22_Wide d))))))
@[go_sem] def ref22_Demands_l0 (d : District) (l_ : List Order) (reach : Int) (k_0 : Nat) (s_0 : List Int) : Empty ⊕ (List Int) := (bif ((l_.getD k_0 (default : Order)).outlet && ((d.farms.getD (Int.toNat ((l_.getD k_0 (default : Order)).index)) (default : Farm)).reach == reach)) then .inr (s_0.set (Int.toNat ((l_.getD k_0 (default : Order)).hour)) (IntKind.i64.wrap ((s_0.getD (Int.toNat ((l_.getD k_0 (default : Order)).hour)) (0 : Int)) + (l_.getD k_0 (default : Order)).litres))) else .inr s_0)
def ref22_Demands_l0_p (d : District) (l_ : List Order) (reach : Int) (k_0 : Nat) (s_0 : List Int) : Prop := (l_.length ≤ maxL → (((l_.getD k_0 (default : Order)).outlet = true → (0 ≤ (l_.getD k_0 (default : Order)).index ∧ (l_.getD k_0 (default : Order)).index < (d.farms.length : Int))) ∧ (((l_.getD k_0 (default : Order)).outlet && ((d.farms.getD (Int.toNat ((l_.getD k_0 (default : Order)).index)) (default : Farm)).reach == reach)) = true → ((0 ≤ (l_.getD k_0 (default : Order)).hour ∧ (l_.getD k_0 (default : Order)).hour < (s_0.length : Int)) ∧ (0 ≤ (l_.getD k_0 (default : Order)).hour ∧ (l_.getD k_0 (default : Order)).hour < (s_0.length : Int))))))
def ref22_Demands (d : District) (l_ : List Order) (reach : Int) : List Int := (match runI (ref22_Demands_l0 d l_ reach) l_.length 0 (List.replicate (Int.toNat d.hours) (0 : Int)) with | .inl x => x.elim | .inr s_0 => s_0)
def ref22_Demands_p (d : District) (l_ : List Order) (reach : Int) : Prop := ((d.hours = d.hours ∧ 0 ≤ d.hours ∧ d.hours * ((8 : Nat) : Int) ≤ ((maxB : Nat) : Int)) ∧ (d.hours ≤ ((maxL : Nat) : Int) → okI (ref22_Demands_l0 d l_ reach) (ref22_Demands_l0_p d l_ reach) l_.length 0 (List.replicate (Int.toNat d.hours) (0 : Int))))
@[go_sem] def C_ref22_Demands : List SV → Option Con := (pD .district fun d => (pR .order fun l_ => (pI fun reach => (pE (.det (ref22_Demands_p d l_ reach) (.nw .int (ref22_Demands d l_ reach)))))))
@[go_sem] def ref22_Put_l0 (l_ : List Order) (x : Order) (k_0 : Nat) (s_0 : Int) : Int ⊕ Int := (bif ((decide (s_0 < (l_.length : Int))) && (ref22_Before (l_.getD (Int.toNat s_0) (default : Order)) x)) then .inr (IntKind.i64.wrap (s_0 + 1)) else .inl s_0)
def ref22_Put_l0_p (l_ : List Order) (x : Order) (k_0 : Nat) (s_0 : Int) : Prop := (l_.length ≤ maxL → ((decide (s_0 < (l_.length : Int))) = true → (0 ≤ s_0 ∧ s_0 < (l_.length : Int))))
def ref22_Put (l_ : List Order) (x : Order) : List Order := (match runI (ref22_Put_l0 l_ x) (l_.length + 1) 0 0 with | .inl x_0_0 => (((([]) ++ ((l_.take (Int.toNat x_0_0)).drop 0)) ++ ([x])) ++ ((l_.take (Int.toNat (l_.length : Int))).drop (Int.toNat x_0_0))) | .inr s_0 => default)
def ref22_Put_p (l_ : List Order) (x : Order) : Prop := (okI (ref22_Put_l0 l_ x) (ref22_Put_l0_p l_ x) (l_.length + 1) 0 0 ∧ (∀ z_, runI (ref22_Put_l0 l_ x) (l_.length + 1) 0 0 ≠ .inr z_) ∧ (∀ x_0_0, runI (ref22_Put_l0 l_ x) (l_.length + 1) 0 0 = .inl x_0_0 → ((0 ≤ 0 ∧ 0 ≤ x_0_0 ∧ x_0_0 ≤ (l_.length : Int)) ∧ (((([]) ++ ((l_.take (Int.toNat x_0_0)).drop 0)).length * 32 ≤ maxB) ∧ ((([]) ++ ((l_.take (Int.toNat x_0_0)).drop 0)).length ≤ maxL → ((((([]) ++ ((l_.take (Int.toNat x_0_0)).drop 0)) ++ ([x])).length * 32 ≤ maxB) ∧ (((([]) ++ ((l_.take (Int.toNat x_0_0)).drop 0)) ++ ([x])).length ≤ maxL → ((0 ≤ x_0_0 ∧ x_0_0 ≤ (l_.length : Int) ∧ (l_.length : Int) ≤ (l_.length : Int)) ∧ ((((([]) ++ ((l_.take (Int.toNat x_0_0)).drop 0)) ++ ([x])) ++ ((l_.take (Int.toNat (l_.length : Int))).drop (Int.toNat x_0_0))).length * 32 ≤ maxB)))))))))
@[go_sem] def C_ref22_Put : List SV → Option Con := (pR .order fun l_ => (pD .order fun x => (pE (.det (ref22_Put_p l_ x) (.nw .order (ref22_Put l_ x))))))
end Go.Sx
end
section
namespace Go.Sx
open Go.Proofs
theorem rising_mk3 {a b c : Int} (h1 : a ≤ b) (h2 : b ≤ c) : expand_rising [a, b, c] = true := by
  have e : runI (expand_rising_l0 [a, b, c]) 2 0 () = .inr () := unit_iff.2 fun j hj => by
    rcases (by omega : j = 0 ∨ j = 1) with rfl | rfl
    · simp [expand_rising_l0, IntKind.wrap, IntKind.bits, IntKind.signed, Bool.cond_eq_ite]; omega
    · simp [expand_rising_l0, IntKind.wrap, IntKind.bits, IntKind.signed, Bool.cond_eq_ite]; omega
  unfold expand_rising
  simp only [List.length_cons, List.length_nil, Nat.zero_add, Nat.reduceAdd, Nat.reduceSub, e]
theorem rising_mk4 {a b c d : Int} (h1 : a ≤ b) (h2 : b ≤ c) (h3 : c ≤ d) : expand_rising [a, b, c, d] = true := by
  have e : runI (expand_rising_l0 [a, b, c, d]) 3 0 () = .inr () := unit_iff.2 fun j hj => by
    rcases (by omega : j = 0 ∨ j = 1 ∨ j = 2) with rfl | rfl | rfl
    · simp [expand_rising_l0, IntKind.wrap, IntKind.bits, IntKind.signed, Bool.cond_eq_ite]; omega
    · simp [expand_rising_l0, IntKind.wrap, IntKind.bits, IntKind.signed, Bool.cond_eq_ite]; omega
    · simp [expand_rising_l0, IntKind.wrap, IntKind.bits, IntKind.signed, Bool.cond_eq_ite]; omega
  unfold expand_rising
  simp only [List.length_cons, List.length_nil, Nat.zero_add, Nat.reduceAdd, Nat.reduceSub, e]
theorem check_split (d : District) : expand_Check d = 0 ↔ (d.reaches.length ≤ 64 ∧ d.farms.length ≤ 600 ∧ d.crops.length ≤ 32 ∧ d.rights.length ≤ 256 ∧ d.duties.length ≤ 256) ∧ (1 ≤ d.hours ∧ d.hours ≤ 4096) ∧ (0 ≤ d.tank.start ∧ d.tank.start ≤ d.tank.cap ∧ d.tank.cap ≤ 1099511627776) ∧ 0 < d.reaches.length ∧
    (∀ k, k < d.reaches.length → expand_examine_l0 d 191 k () = .inr ()) ∧ (∀ k, k < d.crops.length → expand_examine_l1 d 191 k () = .inr ()) ∧ (∀ k, k < d.farms.length → expand_examine_l2 d 191 k () = .inr ()) ∧ (∀ k, k < d.rights.length → expand_examine_l3 d 191 k () = .inr ()) ∧ (∀ k, k < d.duties.length → expand_examine_l4 d 191 k () = .inr ()) := by
  have hx : expand_examine_ok d 191 = true ↔ (1 ≤ d.hours ∧ d.hours ≤ 4096) ∧ (0 ≤ d.tank.start ∧ d.tank.start ≤ d.tank.cap ∧ d.tank.cap ≤ 1099511627776) ∧ 0 < d.reaches.length ∧
    (∀ k, k < d.reaches.length → expand_examine_l0 d 191 k () = .inr ()) ∧ (∀ k, k < d.crops.length → expand_examine_l1 d 191 k () = .inr ()) ∧ (∀ k, k < d.farms.length → expand_examine_l2 d 191 k () = .inr ()) ∧ (∀ k, k < d.rights.length → expand_examine_l3 d 191 k () = .inr ()) ∧ (∀ k, k < d.duties.length → expand_examine_l4 d 191 k () = .inr ()) := by
    unfold expand_examine_ok
    simp only [demand_t]
    cases h3 : (expand_rising [1, d.hours, 4096] && expand_rising [0, d.tank.start, d.tank.cap, 1099511627776] && decide ((d.reaches.length : Int) > 0)) with
    | false =>
      simp only [cond_false, Bool.false_eq_true, false_iff]
      rintro ⟨⟨a1, a2⟩, ⟨a3, a4, a5⟩, a6, _⟩
      rw [rising_mk3 a1 a2, rising_mk4 a3 a4 a5, decide_eq_true (by omega : (d.reaches.length : Int) > 0)] at h3
      cases h3
    | true =>
      simp only [Bool.and_eq_true, decide_eq_true_eq] at h3
      have b1 := rising3 h3.1.1
      have b2 := rising4 h3.1.2
      have b3 := h3.2
      simp only [cond_true]
      rw [← unit_iff, ← unit_iff, ← unit_iff, ← unit_iff, ← unit_iff]
      repeat' split
      all_goals (rename_i e; first | simp_all; done | skip)
      all_goals simp_all
      all_goals omega
  unfold expand_Check
  simp only [demand_t]
  rw [← hx]
  cases h1 : (((((decide ((d.reaches.length : Int) ≤ 64)) && (decide ((d.farms.length : Int) ≤ 600))) && (decide ((d.crops.length : Int) ≤ 32))) && (decide ((d.rights.length : Int) ≤ 256))) && (decide ((d.duties.length : Int) ≤ 256))) with
  | false =>
    simp only [cond_false]
    simp only [Bool.and_eq_false_iff, decide_eq_false_iff_not] at h1
    omega
  | true =>
    simp only [Bool.and_eq_true, decide_eq_true_eq] at h1
    cases expand_examine_ok d 191 <;> simp <;> omega
theorem rems_gcd : ∀ (f n d : Nat), 1 ≤ d → d ≤ f → 1 ≤ n → ∀ x, (rems f n d).getLastD x = Nat.gcd n d
  | 0, n, d, h1, h2, _, x => by omega
  | f + 1, n, d, h1, h2, h3, x => by
    unfold rems
    have hm : max d 1 = d := by omega
    rw [if_neg (by omega), hm]
    by_cases h0 : n % d = 0
    · rw [if_pos h0]
      have : d ∣ n := Nat.dvd_of_mod_eq_zero h0
      rw [Nat.gcd_eq_right this]
      rfl
    · rw [if_neg h0]
      have hlt : n % d < d := Nat.mod_lt _ (by omega)
      have ih := rems_gcd f d (n % d) (by omega) (by omega) (by omega) n
      have e : Nat.gcd n d = Nat.gcd d (n % d) := by rw [Nat.gcd_comm n d, Nat.gcd_rec d n, Nat.gcd_comm]
      rw [e, ← ih, List.getLastD_cons]
theorem divI_gcd {n d : Nat} (h : 1 ≤ d) : divI n d = Nat.gcd n d := by
  unfold divI
  rw [if_neg (by omega)]
  by_cases h0 : n = 0
  · subst h0
    cases d with
    | zero => omega
    | succ d => simp [rems]
  · exact rems_gcd d n d h (Nat.le_refl _) (by omega) d
theorem div_run (b0 : Int) : ∀ (n i : Nat) (a b : Int), 0 ≤ a → 0 ≤ b → b.toNat < n → runI (ref12_divisor_l0 b0) n i (a, b) = .inl ((Nat.gcd a.toNat b.toNat : Nat) : Int)
  | 0, _, _, _, _, _, h => by omega
  | n + 1, i, a, b, ha, hb, h => by
    simp only [runI, ref12_divisor_l0]
    by_cases h0 : b > 0
    · rw [decide_eq_true h0]
      simp only [cond_true]
      have e1 := Int.tmod_eq_emod_of_nonneg (b := b) ha
      have e2 := Int.emod_nonneg a (by omega : b ≠ 0)
      have e3 := Int.emod_lt_of_pos a h0
      rw [e1, div_run b0 n (i + 1) b (a % b) hb e2 (by omega)]
      have e4 : (a % b).toNat = a.toNat % b.toNat := by
        obtain ⟨x, rfl⟩ := Int.eq_ofNat_of_zero_le ha
        obtain ⟨y, rfl⟩ := Int.eq_ofNat_of_zero_le hb
        simp only [← Int.natCast_emod, Int.toNat_natCast]
      rw [e4, Nat.gcd_comm a.toNat b.toNat, Nat.gcd_rec b.toNat a.toNat, Nat.gcd_comm]
    · rw [decide_eq_false h0]
      have : b = 0 := by omega
      subst this
      simp only [cond_false, Int.toNat_zero, Nat.gcd_zero_right]
      rw [Int.toNat_of_nonneg ha]
theorem divisor_gcd {a b : Int} (ha : 0 ≤ a) (hb : 0 ≤ b) : ref12_divisor a b = ((Nat.gcd a.toNat b.toNat : Nat) : Int) := by
  unfold ref12_divisor
  rw [div_run b _ 0 a b ha hb (by omega)]
theorem divisor_p {a b : Int} (ha : 0 ≤ a) (hb : 0 ≤ b) : ref12_divisor_p a b := by
  refine ⟨okI_all _ _ _ fun j s _ _ h => ?_, fun z h => ?_⟩
  · simp only [decide_eq_true_eq] at h; omega
  · rw [div_run b _ 0 a b ha hb (by omega)] at h; cases h
theorem wrapU {n : Int} (h0 : 0 ≤ n) (h1 : n < 18446744073709551616) : IntKind.u64.wrap n = n := by
  simp only [IntKind.wrap, IntKind.bits, IntKind.signed]; simp; omega
theorem magnitude_abs {n : Int} (h0 : -1073741824 ≤ n) (h1 : n ≤ 1073741824) : ratio_magnitude n = (n.natAbs : Int) := by
  unfold ratio_magnitude
  by_cases h : n < 0
  · rw [decide_eq_true h]
    simp only [cond_true, IntKind.wrap, IntKind.bits, IntKind.signed]
    simp
    omega
  · rw [decide_eq_false h]
    simp only [cond_false]
    rw [wrapU (by omega) (by omega)]; omega
theorem size_abs {n : Int} (h0 : -1073741824 ≤ n) (h1 : n ≤ 1073741824) : ref12_size n = (n.natAbs : Int) := by
  unfold ref12_size
  by_cases h : n < 0
  · rw [decide_eq_true h]
    simp only [cond_true]
    rw [wrapI (by omega) (by omega)]; omega
  · rw [decide_eq_false h]
    simp only [cond_false]
    omega
structure RatioOk (a : Ratio) : Prop where
  d1 : 1 ≤ a.d
  d : a.d ≤ 1073741824
  n0 : -1073741824 ≤ a.n
  n : a.n ≤ 1073741824
  gcd : Nat.gcd a.n.natAbs a.d.toNat = 1
theorem ratio_iff (a : Ratio) : ratio_Check a = 0 ↔ RatioOk a := by
  unfold ratio_Check
  cases h : ((((decide (a.d < 1)) || (decide (a.d > 1073741824))) || (decide (a.n < (-1073741824)))) || (decide (a.n > 1073741824))) with
  | true =>
    simp only [Bool.true_or, cond_true]
    simp only [Bool.or_eq_true, decide_eq_true_eq] at h
    refine ⟨fun e => (by cases e), fun r => ?_⟩
    have := r.d1; have := r.d; have := r.n0; have := r.n
    omega
  | false =>
    simp only [Bool.or_eq_false_iff, decide_eq_false_iff_not] at h
    rw [magnitude_abs (by omega) (by omega), wrapU (by omega) (by omega), Int.toNat_natCast, divI_gcd (by omega)]
    simp only [Bool.false_or]
    by_cases hg : Nat.gcd a.n.natAbs a.d.toNat = 1
    · rw [hg]
      exact ⟨fun _ => ⟨by omega, by omega, by omega, by omega, hg⟩, fun _ => rfl⟩
    · have : ((Nat.gcd a.n.natAbs a.d.toNat : Nat) : Int) ≠ 1 := by omega
      rw [bne_iff_ne.2 this]
      exact ⟨fun e => (by cases e), fun r => absurd r.gcd hg⟩
theorem valid_iff (a : Ratio) : ref12_Valid a = true ↔ RatioOk a := by
  unfold ref12_Valid
  constructor
  · intro h
    simp only [Bool.and_eq_true, decide_eq_true_eq, beq_iff_eq] at h
    obtain ⟨⟨⟨⟨h1, h2⟩, h3⟩, h4⟩, h5⟩ := h
    rw [size_abs (by omega) (by omega), divisor_gcd (by omega) (by omega), Int.toNat_natCast] at h5
    exact ⟨h1, h2, h3, h4, by omega⟩
  · intro r
    have := r.d1; have := r.d; have := r.n0; have := r.n
    simp only [Bool.and_eq_true, decide_eq_true_eq, beq_iff_eq]
    rw [size_abs (by omega) (by omega), divisor_gcd (by omega) (by omega), Int.toNat_natCast, r.gcd]
    exact ⟨⟨⟨⟨by omega, by omega⟩, by omega⟩, by omega⟩, rfl⟩
theorem ratio_01 (a : Ratio) : ratio_Check a = 0 ∨ ratio_Check a = 120 := by
  unfold ratio_Check; rw [Bool.cond_eq_ite]; split <;> simp
theorem ratio_eq (a : Ratio) : ratio_Check a = ref12_Check a := by
  unfold ref12_Check
  cases h : ref12_Valid a with
  | true => exact (ratio_iff a).2 ((valid_iff a).1 h)
  | false =>
    have : ratio_Check a ≠ 0 := fun e => by
      have := (valid_iff a).2 ((ratio_iff a).1 e)
      rw [h] at this; cases this
    have := ratio_01 a
    simp only [Bool.not_false, cond_true]
    omega
theorem valid_eq (a : Ratio) : ref12_Valid a = (ratio_Check a == 0) := by
  cases h : ref12_Valid a with
  | true => rw [(ratio_iff a).2 ((valid_iff a).1 h)]; rfl
  | false =>
    have : ratio_Check a ≠ 0 := fun e => by
      have := (valid_iff a).2 ((ratio_iff a).1 e)
      rw [h] at this; cases this
    simp [this]
theorem cmp_eq (a b : Ratio) : ratio_Cmp a b = ref12_Cmp a b := by
  unfold ratio_Cmp ref12_Cmp ref12_Both ref12_Less
  rw [valid_eq, valid_eq, compare_neg]
  generalize IntKind.i64.wrap (a.n * b.d) = x
  generalize IntKind.i64.wrap (b.n * a.d) = y
  cases h1 : (ratio_Check a == 0) <;> cases h2 : (ratio_Check b == 0) <;> simp [bne, h1, h2, Bool.cond_eq_ite]
  split
  · rfl
  · split <;> rfl
theorem valid_p (a : Ratio) : ref12_Valid_p a := fun h => by
  simp only [Bool.and_eq_true, decide_eq_true_eq] at h
  rw [size_abs (by omega) (by omega)]
  exact divisor_p (by omega) (by omega)
theorem both_p (a b : Ratio) : ref12_Both_p a b := ⟨valid_p a, fun _ => valid_p b⟩
theorem rising3_b (a b c : Int) : expand_rising [a, b, c] = (decide (a ≤ b) && decide (b ≤ c)) := by
  cases h : expand_rising [a, b, c] with
  | true => have := rising3 h; simp [this.1, this.2]
  | false =>
    by_cases h1 : a ≤ b
    · by_cases h2 : b ≤ c
      · rw [rising_mk3 h1 h2] at h; cases h
      · simp [h2]
    · simp [h1]
theorem rising4_b (a b c d : Int) : expand_rising [a, b, c, d] = (decide (a ≤ b) && decide (b ≤ c) && decide (c ≤ d)) := by
  cases h : expand_rising [a, b, c, d] with
  | true => have := rising4 h; simp [this.1, this.2.1, this.2.2]
  | false =>
    by_cases h1 : a ≤ b
    · by_cases h2 : b ≤ c
      · by_cases h3 : c ≤ d
        · rw [rising_mk4 h1 h2 h3] at h; cases h
        · simp [h3]
      · simp [h2]
    · simp [h1]
theorem b_iff {a b : Bool} (h : a = true ↔ b = true) : a = b := by cases a <;> cases b <;> simp_all
theorem share_eq (x : Ratio × Ratio) : expand_share x = ref19_shares x := by
  unfold expand_share ref19_shares
  rw [cmp_eq, ← ratio_eq, ← ratio_eq]
  unfold ref12_Cmp ref12_Both
  rw [valid_eq, valid_eq]
  cases h1 : (ratio_Check x.1 == 0) <;> cases h2 : (ratio_Check x.2 == 0) <;> simp [bne, h1, h2, Bool.cond_eq_ite]
  repeat' split
  all_goals simp
theorem reachX (i : Int) (x : Reach) : expand_reach i x = true ↔ ((i > 0 ∧ 0 ≤ x.up ∧ x.up < i) ∨ (¬ i > 0 ∧ x.up = -1)) ∧ (1 ≤ x.delay ∧ x.delay ≤ 16) ∧ (0 ≤ x.siphon ∧ x.siphon ≤ x.cap ∧ x.cap ≤ 1073741824) ∧ (x.siphon ≤ x.bank ∧ x.bank ≤ 1099511627776) ∧ (0 ≤ x.evap.lo ∧ x.evap.lo ≤ x.evap.hi ∧ x.evap.hi ≤ 1073741824) ∧ ref19_shares x.seep = true := by
  unfold expand_reach expand_index
  rw [share_eq, rising3_b, rising4_b, rising4_b, rising4_b]
  generalize ref19_shares x.seep = q
  by_cases h : i > 0
  · rw [decide_eq_true h]
    simp only [cond_true, Bool.and_eq_true, decide_eq_true_eq]
    cases q <;> simp only [Bool.false_eq_true, and_false, and_true] <;> omega
  · rw [decide_eq_false h]
    simp only [cond_false, Bool.and_eq_true, decide_eq_true_eq, beq_iff_eq]
    cases q <;> simp only [Bool.false_eq_true, and_false, and_true] <;> omega
theorem ReachR (x : Reach) : ref19_Reach x = true ↔ (1 ≤ x.delay ∧ x.delay ≤ 16) ∧ (0 ≤ x.siphon ∧ x.siphon ≤ x.cap ∧ x.cap ≤ 1073741824) ∧ (x.siphon ≤ x.bank ∧ x.bank ≤ 1099511627776) ∧ (0 ≤ x.evap.lo ∧ x.evap.lo ≤ x.evap.hi ∧ x.evap.hi ≤ 1073741824) ∧ ref19_shares x.seep = true := by
  unfold ref19_Reach ref19_within
  generalize ref19_shares x.seep = q
  have hb : ∀ (A B : Bool) (q : Bool), (bif A then false else bif B then false else q) = true ↔ A = false ∧ B = false ∧ q = true := fun A B q => by cases A <;> cases B <;> simp
  rw [hb]
  simp only [Bool.or_eq_false_iff, Bool.not_eq_false', Bool.and_eq_true, decide_eq_true_eq, decide_eq_false_iff_not]
  by_cases h : x.bank < x.cap
  · rw [if_pos h]; cases q <;> simp only [Bool.false_eq_true, and_false, and_true] <;> omega
  · rw [if_neg h]; cases q <;> simp only [Bool.false_eq_true, and_false, and_true] <;> omega
theorem reach_step (l : List Reach) (k : Nat) (hk : k < 4096) : ref19_reaches_l0 l k () = .inr () ↔ expand_reach (k : Int) (l.getD k default) = true := by
  unfold ref19_reaches_l0 ref19_within
  rw [reachX]
  have hb : ∀ A B : Bool, ((bif A then Sum.inl () else bif B then Sum.inl () else Sum.inr ()) : Unit ⊕ Unit) = .inr () ↔ A = false ∧ B = false := fun A B => by cases A <;> cases B <;> simp
  rw [hb, Bool.not_eq_false', ReachR]
  generalize l.getD k default = x
  generalize ref19_shares x.seep = q
  by_cases h : 0 < k
  · rw [wrap_pred (by omega) h]
    simp only [Bool.or_eq_false_iff, Bool.and_eq_false_iff, Bool.not_eq_false', Bool.and_eq_true, decide_eq_true_eq, decide_eq_false_iff_not, beq_eq_false_iff_ne, bne_eq_false_iff_eq]
    cases q <;> simp only [Bool.false_eq_true, and_false, and_true] <;> omega
  · have : k = 0 := by omega
    subst this
    simp only [Bool.or_eq_false_iff, Bool.and_eq_false_iff, Bool.not_eq_false', Bool.and_eq_true, decide_eq_true_eq, decide_eq_false_iff_not, beq_eq_false_iff_ne, bne_eq_false_iff_eq]
    cases q <;> simp only [Bool.false_eq_true, and_false, and_true] <;> omega
theorem wlen {n : Nat} (h : n ≤ 4096) : IntKind.i64.wrap ((n : Int) - 1) = (n : Int) - 1 := wrapI (by omega) (by omega)
theorem ba_refl (x : ByteArray) : (x == x) = true := by
  cases x with
  | mk d =>
    show (d == d) = true
    simp
theorem right_eq (d : District) (x : Right) (h1 : d.farms.length ≤ 600) (h2 : d.reaches.length ≤ 64) (h3 : 1 ≤ d.hours) (h4 : d.hours ≤ 4096) : expand_right d x = ref19_right d x := by
  unfold expand_right ref19_right expand_index ref19_within
  rw [rising4_b, rising3_b, rising3_b, rising4_b, wlen (by omega), wlen (by omega), wrapI (by omega : -9223372036854775808 ≤ d.hours - 1) (by omega)]
  rw [ba_refl]
  refine b_iff ?_
  have hb : ∀ (A q : Bool), (bif A then false else q) = true ↔ A = false ∧ q = true := fun A q => by cases A <;> simp
  rw [hb, hb]
  have hc : ∀ (k1 k2 k3 a b c : Bool), (bif k1 then a else bif k2 then b else bif k3 then c else false) = true ↔ (k1 = true ∧ a = true) ∨ (k1 = false ∧ k2 = true ∧ b = true) ∨ (k1 = false ∧ k2 = false ∧ k3 = true ∧ c = true) := fun k1 k2 k3 a b c => by cases k1 <;> cases k2 <;> cases k3 <;> simp
  rw [hc, hc]
  simp only [Bool.or_eq_false_iff, Bool.and_eq_true, Bool.not_eq_false', decide_eq_true_eq, decide_eq_false_iff_not, beq_iff_eq, beq_eq_false_iff_ne, and_true, true_and]
  omega
theorem ux (A : Bool) : ((bif A then Sum.inr () else Sum.inl ()) : Unit ⊕ Unit) = .inr () ↔ A = true := by cases A <;> simp
theorem uy (A : Bool) : ((bif A then Sum.inl () else Sum.inr ()) : Unit ⊕ Unit) = .inr () ↔ A = false := by cases A <;> simp
theorem crop_step (d : District) (k : Nat) : ref19_farms_l0 d k () = .inr () ↔ expand_examine_l1 d 191 k () = .inr () := by
  unfold ref19_farms_l0 expand_examine_l1 ref19_within
  rw [demand_t, uy, ux, rising3_b]
  simp only [Bool.not_eq_false', Bool.and_eq_true, decide_eq_true_eq, ge_iff_le]
theorem farm_step (d : District) (k : Nat) (h1 : d.reaches.length ≤ 64) (h2 : d.crops.length ≤ 32) : ref19_farms_l1 d k () = .inr () ↔ expand_examine_l2 d 191 k () = .inr () := by
  unfold ref19_farms_l1 expand_examine_l2 ref19_within expand_index
  simp only [demand_t]
  rw [rising3_b, wlen (by omega), wlen (by omega)]
  generalize d.farms.getD k default = x
  have hb : ∀ A B : Bool, ((bif A then Sum.inl () else bif B then Sum.inl () else Sum.inr ()) : Unit ⊕ Unit) = .inr () ↔ A = false ∧ B = false := fun A B => by cases A <;> cases B <;> simp
  rw [hb]
  by_cases h : x.area > 0
  · rw [decide_eq_true h]
    simp only [Bool.true_and, Bool.false_and, Bool.or_false, cond_true, ux, Bool.or_eq_false_iff, Bool.and_eq_false_iff, Bool.not_eq_false', Bool.and_eq_true, decide_eq_true_eq, decide_eq_false_iff_not, beq_eq_false_iff_ne, bne_eq_false_iff_eq]
    omega
  · rw [decide_eq_false h]
    simp only [Bool.true_and, Bool.false_and, Bool.or_false, cond_false, ux, Bool.or_eq_false_iff, Bool.and_eq_false_iff, Bool.not_eq_false', Bool.and_eq_true, decide_eq_true_eq, decide_eq_false_iff_not, beq_eq_false_iff_ne, bne_eq_false_iff_eq, beq_iff_eq]
    omega
theorem duty_step (d : District) (k : Nat) (h1 : d.reaches.length ≤ 64) (h2 : d.farms.length ≤ 600) : ref19_valid_l1 d k () = .inr () ↔ expand_examine_l4 d 191 k () = .inr () := by
  unfold ref19_valid_l1 expand_examine_l4 ref19_within expand_index
  simp only [demand_t]
  rw [rising3_b, wlen (by omega), wlen (by omega), ux, uy]
  simp only [Bool.or_eq_false_iff, Bool.not_eq_false', Bool.and_eq_true, decide_eq_true_eq]
  omega
theorem rights_step (d : District) (k : Nat) (h1 : d.farms.length ≤ 600) (h2 : d.reaches.length ≤ 64) (h3 : 1 ≤ d.hours) (h4 : d.hours ≤ 4096) : ref19_valid_l0 d k () = .inr () ↔ expand_examine_l3 d 191 k () = .inr () := by
  unfold ref19_valid_l0 expand_examine_l3
  rw [demand_t, right_eq d _ h1 h2 h3 h4, ux, uy, Bool.not_eq_false']
theorem m1 {r : Unit ⊕ Unit} {a b : Bool} : (match r with | .inl _ => a | .inr _ => b) = true ↔ (r = .inr () ∧ b = true) ∨ ((∃ y, r = .inl y) ∧ a = true) := by
  cases r with
  | inl y => simp
  | inr y => simp
theorem valid_iff19 (d : District) (h1 : d.reaches.length ≤ 64) (h2 : d.farms.length ≤ 600) (h3 : d.crops.length ≤ 32) : ref19_valid d = true ↔ (1 ≤ d.hours ∧ d.hours ≤ 4096) ∧ (0 ≤ d.tank.start ∧ d.tank.start ≤ d.tank.cap ∧ d.tank.cap ≤ 1099511627776) ∧ 0 < d.reaches.length ∧
    (∀ k, k < d.reaches.length → expand_examine_l0 d 191 k () = .inr ()) ∧ (∀ k, k < d.crops.length → expand_examine_l1 d 191 k () = .inr ()) ∧ (∀ k, k < d.farms.length → expand_examine_l2 d 191 k () = .inr ()) ∧ (∀ k, k < d.rights.length → expand_examine_l3 d 191 k () = .inr ()) ∧ (∀ k, k < d.duties.length → expand_examine_l4 d 191 k () = .inr ()) := by
  have hR : ref19_reaches d.reaches = true ↔ (∀ k, k < d.reaches.length → expand_examine_l0 d 191 k () = .inr ()) ∧ 0 < d.reaches.length := by
    unfold ref19_reaches
    refine Iff.trans (m1 (r := runI (ref19_reaches_l0 d.reaches) d.reaches.length 0 ()) (a := false) (b := decide ((d.reaches.length : Int) > 0))) ?_
    simp only [Bool.false_eq_true, and_false, or_false, decide_eq_true_eq]
    rw [unit_iff]
    refine and_congr ⟨fun h k hk => ?_, fun h k hk => ?_⟩ (by omega)
    · unfold expand_examine_l0
      rw [demand_t, ux]
      exact (reach_step _ k (by omega)).1 (h k hk)
    · have := h k hk
      unfold expand_examine_l0 at this
      rw [demand_t, ux] at this
      exact (reach_step _ k (by omega)).2 this
  have hF : ref19_farms d = true ↔ (∀ k, k < d.crops.length → expand_examine_l1 d 191 k () = .inr ()) ∧ (∀ k, k < d.farms.length → expand_examine_l2 d 191 k () = .inr ()) := by
    unfold ref19_farms
    refine Iff.trans (m1 (r := runI (ref19_farms_l0 d) d.crops.length 0 ()) (a := false) (b := match runI (ref19_farms_l1 d) d.farms.length 0 () with | .inl _ => false | .inr _ => true)) ?_
    simp only [Bool.false_eq_true, and_false, or_false]
    rw [unit_iff]
    refine Iff.trans (and_congr_right fun _ => m1) ?_
    simp only [Bool.false_eq_true, and_false, or_false, and_true]
    rw [unit_iff]
    exact and_congr ⟨fun h k hk => (crop_step d k).1 (h k hk), fun h k hk => (crop_step d k).2 (h k hk)⟩ ⟨fun h k hk => (farm_step d k h1 h3).1 (h k hk), fun h k hk => (farm_step d k h1 h3).2 (h k hk)⟩
  unfold ref19_valid
  have hb : ∀ A B q : Bool, (bif A then false else bif B then false else q) = true ↔ A = false ∧ B = false ∧ q = true := fun A B q => by cases A <;> cases B <;> simp
  rw [hb]
  refine Iff.trans (and_congr_right fun _ => and_congr_right fun _ => Iff.trans (m1 (r := runI (ref19_valid_l0 d) d.rights.length 0 ()) (a := false) (b := match runI (ref19_valid_l1 d) d.duties.length 0 () with | .inl _ => false | .inr _ => true)) (or_congr_left (and_congr_right fun _ => m1))) ?_
  simp only [Bool.false_eq_true, and_false, or_false, and_true]
  rw [unit_iff, unit_iff]
  simp only [Bool.or_eq_false_iff, Bool.not_eq_false', hR, hF, ref19_within, Bool.and_eq_true, decide_eq_true_eq, decide_eq_false_iff_not]
  constructor
  · rintro ⟨⟨⟨a1, a2⟩, a3⟩, ⟨⟨b1, b2⟩, b3, b4⟩, b5, b6⟩
    refine ⟨by omega, by omega, b2, b1, b3, b4, fun k hk => (rights_step d k h2 h1 (by omega) (by omega)).1 (b5 k hk), fun k hk => (duty_step d k h1 h2).1 (b6 k hk)⟩
  · rintro ⟨a1, a2, a3, b1, b2, b3, b4, b5⟩
    refine ⟨⟨⟨by omega, by omega⟩, by omega⟩, ⟨⟨b1, a3⟩, b2, b3⟩, fun k hk => (rights_step d k h2 h1 (by omega) (by omega)).2 (b4 k hk), fun k hk => (duty_step d k h1 h2).2 (b5 k hk)⟩
theorem check_eq (d : District) : expand_Check d = ref19_Check d := by
  have hs := check_split d
  unfold ref19_Check
  by_cases hl : d.reaches.length ≤ 64 ∧ d.farms.length ≤ 600 ∧ d.crops.length ≤ 32 ∧ d.rights.length ≤ 256 ∧ d.duties.length ≤ 256
  · have e1 : (((((decide ((d.reaches.length : Int) > 64)) || (decide ((d.farms.length : Int) > 600))) || (decide ((d.crops.length : Int) > 32))) || (decide ((d.rights.length : Int) > 256))) || (decide ((d.duties.length : Int) > 256))) = false := by
      simp only [Bool.or_eq_false_iff, decide_eq_false_iff_not]; omega
    rw [e1]
    simp only [cond_false]
    have hv := valid_iff19 d hl.1 hl.2.1 hl.2.2.1
    cases h : ref19_valid d with
    | true => exact hs.2 ⟨hl, hv.1 h⟩
    | false =>
      have h0 : expand_Check d ≠ 0 := fun e => by
        have := hv.2 (hs.1 e).2
        rw [h] at this; cases this
      unfold expand_Check at h0 ⊢
      simp only [demand_t] at h0 ⊢
      have e2 : (((((decide ((d.reaches.length : Int) ≤ 64)) && (decide ((d.farms.length : Int) ≤ 600))) && (decide ((d.crops.length : Int) ≤ 32))) && (decide ((d.rights.length : Int) ≤ 256))) && (decide ((d.duties.length : Int) ≤ 256))) = true := by
        simp only [Bool.and_eq_true, decide_eq_true_eq]; omega
      rw [e2] at h0 ⊢
      simp only [cond_true] at h0 ⊢
      cases hx : expand_examine_ok d 191 with
      | true => rw [hx] at h0; simp at h0
      | false => rfl
  · have e1 : (((((decide ((d.reaches.length : Int) > 64)) || (decide ((d.farms.length : Int) > 600))) || (decide ((d.crops.length : Int) > 32))) || (decide ((d.rights.length : Int) > 256))) || (decide ((d.duties.length : Int) > 256))) = true := by
      simp only [Bool.or_eq_true, decide_eq_true_eq]; omega
    rw [e1]
    unfold expand_Check
    simp only [demand_t]
    have e2 : (((((decide ((d.reaches.length : Int) ≤ 64)) && (decide ((d.farms.length : Int) ≤ 600))) && (decide ((d.crops.length : Int) ≤ 32))) && (decide ((d.rights.length : Int) ≤ 256))) && (decide ((d.duties.length : Int) ≤ 256))) = false := by
      simp only [Bool.and_eq_false_iff, decide_eq_false_iff_not]; omega
    rw [e2]
    rfl
theorem shares_p (x : Ratio × Ratio) : ref19_shares_p x := ⟨valid_p _, fun _ => valid_p _, fun _ => both_p _ _⟩
theorem Reach_p (x : Reach) : ref19_Reach_p x := fun _ _ => shares_p _
theorem valid19_p (d : District) : ref19_valid_p d := fun _ => okI_all _ _ _ fun _ _ _ _ _ _ => Reach_p _
theorem check19_p (d : District) : ref19_Check_p d := fun _ _ => valid19_p d
theorem ediv_uniq {a d p : Int} (hd : 0 < d) (h1 : d * p ≤ a) (h2 : a < d * p + d) : a / d = p := by
  have h3 := Int.mul_ediv_add_emod a d
  have h4 := Int.emod_nonneg a (by omega : d ≠ 0)
  have h5 := Int.emod_lt_of_pos a hd
  rcases Int.lt_trichotomy (a / d) p with h | h | h
  · have := Int.mul_le_mul_of_nonneg_left (by omega : a / d + 1 ≤ p) (by omega : 0 ≤ d)
    rw [Int.mul_add, Int.mul_one] at this
    omega
  · exact h
  · have := Int.mul_le_mul_of_nonneg_left (by omega : p + 1 ≤ a / d) (by omega : 0 ≤ d)
    rw [Int.mul_add, Int.mul_one] at this
    omega
theorem up_eq {a b : Int} (hb : 1 ≤ b) (hb2 : b ≤ 1073741824) (h1 : 0 ≤ a) (h2 : a ≤ 1152921504606846976) : ref21_up a b = -((-a) / b) := by
  unfold ref21_up
  rw [wrapI (by omega : -9223372036854775808 ≤ a + b) (by omega), wrapI (by omega : -9223372036854775808 ≤ a + b - 1) (by omega), Int.tdiv_eq_ediv_of_nonneg (by omega)]
  have h3 := Int.mul_ediv_add_emod (-a) b
  have h4 := Int.emod_nonneg (-a) (by omega : b ≠ 0)
  have h5 := Int.emod_lt_of_pos (-a) (by omega : 0 < b)
  have e : (a + b - 1) / b = -((-a) / b) := ediv_uniq (by omega) (by rw [Int.mul_neg]; omega) (by rw [Int.mul_neg]; omega)
  rw [e]
  have c1 : -((-a) / b) ≤ 1152921504606846976 := by
    have : -1152921504606846976 ≤ (-a) / b := by
      rw [Int.le_ediv_iff_mul_le (by omega)]
      have := Int.mul_le_mul_of_nonneg_left (by omega : 1 ≤ b) (by omega : (0 : Int) ≤ 1152921504606846976)
      omega
    omega
  have c2 : (-a) / b ≤ 0 := by
    have := Int.ediv_le_ediv (by omega : 0 < b) (by omega : -a ≤ 0)
    simpa using this
  exact wrapI (by omega) (by omega)
theorem lshares_eq (x : Ratio × Ratio) : losses_shares x = ref21_shares x := by
  unfold losses_shares ref21_shares ref21_share losses_share losses_in
  rw [cmp_eq]
  unfold ref12_Cmp ref12_Both
  rw [valid_eq, valid_eq]
  cases h1 : (ratio_Check x.1 == 0) <;> cases h2 : (ratio_Check x.2 == 0) <;> simp [h1, h2]
  cases h3 : ref12_Less x.1 x.2 <;> cases h4 : ref12_Less x.2 x.1 <;> simp
  all_goals (try (by_cases q1 : 0 ≤ x.1.n <;> by_cases q2 : x.1.n ≤ x.1.d <;> by_cases q3 : 0 ≤ x.2.n <;> by_cases q4 : x.2.n ≤ x.2.d <;> simp [q1, q2, q3, q4]))
  all_goals (unfold ref12_Less at h3 h4; simp only [decide_eq_true_eq] at h3 h4; omega)
structure Share (a : Ratio) : Prop where
  ok : RatioOk a
  n0 : 0 ≤ a.n
  nd : a.n ≤ a.d
theorem share_iff (a : Ratio) : ref21_share a = true ↔ Share a := by
  unfold ref21_share
  simp only [Bool.and_eq_true, decide_eq_true_eq, valid_iff]
  exact ⟨fun h => ⟨h.1.1, h.1.2, h.2⟩, fun h => ⟨⟨h.ok, h.n0⟩, h.nd⟩⟩
theorem mul_bound {a b : Int} (h0 : 0 ≤ a) (h1 : a ≤ 1073741824) (h2 : 0 ≤ b) (h3 : b ≤ 1073741824) : 0 ≤ a * b ∧ a * b ≤ 1152921504606846976 := by
  refine ⟨Int.mul_nonneg h0 h2, ?_⟩
  have := Int.mul_le_mul h1 h3 h2 (by omega : (0 : Int) ≤ 1073741824)
  omega
theorem times_hi {a : Ratio} (h : Share a) {v : Int} (h0 : 0 ≤ v) (h1 : v ≤ 1073741824) : (ratio_Times a v).2.1 = ref21_up (IntKind.i64.wrap (v * a.n)) a.d := by
  have r := h.ok
  have hr := (ratio_iff a).2 r
  have := r.d1; have := r.d; have := r.n; have := h.n0; have := h.nd
  have hm := mul_bound h.n0 r.n h0 h1
  unfold ratio_Times
  have e1 : (decide (v < (-1073741824)) || decide (v > 1073741824)) = false := by simp only [Bool.or_eq_false_iff, decide_eq_false_iff_not]; omega
  rw [hr, e1]
  simp only [bne_self_eq_false, cond_false]
  rw [wrapI (by omega : -9223372036854775808 ≤ 0 - a.n) (by omega)]
  have e2 : (0 - a.n) * v = -(a.n * v) := by rw [Int.sub_mul]; omega
  rw [e2, wrapI (by omega : -9223372036854775808 ≤ -(a.n * v)) (by omega), Int.mul_comm v a.n, wrapI (by omega : -9223372036854775808 ≤ a.n * v) (by omega)]
  rw [down_eq r.d1 r.d (by omega) (by omega), up_eq r.d1 r.d hm.1 hm.2]
  have c1 : -1152921504606846976 ≤ -(a.n * v) / a.d := by
    rw [Int.le_ediv_iff_mul_le (by omega)]
    have := Int.mul_le_mul_of_nonneg_left (by omega : 1 ≤ a.d) (by omega : (0 : Int) ≤ 1152921504606846976)
    omega
  have c2 : -(a.n * v) / a.d ≤ 0 := by
    have := Int.ediv_le_ediv (by omega : 0 < a.d) (by omega : -(a.n * v) ≤ 0)
    simpa using this
  rw [wrapI (by omega) (by omega)]; omega
theorem worst_eq (r : Reach) (v : Int) : losses_Worst r v = ref21_Worst r v := by
  unfold losses_Worst ref21_Worst ref21_Lost losses_valid ref21_Right
  have hw : losses_ordered r.evap 1073741824 = ref21_within r.evap 1073741824 := rfl
  rw [hw, lshares_eq]
  cases h1 : ref21_within r.evap 1073741824 with
  | false => rfl
  | true =>
    cases h2 : ref21_shares r.seep with
    | false => rfl
    | true =>
      simp only [Bool.not_true, Bool.or_self, Bool.and_self, cond_false]
      unfold losses_in
      by_cases h3 : 0 ≤ v ∧ v ≤ 1073741824
      · have e1 : (decide (v ≥ 0) && decide (v ≤ 1073741824)) = true := by simp only [Bool.and_eq_true, decide_eq_true_eq]; omega
        have e2 : (decide (v < 0) || decide (v > 1073741824)) = false := by simp only [Bool.or_eq_false_iff, decide_eq_false_iff_not]; omega
        rw [e1, e2]
        simp only [Bool.not_true, cond_false, bne_self_eq_false]
        unfold losses_lost ref21_lost
        cases h4 : (v == 0) with
        | true => rfl
        | false =>
          simp only [cond_false]
          unfold ref21_shares at h2
          simp only [Bool.and_eq_true] at h2
          rw [times_hi ((share_iff _).1 h2.1.2) h3.1 h3.2]
      · have e1 : (decide (v ≥ 0) && decide (v ≤ 1073741824)) = false := by simp only [Bool.and_eq_false_iff, decide_eq_false_iff_not]; omega
        have e2 : (decide (v < 0) || decide (v > 1073741824)) = true := by simp only [Bool.or_eq_true, decide_eq_true_eq]; omega
        rw [e1, e2]
        rfl
theorem worst_p (r : Reach) (v : Int) : ref21_Worst_p r v := by
  refine ⟨fun _ => ⟨valid_p _, fun _ => valid_p _⟩, fun h1 _ _ => ?_⟩
  unfold ref21_Right ref21_shares at h1
  simp only [Bool.not_eq_false', Bool.and_eq_true] at h1
  have a := ((share_iff _).1 h1.2.1.1).ok.d1
  have b := ((share_iff _).1 h1.2.1.2).ok.d1
  exact ⟨by omega, by unfold ref21_up_p; omega⟩
end Go.Sx
end
section
namespace Go.Sx
open Go.Proofs
set_option maxRecDepth 100000
set_option linter.unusedSimpArgs false
def law22_RoutingSpec (a0 : District) (a1 : Int) (a2 : Int) (a3 : Int) : Bool := (bif (!law22_sane) then false else (bif (!(ref22_Few a0 ([]))) then true else ((((((routing_Worst a0 a1 a2).1 == (ref22_Worst a0 a1 a2).1) && ((routing_Worst a0 a1 a2).2 == (ref22_Worst a0 a1 a2).2)) && ((routing_Need a0 a1 a3).1 == (ref22_Need a0 a1 a3).1)) && ((routing_Need a0 a1 a3).2.1 == (ref22_Need a0 a1 a3).2.1)) && ((routing_Need a0 a1 a3).2.2 == (ref22_Need a0 a1 a3).2.2))))
def law22_RoutingSpec_p (a0 : District) (a1 : Int) (a2 : Int) (a3 : Int) : Prop := ((law22_sane_p) ∧ ((!law22_sane) = false → ((!(ref22_Few a0 ([]))) = false → ((routing_Worst_p a0 a1 a2) ∧ ((ref22_Worst_p a0 a1 a2) ∧ ((routing_Need_p a0 a1 a3) ∧ (ref22_Need_p a0 a1 a3)))))))
@[go_sem] def C_law22_RoutingSpec : List SV → Option Con := (pD .district fun a0 => (pI fun a1 => (pI fun a2 => (pI fun a3 => (pE (.det (law22_RoutingSpec_p a0 a1 a2 a3) (.v (.bool (law22_RoutingSpec a0 a1 a2 a3)))))))))
theorem ok_law22_RoutingSpec : FnOk Tryz.prog 3 C_law22_RoutingSpec := by
  have hG : ConsOk Tryz.prog (mkG [(6, C_law22_sane), (7, fun l => C_ref22_Few (nrmA [.st .district, .sl .order] l)), (8, fun l => C_routing_Worst (nrmA [.st .district, .o, .o] l)), (9, fun l => C_ref22_Worst (nrmA [.st .district, .o, .o] l)), (10, fun l => C_routing_Need (nrmA [.st .district, .o, .o] l)), (11, fun l => C_ref22_Need (nrmA [.st .district, .o, .o] l))] []) := mkG_ok (cgc ok_law22_sane (cgc (ok_ref22_Few.norm [.st .district, .sl .order]) (cgc (ok_routing_Worst.norm [.st .district, .o, .o]) (cgc (ok_ref22_Worst.norm [.st .district, .o, .o]) (cgc (ok_routing_Need.norm [.st .district, .o, .o]) (cgc (ok_ref22_Need.norm [.st .district, .o, .o]) cg0)))))) cg0
  refine fn_okN [.o] mixed ts_ok hG (fn := Tryz.f3) (c := bodyOf Tryz.f3) (by kernel_rfl) (by kernel_rfl) (by kernel_rfl) (by kernel_rfl) (pD_all fun a0 => (pI_all fun a1 => (pI_all fun a2 => (pI_all fun a3 => (pE_all (fun hp => ?_))))))
  dsimp only [conPre] at hp
  unfold law22_RoutingSpec_p at hp
  refine ⟨Nat.le_of_ble_eq_true rfl, L0, loopsOk0 _, ?_⟩
  · unfold bodyOf Tryz.f3
    try unfold law22_RoutingSpec
    simp only [go_sem, Nat.reduceBEq, Nat.reduceLeDiff, Nat.reduceLT, decide_true, Nat.reduceAdd, Nat.reduceSub, Nat.reduceMul, Int.reduceLE, Int.reduceLT, Int.reduceToNat, Int.reduceNeg, reduceCtorEq]
    all_goals exact cl
end Go.Sx
end
